/-
  Part 9 of the proof: V51, R05, V35, K30, V33, V79, K31, V11.
-/
import Derived.Test.YtegikhoholfcmaaGreatM08
namespace Go.Sx.Tryz
open Go Go.Sx Go.Proofs
set_option maxRecDepth 100000
set_option linter.unusedVariables false
noncomputable def c51 : Code := (Tryz.f51.body).getD .skip
def a51 : Ann := (.seq .leaf (.seq .leaf (.seq (.seq .leaf (.inn (.loop [(4, .one (.sl)), (5, .one (.i .i64))] (.seq (.seq .leaf (.br .leaf .leaf)) (.seq (.inn (.seq .leaf (.seq (.seq .leaf (.br .leaf .leaf)) (.seq .leaf (.seq (.inn (.loop [(8, .one (.i .i64))] (.seq (.seq .leaf (.br .leaf .leaf)) (.inn (.seq .leaf (.seq (.seq .leaf (.br .leaf .leaf)) .leaf)))))) (.seq .leaf (.seq .leaf (.seq .leaf .leaf)))))))) .leaf))))) (.seq .leaf (.seq (.seq .leaf (.inn (.loop [(13, .one (.i .i64))] (.seq (.seq .leaf (.br .leaf .leaf)) (.seq (.inn (.seq (.reg (.q 0 (.q 1 (.q 2 (.q 3 (.q 4 (.q 5 (.q 6 (.q 7 (.q 8 (.q 9 (.q 10 (.q 11 (.q 12 (.q 13 (.q 14 (.m 15 (.q 16 (.q 17 (.q 18 (.m 19 (.m 20 (.q 21 (.fin)) (.nil)) (.nil))))) (.m 19 (.m 15 (.q 16 (.q 17 (.q 18 (.m 20 (.q 21 (.fin)) (.nil))))) (.nil)) (.nil))))))))))))))))))) (.seq (.seq .leaf (.br (.seq .leaf .leaf) .leaf)) .leaf))) .leaf))))) (.seq .leaf .leaf))))))
theorem ok51 : okC tab 101 true c51 a51 = true := by kernel_rfl
theorem vc51 (files_ : Sl) (h : Heap) (R : Value → Heap → Prop)
  (hv : ∀ b1 h1, Fresh h (.cells #[.int .u64 0, .int .u64 0, .slice none 0 0, .slice none 0 0, .int .i64 0] 119) b1 h1 →
   ∃ (I1 : Sl → Int → Heap → Prop) (mu1 : Sl → Int → Heap → Nat), I1 ⟨none, 0, 0⟩ 0 h1 ∧ (∀ x1 : Sl, ∀ n1 : Int, ∀ h2, I1 x1 n1 h2 → ∀ _ : Env,
   CondP (decide ((n1 : Int) < ((files_.l : Nat) : Int))) (
   ((0 : Int) ≤ n1 ∧ (n1 : Int) < ((files_.l : Nat) : Int)) ∧
   NilP files_.a (fun b2 o1 =>
   ∃ x2 : Sl, cellH h2 b2 (o1 + n1.toNat) = some (.slice x2.a x2.l x2.c) ∧
   CallsH Tryz.prog 109 #[.slice x2.a x2.l x2.c] h2 (fun r1 h3 => ∃ n2 : Int, ∃ t1 : Bool, r1 = .tuple #[.int .u64 n2, .bool t1] ∧
   CondP (!t1) (
   I1 x1 (IntKind.i64.wrap (n1 + 1)) h3 ∧ mu1 x1 (IntKind.i64.wrap (n1 + 1)) h3 < mu1 x1 n1 h2) (
   ∃ (I2 : Int → Heap → Prop) (mu2 : Int → Heap → Nat), I2 ((x1.l : Nat) : Int) h3 ∧ (∀ n3 : Int, ∀ h4, I2 n3 h4 → ∀ _ : Env,
   CondP (decide ((n3 : Int) > 0)) (
   ((0 : Int) ≤ IntKind.i64.wrap (n3 - 1) ∧ (IntKind.i64.wrap (n3 - 1) : Int) < ((x1.l : Nat) : Int)) ∧
   NilP x1.a (fun b3 o2 =>
   ∃ n4 : Int, cellH h4 b3 (o2 + (IntKind.i64.wrap (n3 - 1)).toNat) = some (.int .i64 n4) ∧
   ((0 : Int) ≤ n4 ∧ (n4 : Int) < ((files_.l : Nat) : Int)) ∧
   NilP files_.a (fun b4 o3 =>
   ∃ x3 : Sl, cellH h4 b4 (o3 + n4.toNat) = some (.slice x3.a x3.l x3.c) ∧
   CallsH Tryz.prog 109 #[.slice x3.a x3.l x3.c] h4 (fun r2 h5 => ∃ n5 : Int, ∃ t2 : Bool, r2 = .tuple #[.int .u64 n5, .bool t2] ∧
   CondP (decide ((n5 : Int) ≤ n2)) (
   ((0 : Int) ≤ (0 : Int) ∧ (0 : Int) ≤ n3 ∧ n3 ≤ ((x1.c : Nat) : Int)) ∧
   RunK Tryz.prog (.sl) (Builtin.append_ #[45, 45] 45 #[.slice none 0 0, .slice (subA x1.a 0 x1.c 1) n3.toNat x1.c]) h5 (fun x4 h6 =>
   ∀ b5 h7, Fresh h6 (.cells #[.int .i64 n1] 3) b5 h7 →
   RunK Tryz.prog (.sl) (Builtin.append_ #[45, 45] 45 #[.slice x4.a x4.l x4.c, .slice (some ⟨b5, 0, none⟩) 1 1]) h7 (fun x5 h8 =>
   ((0 : Int) ≤ n3 ∧ n3 ≤ ((x1.l : Nat) : Int)) ∧
   RunK Tryz.prog (.sl) (Builtin.append_ #[45, 45] 45 #[.slice x5.a x5.l x5.c, .slice (subA x1.a n3.toNat x1.c 1) (x1.l - n3.toNat) (x1.c - n3.toNat)]) h8 (fun x6 h9 =>
   I1 x6 (IntKind.i64.wrap (n1 + 1)) h9 ∧ mu1 x6 (IntKind.i64.wrap (n1 + 1)) h9 < mu1 x1 n1 h2)))) (
   I2 (IntKind.i64.wrap (n3 - 1)) h5 ∧ mu2 (IntKind.i64.wrap (n3 - 1)) h5 < mu2 n3 h4))))) (
   ((0 : Int) ≤ (0 : Int) ∧ (0 : Int) ≤ n3 ∧ n3 ≤ ((x1.c : Nat) : Int)) ∧
   RunK Tryz.prog (.sl) (Builtin.append_ #[45, 45] 45 #[.slice none 0 0, .slice (subA x1.a 0 x1.c 1) n3.toNat x1.c]) h4 (fun x7 h10 =>
   ∀ b6 h11, Fresh h10 (.cells #[.int .i64 n1] 3) b6 h11 →
   RunK Tryz.prog (.sl) (Builtin.append_ #[45, 45] 45 #[.slice x7.a x7.l x7.c, .slice (some ⟨b6, 0, none⟩) 1 1]) h11 (fun x8 h12 =>
   ((0 : Int) ≤ n3 ∧ n3 ≤ ((x1.l : Nat) : Int)) ∧
   RunK Tryz.prog (.sl) (Builtin.append_ #[45, 45] 45 #[.slice x8.a x8.l x8.c, .slice (subA x1.a n3.toNat x1.c 1) (x1.l - n3.toNat) (x1.c - n3.toNat)]) h12 (fun x9 h13 =>
   I1 x9 (IntKind.i64.wrap (n1 + 1)) h13 ∧ mu1 x9 (IntKind.i64.wrap (n1 + 1)) h13 < mu1 x1 n1 h2))))))))) (
   ∀ b7 h14, Fresh h2 (.cells #[.int .u64 0, .int .u64 0, .slice none 0 0, .slice none 0 0, .int .i64 0] 119) b7 h14 →
   CanSt h14 b7 0 [.int .u64 0, .int .u64 0, .slice none 0 0, .slice none 0 0, .int .i64 ((x1.l : Nat) : Int)] ∧ ∀ h15, Stored h14 b7 0 [.int .u64 0, .int .u64 0, .slice none 0 0, .slice none 0 0, .int .i64 ((x1.l : Nat) : Int)] h15 →
   ∃ (I3 : Int → Heap → Prop) (mu3 : Int → Heap → Nat), I3 0 h15 ∧ (∀ n6 : Int, ∀ h16, I3 n6 h16 → ∀ _ : Env,
   CondP (decide ((n6 : Int) < ((x1.l : Nat) : Int))) (
   ∃ n7 : Int, ∃ n8 : Int, ∃ x10 : Sl, ∃ x11 : Sl, ∃ n9 : Int, CellsAt h16 b7 0 [.int .u64 n7, .int .u64 n8, .slice x10.a x10.l x10.c, .slice x11.a x11.l x11.c, .int .i64 n9] ∧
   ((0 : Int) ≤ n6 ∧ (n6 : Int) < ((x1.l : Nat) : Int)) ∧
   NilP x1.a (fun b8 o4 =>
   ∃ n10 : Int, cellH h16 b8 (o4 + n6.toNat) = some (.int .i64 n10) ∧
   ((0 : Int) ≤ n10 ∧ (n10 : Int) < ((files_.l : Nat) : Int)) ∧
   NilP files_.a (fun b9 o5 =>
   ∃ x12 : Sl, cellH h16 b9 (o5 + n10.toNat) = some (.slice x12.a x12.l x12.c) ∧
   (CallsH Tryz.prog 110 #[.agg #[.int .u64 n7, .int .u64 n8, .slice x10.a x10.l x10.c, .slice x11.a x11.l x11.c, .int .i64 n9], .slice x12.a x12.l x12.c, .bool ((n6 : Int) == 0), .bool ((n6 : Int) == (IntKind.i64.wrap (((x1.l : Nat) : Int) - 1)))] h16 (fun r3 h17 => ∃ n11 : Int, ∃ n12 : Int, ∃ x13 : Sl, ∃ x14 : Sl, ∃ n13 : Int, ∃ n14 : Int, r3 = .tuple #[.agg #[.int .u64 n11, .int .u64 n12, .slice x13.a x13.l x13.c, .slice x14.a x14.l x14.c, .int .i64 n13], .int .i64 n14] ∧
   ∀ b10 h18, Fresh h17 (.cells #[.int .u64 0, .int .u64 0, .slice none 0 0, .slice none 0 0, .int .i64 0] 119) b10 h18 →
   CanSt h18 b10 0 [.int .u64 n11, .int .u64 n12, .slice x13.a x13.l x13.c, .slice x14.a x14.l x14.c, .int .i64 n13] ∧ ∀ h19, Stored h18 b10 0 [.int .u64 n11, .int .u64 n12, .slice x13.a x13.l x13.c, .slice x14.a x14.l x14.c, .int .i64 n13] h19 →
   CondP ((n14 : Int) != 0) (
   CanSt h19 b1 0 [.int .u64 0, .int .u64 0, .slice none 0 0, .slice none 0 0, .int .i64 0] ∧ ∀ h20, Stored h19 b1 0 [.int .u64 0, .int .u64 0, .slice none 0 0, .slice none 0 0, .int .i64 0] h20 →
   ∃ n15 : Int, ∃ n16 : Int, ∃ x15 : Sl, ∃ x16 : Sl, ∃ n17 : Int, CellsAt h20 b1 0 [.int .u64 n15, .int .u64 n16, .slice x15.a x15.l x15.c, .slice x16.a x16.l x16.c, .int .i64 n17] ∧
   R (.tuple #[.agg #[.int .u64 n15, .int .u64 n16, .slice x15.a x15.l x15.c, .slice x16.a x16.l x16.c, .int .i64 n17], .int .i64 n14]) h20) (
   ∃ n18 : Int, ∃ n19 : Int, ∃ x17 : Sl, ∃ x18 : Sl, ∃ n20 : Int, CellsAt h19 b10 0 [.int .u64 n18, .int .u64 n19, .slice x17.a x17.l x17.c, .slice x18.a x18.l x18.c, .int .i64 n20] ∧
   CanSt h19 b7 0 [.int .u64 n18, .int .u64 n19, .slice x17.a x17.l x17.c, .slice x18.a x18.l x18.c, .int .i64 n20] ∧ ∀ h21, Stored h19 b7 0 [.int .u64 n18, .int .u64 n19, .slice x17.a x17.l x17.c, .slice x18.a x18.l x18.c, .int .i64 n20] h21 →
   I3 (IntKind.i64.wrap (n6 + 1)) h21 ∧ mu3 (IntKind.i64.wrap (n6 + 1)) h21 < mu3 n6 h16))) ∧
   (∀ b11 h22, Fresh h16 (.cells #[.int .u64 0, .int .u64 0, .slice none 0 0, .slice none 0 0, .int .i64 0] 119) b11 h22 →
   cellH h22 b9 (o5 + n10.toNat) = some (.slice x12.a x12.l x12.c) ∧
   cellH h22 b8 (o4 + n6.toNat) = some (.int .i64 n10) ∧
   CellsAt h22 b7 0 [.int .u64 n7, .int .u64 n8, .slice x10.a x10.l x10.c, .slice x11.a x11.l x11.c, .int .i64 n9] ∧
   CallsH Tryz.prog 110 #[.agg #[.int .u64 n7, .int .u64 n8, .slice x10.a x10.l x10.c, .slice x11.a x11.l x11.c, .int .i64 n9], .slice x12.a x12.l x12.c, .bool ((n6 : Int) == 0), .bool ((n6 : Int) == (IntKind.i64.wrap (((x1.l : Nat) : Int) - 1)))] h22 (fun r4 h23 => ∃ n21 : Int, ∃ n22 : Int, ∃ x19 : Sl, ∃ x20 : Sl, ∃ n23 : Int, ∃ n24 : Int, r4 = .tuple #[.agg #[.int .u64 n21, .int .u64 n22, .slice x19.a x19.l x19.c, .slice x20.a x20.l x20.c, .int .i64 n23], .int .i64 n24] ∧
   CanSt h23 b11 0 [.int .u64 n21, .int .u64 n22, .slice x19.a x19.l x19.c, .slice x20.a x20.l x20.c, .int .i64 n23] ∧ ∀ h24, Stored h23 b11 0 [.int .u64 n21, .int .u64 n22, .slice x19.a x19.l x19.c, .slice x20.a x20.l x20.c, .int .i64 n23] h24 →
   CondP ((n24 : Int) != 0) (
   CanSt h24 b1 0 [.int .u64 0, .int .u64 0, .slice none 0 0, .slice none 0 0, .int .i64 0] ∧ ∀ h25, Stored h24 b1 0 [.int .u64 0, .int .u64 0, .slice none 0 0, .slice none 0 0, .int .i64 0] h25 →
   ∃ n25 : Int, ∃ n26 : Int, ∃ x21 : Sl, ∃ x22 : Sl, ∃ n27 : Int, CellsAt h25 b1 0 [.int .u64 n25, .int .u64 n26, .slice x21.a x21.l x21.c, .slice x22.a x22.l x22.c, .int .i64 n27] ∧
   R (.tuple #[.agg #[.int .u64 n25, .int .u64 n26, .slice x21.a x21.l x21.c, .slice x22.a x22.l x22.c, .int .i64 n27], .int .i64 n24]) h25) (
   ∃ n28 : Int, ∃ n29 : Int, ∃ x23 : Sl, ∃ x24 : Sl, ∃ n30 : Int, CellsAt h24 b11 0 [.int .u64 n28, .int .u64 n29, .slice x23.a x23.l x23.c, .slice x24.a x24.l x24.c, .int .i64 n30] ∧
   CanSt h24 b7 0 [.int .u64 n28, .int .u64 n29, .slice x23.a x23.l x23.c, .slice x24.a x24.l x24.c, .int .i64 n30] ∧ ∀ h26, Stored h24 b7 0 [.int .u64 n28, .int .u64 n29, .slice x23.a x23.l x23.c, .slice x24.a x24.l x24.c, .int .i64 n30] h26 →
   I3 (IntKind.i64.wrap (n6 + 1)) h26 ∧ mu3 (IntKind.i64.wrap (n6 + 1)) h26 < mu3 n6 h16)))))) (
   ∃ n31 : Int, ∃ n32 : Int, ∃ x25 : Sl, ∃ x26 : Sl, ∃ n33 : Int, CellsAt h16 b7 0 [.int .u64 n31, .int .u64 n32, .slice x25.a x25.l x25.c, .slice x26.a x26.l x26.c, .int .i64 n33] ∧
   CanSt h16 b1 0 [.int .u64 n31, .int .u64 n32, .slice x25.a x25.l x25.c, .slice x26.a x26.l x26.c, .int .i64 n33] ∧ ∀ h27, Stored h16 b1 0 [.int .u64 n31, .int .u64 n32, .slice x25.a x25.l x25.c, .slice x26.a x26.l x26.c, .int .i64 n33] h27 →
   ∃ n34 : Int, ∃ n35 : Int, ∃ x27 : Sl, ∃ x28 : Sl, ∃ n36 : Int, CellsAt h27 b1 0 [.int .u64 n34, .int .u64 n35, .slice x27.a x27.l x27.c, .slice x28.a x28.l x28.c, .int .i64 n36] ∧
   R (.tuple #[.agg #[.int .u64 n34, .int .u64 n35, .slice x27.a x27.l x27.c, .slice x28.a x28.l x28.c, .int .i64 n36], .int .i64 0]) h27))))) :
  CallsH Tryz.prog 51 #[.slice files_.a files_.l files_.c] h R :=
  calls_of_vc tabOk mixed Tryz.func51 (c := c51) (by kernel_rfl) (n := 101) rfl (rs := [.cell 2 119, .tmp 3]) (by kernel_rfl) ok51 (args := [.slice files_.a files_.l files_.c]) (Nat.le_of_ble_eq_true rfl) (Eq.mpr (by kernel_rfl) hv)
end Go.Sx.Tryz
namespace Go.Sx.Tryz
open Go Go.Sx Go.Proofs
set_option linter.unusedVariables false
set_option maxRecDepth 20000
section
variable {H H' : Heap} {S : PH} {R : List Asn}
theorem appI {v x : Sl} {us ys : List Nat} (hs : Sat H S (ownI v us :: R)) (hx : Rd S x 1 (iV ys)) (hb : us.length + ys.length < 1000000)
    {K : Sl → Heap → Prop} (hk : ∀ v' H', Sat H' S (ownI v' (us ++ ys) :: R) → K v' H') :
    RunK Tryz.prog .sl (Builtin.append_ #[45, 45] 45 #[.slice v.a v.l v.c, .slice x.a x.l x.c]) H K := by
  have hvl := (ownI.len hs).1
  have hl := hx.1
  rw [iV_len] at hl
  refine append_own el45 hs (m := x.l) (c := x.c) (news := iV ys) (by rw [iV_len]; omega) ?_ (iV_one ys) (by omega) (by unfold maxLen; omega) fun v' H' hv' hs' => hk v' H' ?_
  · rcases Nat.eq_zero_or_pos x.l with h | h
    · exact .inl h
    · exact .inr (Rd.at hx hs h)
  · have e : iV us ++ iV ys = iV (us ++ ys) := by simp [iV]
    rw [e] at hs'; exact hs'
theorem oneI {v : Sl} {us : List Nat} {n b : Nat} (hs : Sat H S (lst b 3 (iV [n]) :: ownI v us :: R)) (hb : us.length < 1000000)
    {K : Sl → Heap → Prop} (hk : ∀ v' H', Sat H' S (ownI v' (us ++ [n]) :: R) → K v' H') :
    RunK Tryz.prog .sl (Builtin.append_ #[45, 45] 45 #[.slice v.a v.l v.c, .slice (some ⟨b, 0, none⟩) 1 1]) H K := by
  have hvl := (ownI.len hs.swap).1
  refine append_one el45 (v := v) (xs := iV us) hs rfl (iV_one _) (by omega) (by unfold maxLen; omega) fun v' H' hv' hs' => hk v' H' ?_
  have e : iV us ++ iV [n] = iV (us ++ [n]) := by simp [iV]
  rw [e] at hs'; exact hs'
theorem iV_take (l : List Nat) (k : Nat) : (iV l).take (k * 1) = iV (l.take k) := by rw [Nat.mul_one, iV, iV, List.map_take]
theorem iV_drop (l : List Nat) (k : Nat) : (iV l).drop (k * 1) = iV (l.drop k) := by rw [Nat.mul_one, iV, iV, List.map_drop]
theorem RdI.take {x : Sl} {l : List Nat} (h : Rd S x 1 (iV l)) {k : Nat} (hk : k ≤ l.length) : Rd S ⟨subA x.a 0 x.c 1, k, x.c⟩ 1 (iV (l.take k)) := by
  have hl := h.1
  rw [iV_len] at hl
  have hc := h.2.1
  rcases Nat.eq_zero_or_pos k with h0 | h0
  · subst h0; exact ⟨by simp [iV], Nat.zero_le _, .inl rfl⟩
  · rw [subA_zero (Rd.spot3 h (by omega))]
    have := Rd.take h (k := k) (m := x.c) (by omega) (by omega)
    rw [iV_take] at this; exact this
theorem RdI.drop {x : Sl} {l : List Nat} (h : Rd S x 1 (iV l)) {k : Nat} (hk : k ≤ l.length) : Rd S ⟨subA x.a k x.c 1, x.l - k, x.c - k⟩ 1 (iV (l.drop k)) := by
  have hl := h.1
  rw [iV_len] at hl
  have := Rd.drop h (k := k) (by omega)
  rw [iV_drop] at this; exact this
theorem sorted_insert {ser : Nat → Nat} {l : List Nat} {k n : Nat} (hk : k ≤ l.length) (hl : l.Pairwise fun a b => ser a ≤ ser b) (h1 : ∀ j (h : j < l.length), k ≤ j → ser n ≤ ser l[j]) (h2 : k = 0 ∨ ∃ h : k - 1 < l.length, ser l[k - 1] ≤ ser n) :
    (l.take k ++ n :: l.drop k).Pairwise (fun a b => ser a ≤ ser b) := by
  have hl' := hl
  rw [List.pairwise_iff_getElem] at hl
  have hbef : ∀ a ∈ l.take k, ser a ≤ ser n := by
    intro a ha
    obtain ⟨j, hj, rfl⟩ := List.getElem_of_mem ha
    rw [List.length_take] at hj
    rw [List.getElem_take]
    rcases h2 with h2 | ⟨h2, h3⟩
    · omega
    · rcases Nat.lt_or_ge j (k - 1) with h | h
      · exact Nat.le_trans (hl j (k - 1) (by omega) h2 h) h3
      · have : j = k - 1 := by omega
        subst this; exact h3
  have haft : ∀ b ∈ l.drop k, ser n ≤ ser b := by
    intro b hb
    obtain ⟨j, hj, rfl⟩ := List.getElem_of_mem hb
    rw [List.getElem_drop]
    exact h1 _ _ (by omega)
  refine List.pairwise_append.2 ⟨hl'.sublist (List.take_sublist _ _), List.pairwise_cons.2 ⟨haft, hl'.sublist (List.drop_sublist _ _)⟩, ?_⟩
  intro a ha b hb
  rcases List.mem_cons.1 hb with rfl | hb
  · exact hbef a ha
  · exact Nat.le_trans (hbef a ha) (haft b hb)
set_option maxHeartbeats 2000000 in
theorem rscan_spec {fv : Sl} {vs : List Sl} {hds : List (Option Hd)} {Ls : List Nat} {rsf : Nat → List Rec} {tl : Nat → List UInt8} {pl : PL} (hs : Sat H S R) (hf : Rd S fv 1 (fV vs)) (hl : vs.length = hds.length) (hn : vs.length < 20) (hok : ∀ i (h : i < vs.length), FOk S vs[i] ((hds[i]?).getD none))
    (hperm : (ixs hds vs.length).Perm Ls) (hstr : Ls.Pairwise fun a b => serOf hds a < serOf hds b)
    (hseg : ∀ k (h : k < Ls.length) (h2 : Ls[k] < vs.length), SegOk S vs[Ls[k]] (rsf Ls[k]) (tl Ls[k]) ∧ (tl Ls[k] = [] ∨ k + 1 = Ls.length) ∧ vs[Ls[k]].l < 100000000)
    (hrun : readAll true ⟨0, 0, []⟩ (Ls.map rsf) = some pl)
    {K : Value → Heap → Prop} (hK : ∀ (y : Sl) H' S', PH.le S S' → EL S' y pl.es → Sat H' S' R → K (.tuple #[.agg (rfV pl y Ls.length).toArray, .int .i64 0]) H') : CallsH Tryz.prog 51 #[.slice fv.a fv.l fv.c] H K := by
  apply vc51
  intro b1 h1 f1
  have hs1 : Sat h1 S (lst b1 119 zrV :: R) := hs.fresh f1
  have hfl : fv.l = vs.length := by have := hf.1; simp [fV] at this; omega
  have hfile : ∀ (S' : PH) (h : Heap) (L : List Asn) (i : Nat) (hi : i < vs.length), PH.le S S' → Sat h S' L → ∃ fb fo, fv.a = some ⟨fb, fo, none⟩ ∧ cellH h fb (fo + i) = some (.slice vs[i].a vs[i].l vs[i].c) := by
    intro S' h L i hi hS hh
    obtain ⟨fb, fo, fa, fc⟩ := Rd.at (hf.mono hS) hh (by omega)
    exact ⟨fb, fo, fa, by have := fc.get i (.slice vs[i].a vs[i].l vs[i].c) (by simp [fV, hi]); simpa using this⟩
  refine ⟨fun x n h => ∃ (i : Nat) (S' : PH) (l : List Nat), n = i ∧ i ≤ vs.length ∧ PH.le S S' ∧ Rd S' x 1 (iV l) ∧ l.Perm (ixs hds i) ∧ l.Pairwise (fun a b => serOf hds a ≤ serOf hds b) ∧ Sat h S' (lst b1 119 zrV :: R), fun _ n _ => vs.length - n.toNat, ⟨0, S, [], rfl, Nat.zero_le _, PH.le.refl _, Rd.nil _ _, .refl _, .nil, hs1⟩, ?_⟩
  rintro x n h2 ⟨i, S1, l, rfl, hi, hS1, hx, hp, hpw, hs2⟩ _
  have hxl : x.l = l.length := by have := hx.1; rw [iV_len] at this; omega
  have hll : l.length ≤ i := by rw [hp.length_eq]; exact ixs_len hds i
  have hmem : ∀ j (h : j < l.length), l[j] < i ∧ isSeg hds l[j] = true := fun j h => mem_ixs.1 (hp.subset (List.getElem_mem h))
  refine CondP.of (fun hc => ?_) (fun hc => ?_)
  · have hc : i < vs.length := by simp at hc; omega
    obtain ⟨fb, fo, fa, fc⟩ := hfile S1 h2 _ i hc hS1 hs2
    refine ⟨⟨by omega, by omega⟩, NilP.of fa ⟨vs[i], by simpa using fc, ?_⟩⟩
    have hfi := (hok i hc).mono hS1
    have e1 : IntKind.i64.wrap ((i : Int) + 1) = ((i + 1 : Nat) : Int) := i64_succ (by omega)
    rw [e1]
    simp only [Int.toNat_natCast]
    cases hh : (hds[i]?).getD none with
    | none =>
      rw [hh] at hfi
      obtain ⟨t, t1, t2⟩ := hfi
      refine rfirst_torn hs2 t1 t2 fun h3 hs3 => ⟨_, _, rfl, CondP.of (fun _ => ?_) fun hc => by cases hc⟩
      have hsg : isSeg hds i = false := by rw [isSeg, hh]; rfl
      have e2 : ixs hds (i + 1) = ixs hds i := by rw [ixs_succ, if_neg (by rw [hsg]; simp), List.append_nil]
      exact ⟨⟨i + 1, S1, l, rfl, hc, hS1, hx, by rw [e2]; exact hp, hpw, hs3⟩, by omega⟩
    | some hd =>
      rw [hh] at hfi
      obtain ⟨k0, rest, k1, k2⟩ := hfi
      refine rfirst_ok hs2 k1 k0 k2 fun h3 S2 hS2 hs3 => ⟨_, _, rfl, CondP.of (fun hc => by cases hc) fun _ => ?_⟩
      have hsg : isSeg hds i = true := by rw [isSeg, hh]; rfl
      have hse : serOf hds i = hd.serial := by rw [serOf, hh]
      have e2 : ixs hds (i + 1) = ixs hds i ++ [i] := by rw [ixs_succ, if_pos hsg]
      have ins : ∀ (k : Nat) (h : Heap) (S3 : PH), PH.le S2 S3 → k ≤ l.length → (∀ j (h : j < l.length), k ≤ j → serOf hds i ≤ serOf hds l[j]) → (k = 0 ∨ ∃ h : k - 1 < l.length, serOf hds l[k - 1] ≤ serOf hds i) → Sat h S3 (lst b1 119 zrV :: R) →
          ((0 : Int) ≤ (0 : Int) ∧ (0 : Int) ≤ (k : Int) ∧ (k : Int) ≤ ((x.c : Nat) : Int)) ∧
          RunK Tryz.prog (.sl) (Builtin.append_ #[45, 45] 45 #[.slice none 0 0, .slice (subA x.a 0 x.c 1) k x.c]) h (fun x7 h10 =>
          ∀ b6 h11, Fresh h10 (.cells #[.int .i64 (i : Int)] 3) b6 h11 →
          RunK Tryz.prog (.sl) (Builtin.append_ #[45, 45] 45 #[.slice x7.a x7.l x7.c, .slice (some ⟨b6, 0, none⟩) 1 1]) h11 (fun x8 h12 =>
          ((0 : Int) ≤ (k : Int) ∧ (k : Int) ≤ ((x.l : Nat) : Int)) ∧
          RunK Tryz.prog (.sl) (Builtin.append_ #[45, 45] 45 #[.slice x8.a x8.l x8.c, .slice (subA x.a k x.c 1) (x.l - k) (x.c - k)]) h12 (fun x9 h13 =>
          (∃ (i' : Nat) (S' : PH) (l : List Nat), ((i + 1 : Nat) : Int) = i' ∧ i' ≤ vs.length ∧ PH.le S S' ∧ Rd S' x9 1 (iV l) ∧ l.Perm (ixs hds i') ∧ l.Pairwise (fun a b => serOf hds a ≤ serOf hds b) ∧ Sat h13 S' (lst b1 119 zrV :: R)) ∧ vs.length - (i + 1) < vs.length - i))) := by
        intro k h S3 hS3 hk ha hb hh3
        have hxc := hx.2.1
        have hx3 := hx.mono (hS2.trans hS3)
        refine ⟨⟨by omega, by omega, by omega⟩, ?_⟩
        refine appI (v := ⟨none, 0, 0⟩) (us := []) (own.new 3 1 hh3) (RdI.take hx3 hk) (by rw [List.length_take]; simp; omega) fun v1 h10 hs4 => ?_
        intro b6 h11 f11
        have hs5 : Sat h11 S3 (lst b6 3 (iV [i]) :: ownI v1 (l.take k) :: lst b1 119 zrV :: R) := hs4.fresh f11
        refine oneI hs5 (by rw [List.length_take]; omega) fun v2 h12 hs6 => ⟨⟨by omega, by omega⟩, ?_⟩
        refine appI hs6 (RdI.drop hx3 hk) (by rw [List.length_append, List.length_take, List.length_drop]; simp; omega) fun v3 h13 hs7 => ?_
        obtain ⟨S4, q1, q2, q3⟩ := own.fixd hs7
        have e3 : l.take k ++ [i] ++ l.drop k = l.take k ++ i :: l.drop k := by simp
        rw [e3] at q2
        refine ⟨⟨i + 1, S4, l.take k ++ i :: l.drop k, rfl, hc, ((hS1.trans hS2).trans hS3).trans q1, q2, ?_, sorted_insert hk hpw ha hb, q3⟩, by omega⟩
        rw [e2]
        refine List.Perm.trans List.perm_middle ?_
        rw [List.take_append_drop]
        exact ((hp.cons i).trans (List.perm_append_singleton i _).symm)
      refine ⟨fun m h => ∃ (k : Nat) (S3 : PH), m = k ∧ k ≤ l.length ∧ PH.le S2 S3 ∧ (∀ j (h : j < l.length), k ≤ j → serOf hds i ≤ serOf hds l[j]) ∧ Sat h S3 (lst b1 119 zrV :: R), fun m _ => m.toNat, ⟨l.length, S2, by rw [hxl], Nat.le_refl _, PH.le.refl _, (fun j h h2 => by omega), hs3⟩, ?_⟩
      rintro m h4 ⟨k, S3, rfl, hk, hS3, hge, hs4⟩ _
      refine CondP.of (fun hc2 => ?_) (fun hc2 => ?_)
      · have hk0 : 0 < k := by simp at hc2; omega
        have ek : IntKind.i64.wrap ((k : Int) - 1) = ((k - 1 : Nat) : Int) := by rw [i64_in (by omega) (by omega)]; omega
        rw [ek]
        simp only [Int.toNat_natCast]
        have hk1 : k - 1 < l.length := by omega
        obtain ⟨gb, go, ga, gc⟩ := Rd.at (hx.mono (hS2.trans hS3)) hs4 (by omega)
        have hgc := gc.get (k - 1) (.int .i64 (l[k - 1] : Int)) (by simp [iV, hk1])
        obtain ⟨hm1, hm2⟩ := hmem (k - 1) hk1
        have hmv : l[k - 1] < vs.length := by omega
        refine ⟨⟨by omega, by omega⟩, NilP.of ga ⟨_, hgc, ⟨by omega, by omega⟩, ?_⟩⟩
        obtain ⟨fb, fo, fa, fc⟩ := hfile S3 h4 _ _ hmv ((hS1.trans hS2).trans hS3) hs4
        simp only [Int.toNat_natCast]
        refine NilP.of fa ⟨vs[l[k - 1]], fc, ?_⟩
        have hfj := (hok _ hmv).mono ((hS1.trans hS2).trans hS3)
        cases hh2 : (hds[l[k - 1]]?).getD none with
        | none => rw [isSeg, hh2] at hm2; cases hm2
        | some hd2 =>
          rw [hh2] at hfj
          obtain ⟨j0, rest2, j1, j2⟩ := hfj
          have hse2 : serOf hds l[k - 1] = hd2.serial := by rw [serOf, hh2]
          refine rfirst_ok hs4 j1 j0 j2 fun h5 S4 hS4 hs5 => ⟨_, _, rfl, CondP.of (fun hc3 => ?_) fun hc3 => ?_⟩
          · have hc3 := of_decide_eq_true hc3
            exact ins k h5 S4 (hS3.trans hS4) hk hge (.inr ⟨hk1, by rw [hse2, hse]; omega⟩) hs5
          · have hc3 := of_decide_eq_false hc3
            refine ⟨⟨k - 1, S4, rfl, by omega, hS3.trans hS4, fun j hj hj2 => ?_, hs5⟩, by omega⟩
            rcases Nat.lt_or_ge (k - 1) j with h | h
            · exact hge j hj (by omega)
            · have : j = k - 1 := by omega
              subst this; rw [hse2, hse]; omega
      · have hk0 : k = 0 := by simp at hc2; omega
        subst hk0
        exact ins 0 h4 S3 hS3 (Nat.zero_le _) hge (.inl rfl) hs4
  · have hc : i = vs.length := by simp at hc; omega
    subst hc
    have hL : l = Ls := strict_unique (hp.trans hperm) hpw hstr
    subst hL
    intro b7 h14 f14
    have hs3 : Sat h14 S1 (lst b7 119 zrV :: lst b1 119 zrV :: R) := hs2.fresh f14
    refine hs3.store (by simp [zrV]) fun h15 hs4 => ?_
    obtain ⟨p, p0, p1, p2⟩ := readAll_path hrun
    have hs4 : Sat h15 S1 (lst b7 119 (rfV (p 0) ⟨none, 0, 0⟩ x.l) :: lst b1 119 zrV :: R) := by rw [p0]; exact hs4
    have hLl : l.length < 20 := by omega
    have hpc : ∀ k, k ≤ l.length → (p k).Con ∧ (p k).es.length ≤ k * 30000 := by
      intro k
      induction k with
      | zero => intro _; rw [p0]; exact ⟨PL.Con.nil 0 0, by simp⟩
      | succ k ih =>
        intro hk
        obtain ⟨h1, h2⟩ := ih (by omega)
        obtain ⟨s, q1, q2⟩ := p2 k (by rw [List.length_map]; omega)
        have := foldM_con q1 h1
        rw [q2] at this
        have h3 := ((hseg k hk (by have := (hmem k hk).1; omega)).1).2.2.2.2
        simp only [List.getElem_map] at this
        exact ⟨this.1, by have h4 := this.2; rw [Nat.add_mul]; omega⟩
    refine ⟨fun m h => ∃ (k : Nat) (S' : PH) (y : Sl), m = k ∧ k ≤ l.length ∧ PH.le S1 S' ∧ EL S' y (p k).es ∧ Sat h S' (lst b7 119 (rfV (p k) y x.l) :: lst b1 119 zrV :: R), fun m _ => l.length - m.toNat, ⟨0, S1, ⟨none, 0, 0⟩, rfl, Nat.zero_le _, PH.le.refl _, by rw [p0]; exact EL.nil _, hs4⟩, ?_⟩
    rintro m h16 ⟨k, S2, y, rfl, hk, hS2, hy, hs5⟩ _
    refine CondP.of (fun hc => ?_) (fun hc => ?_)
    · have hc : k < l.length := by simp at hc; omega
      have hm := (hmem k hc).1
      obtain ⟨gb, go, ga, gc⟩ := Rd.at (hx.mono hS2) hs5 (by omega)
      have hgc := gc.get k (.int .i64 (l[k] : Int)) (by simp [iV, hc])
      obtain ⟨fb, fo, fa, fc⟩ := hfile S2 h16 _ _ hm (hS1.trans hS2) hs5
      simp only [Int.toNat_natCast]
      refine ⟨_, _, ⟨none, 0, 0⟩, y, _, hs5.cells 0 rfl, ⟨by omega, by omega⟩, NilP.of ga ⟨_, hgc, ⟨by omega, by omega⟩, ?_⟩⟩
      simp only [Int.toNat_natCast]
      refine NilP.of fa ⟨vs[l[k]], fc, ?_⟩
      obtain ⟨⟨g1, g2, g3, g4, g5⟩, g6, g7⟩ := hseg k hc hm
      obtain ⟨s, q1, q2⟩ := p2 k (by simpa using hc)
      have e1 : ((k : Int) == 0) = (true && k == 0) := by
        have := beq_nat_int k 0
        simpa using this
      have e2 : ((k : Int) == IntKind.i64.wrap (((x.l : Nat) : Int) - 1)) = decide (k + 1 = l.length) := by
        rw [i64_in (by omega) (by omega), hxl]
        rcases Decidable.em (k + 1 = l.length) with h | h
        · rw [decide_eq_true h, show (k : Int) = ((l.length : Nat) : Int) - 1 by omega]; simp
        · rw [decide_eq_false h]
          exact beq_eq_false_iff_ne.2 (by omega)
      rw [e1, e2]
      simp only [List.getElem_map] at q1
      have hpk := hpc k hk
      have rd : ∀ (h : Heap) (L : List Asn), Sat h S2 L → ∀ {K : Value → Heap → Prop}, (∀ (y' : Sl) H' S', PH.le S2 S' → EL S' y' (p (k + 1)).es → Sat H' S' L → K (.tuple #[.agg (rfV (p (k + 1)) y' x.l).toArray, .int .i64 0]) H') →
          CallsH Tryz.prog 110 #[.agg (rfV (p k) y x.l).toArray, .slice vs[l[k]].a vs[l[k]].l vs[l[k]].c, .bool (true && k == 0), .bool (decide (k + 1 = l.length))] h K := by
        intro h L hh K hK'
        refine rfile_ok hh hy (g1.mono (hS1.trans hS2)) g2 g3 (g6.imp id fun h => decide_eq_true h) q1 hpk.1 (by omega) g7 fun y' h4 S3 hS3 hy' hs6 => ?_
        rw [q2] at hy' ⊢
        exact hK' y' h4 S3 hS3 hy' hs6
      rw [i64_succ (by omega)]
      refine ⟨?_, fun b11 h22 f22 => ?_⟩
      · refine rd h16 _ hs5 fun y' h17 S3 hS3 hy' hs6 => ⟨_, _, ⟨none, 0, 0⟩, y', _, _, rfl, ?_⟩
        intro b10 h18 f18
        have hs7 : Sat h18 S3 (lst b10 119 zrV :: lst b7 119 (rfV (p k) y x.l) :: lst b1 119 zrV :: R) := hs6.fresh f18
        refine hs7.store (by simp [zrV]) fun h19 hs8 => CondP.of (fun hc => by simp at hc) fun _ => ?_
        have hs8 : Sat h19 S3 (lst b10 119 (rfV (p (k + 1)) y' x.l) :: lst b7 119 (rfV (p k) y x.l) :: lst b1 119 zrV :: R) := hs8
        refine ⟨_, _, ⟨none, 0, 0⟩, y', _, hs8.cells 0 rfl, ?_⟩
        refine hs8.swap.store (by simp [rfV]) fun h21 hs9 => ?_
        have hs9 : Sat h21 S3 (lst b7 119 (rfV (p (k + 1)) y' x.l) :: lst b10 119 (rfV (p (k + 1)) y' x.l) :: lst b1 119 zrV :: R) := hs9
        exact ⟨⟨k + 1, S3, y', rfl, hc, hS2.trans hS3, hy', hs9.del 1⟩, by simp only [Int.toNat_natCast]; omega⟩
      · have hs6 : Sat h22 S2 (lst b11 119 zrV :: lst b7 119 (rfV (p k) y x.l) :: lst b1 119 zrV :: R) := hs5.fresh f22
        obtain ⟨gb2, go2, ga2, gc2⟩ := Rd.at (hx.mono hS2) hs6 (by omega)
        rw [ga] at ga2; cases ga2
        have hgc2 := gc2.get k (.int .i64 (l[k] : Int)) (by simp [iV, hc])
        obtain ⟨fb2, fo2, fa2, fc2⟩ := hfile S2 h22 _ _ hm (hS1.trans hS2) hs6
        rw [fa] at fa2; cases fa2
        refine ⟨fc2, hgc2, hs6.swap.cells 0 rfl, ?_⟩
        refine rd h22 _ hs6 fun y' h23 S3 hS3 hy' hs7 => ⟨_, _, ⟨none, 0, 0⟩, y', _, _, rfl, ?_⟩
        refine hs7.store (by simp [zrV]) fun h24 hs8 => CondP.of (fun hc => by simp at hc) fun _ => ?_
        have hs8 : Sat h24 S3 (lst b11 119 (rfV (p (k + 1)) y' x.l) :: lst b7 119 (rfV (p k) y x.l) :: lst b1 119 zrV :: R) := hs8
        refine ⟨_, _, ⟨none, 0, 0⟩, y', _, hs8.cells 0 rfl, ?_⟩
        refine hs8.swap.store (by simp [rfV]) fun h21 hs9 => ?_
        have hs9 : Sat h21 S3 (lst b7 119 (rfV (p (k + 1)) y' x.l) :: lst b11 119 (rfV (p (k + 1)) y' x.l) :: lst b1 119 zrV :: R) := hs9
        exact ⟨⟨k + 1, S3, y', rfl, hc, hS2.trans hS3, hy', hs9.del 1⟩, by simp only [Int.toNat_natCast]; omega⟩
    · have hc : k = l.length := by simp at hc; omega
      subst hc
      have hpl : p l.length = pl := by
        have := p1
        rw [List.length_map] at this
        exact this
      rw [hpl, hxl] at hs5
      rw [hpl] at hy
      refine ⟨_, _, ⟨none, 0, 0⟩, y, _, hs5.cells 0 rfl, ?_⟩
      refine hs5.swap.store (by simp [zrV]) fun h27 hs6 => ?_
      have hs6 : Sat h27 S2 (lst b1 119 (rfV pl y l.length) :: lst b7 119 (rfV pl y l.length) :: R) := hs6
      exact ⟨_, _, ⟨none, 0, 0⟩, y, _, hs6.cells 0 rfl, hK y h27 S2 (hS1.trans hS2) hy hs6.drop.drop⟩
end
end Go.Sx.Tryz
namespace Go.Sx.Tryz
open Go Go.Sx Go.Proofs
set_option maxRecDepth 100000
set_option linter.unusedVariables false
noncomputable def c35 : Code := (Tryz.f35.body).getD .skip
def a35 : Ann := (.seq .leaf (.seq (.seq .leaf (.seq .leaf (.br (.seq .leaf .leaf) .leaf))) (.seq (.seq .leaf (.br (.seq .leaf .leaf) .leaf)) (.seq .leaf (.seq .leaf (.seq (.seq (.reg (.q 0 (.q 1 (.q 2 (.q 3 (.q 4 (.q 5 (.q 6 (.q 7 (.q 8 (.q 9 (.q 10 (.q 11 (.q 12 (.q 13 (.q 14 (.q 15 (.fin)))))))))))))))))) (.br (.seq .leaf (.seq (.seq .leaf (.seq .leaf (.br (.seq .leaf .leaf) .leaf))) (.seq .leaf (.seq .leaf (.seq .leaf .leaf))))) .leaf)) (.seq .leaf (.seq .leaf (.seq .leaf (.seq (.seq .leaf (.br (.seq .leaf .leaf) .leaf)) (.seq .leaf (.seq .leaf .leaf))))))))))))
theorem ok35 : okC tab 91 true c35 a35 = true := by kernel_rfl
theorem vc35 (j_b j_o : Nat) (from_ : Int) (h : Heap) (R : Value → Heap → Prop)
  (hv : CallsH Tryz.prog 77 #[.pointer (some ⟨j_b, j_o, none⟩)] h (fun r1 h1 => ∃ n1 : Int, r1 = .int .i64 n1 ∧
   CondP ((n1 : Int) != 0) (
   R (.int .i64 n1) h1) (
   CallsH Tryz.prog 88 #[.pointer (some ⟨j_b, j_o + 4, none⟩), .int .u64 from_] h1 (fun r2 h2 => ∃ t1 : Bool, r2 = .bool t1 ∧
   CondP (!t1) (
   R (.int .i64 2) h2) (
   ∃ n2 : Int, ∃ n3 : Int, ∃ x1 : Sl, ∃ x2 : Sl, CellsAt h2 j_b (j_o + 4) [.int .u64 n2, .int .u64 n3, .slice x1.a x1.l x1.c, .slice x2.a x2.l x2.c] ∧
   ∀ b1 h3, Fresh h2 (.cells #[.int .u64 0, .int .u64 0, .slice none 0 0, .slice none 0 0] 94) b1 h3 →
   CanSt h3 b1 0 [.int .u64 n2, .int .u64 n3, .slice x1.a x1.l x1.c, .slice x2.a x2.l x2.c] ∧ ∀ h4, Stored h3 b1 0 [.int .u64 n2, .int .u64 n3, .slice x1.a x1.l x1.c, .slice x2.a x2.l x2.c] h4 →
   ∃ x3 : Sl, cellH h4 b1 3 = some (.slice x3.a x3.l x3.c) ∧
   ∃ n4 : Int, cellH h4 b1 0 = some (.int .u64 n4) ∧
   ((0 : Int) ≤ (0 : Int) ∧ (0 : Int) ≤ IntKind.u64.wrap ((IntKind.u64.wrap (from_ - 1)) - n4) ∧ IntKind.u64.wrap ((IntKind.u64.wrap (from_ - 1)) - n4) ≤ ((x3.c : Nat) : Int)) ∧
   CallsH Tryz.prog 89 #[.slice (subA x3.a 0 x3.c 3) ((IntKind.u64.wrap ((IntKind.u64.wrap (from_ - 1)) - n4)).toNat) x3.c] h4 (fun r3 h5 => ∃ x4 : Sl, r3 = .slice x4.a x4.l x4.c ∧
   CanSt h5 b1 3 [.slice x4.a x4.l x4.c] ∧ ∀ h6, Stored h5 b1 3 [.slice x4.a x4.l x4.c] h6 →
   ∃ x5 : Sl, cellH h6 j_b (j_o + 8) = some (.slice x5.a x5.l x5.c) ∧
   ∃ x6 : Sl, cellH h6 j_b (j_o + 8) = some (.slice x6.a x6.l x6.c) ∧
   ((0 : Int) ≤ IntKind.i64.wrap (((x6.l : Nat) : Int) - 1) ∧ (IntKind.i64.wrap (((x6.l : Nat) : Int) - 1) : Int) < ((x5.l : Nat) : Int)) ∧
   NilP x5.a (fun b2 o1 =>
   ∃ n5 : Int, cellH h6 b2 (o1 + ((IntKind.i64.wrap (((x6.l : Nat) : Int) - 1)).toNat) * 5 + 1 + 2) = some (.int .u64 n5) ∧
   CondP (decide ((from_ : Int) ≤ n5)) (
   CallsH Tryz.prog 78 #[.pointer (some ⟨b1, 0, none⟩)] h6 (fun r4 h7 => ∃ n6 : Int, ∃ n7 : Int, ∃ x7 : Sl, r4 = .agg #[.int .u64 n6, .int .u64 n7, .slice x7.a x7.l x7.c] ∧
   ∀ b3 h8, Fresh h7 (.cells #[.int .u64 0, .int .u64 0, .slice none 0 0] 85) b3 h8 →
   CanSt h8 b3 0 [.int .u64 n6, .int .u64 n7, .slice x7.a x7.l x7.c] ∧ ∀ h9, Stored h8 b3 0 [.int .u64 n6, .int .u64 n7, .slice x7.a x7.l x7.c] h9 →
   ∃ n8 : Int, cellH h9 b3 0 = some (.int .u64 n8) ∧
   ∃ n9 : Int, cellH h9 b3 1 = some (.int .u64 n9) ∧
   CallsH Tryz.prog 90 #[.pointer (some ⟨j_b, j_o, none⟩), .agg #[.int .u64 0, .bool false, .int .u64 n8, .int .u64 n9]] h9 (fun r5 h10 => ∃ n10 : Int, r5 = .int .i64 n10 ∧
   CondP ((n10 : Int) != 0) (
   R (.int .i64 n10) h10) (
   ∃ n11 : Int, ∃ n12 : Int, ∃ x8 : Sl, ∃ x9 : Sl, CellsAt h10 b1 0 [.int .u64 n11, .int .u64 n12, .slice x8.a x8.l x8.c, .slice x9.a x9.l x9.c] ∧
   CanSt h10 j_b (j_o + 4) [.int .u64 n11, .int .u64 n12, .slice x8.a x8.l x8.c, .slice x9.a x9.l x9.c] ∧ ∀ h11, Stored h10 j_b (j_o + 4) [.int .u64 n11, .int .u64 n12, .slice x8.a x8.l x8.c, .slice x9.a x9.l x9.c] h11 →
   CallsH Tryz.prog 43 #[.pointer (some ⟨j_b, j_o, none⟩)] h11 (fun r6 h12 => r6 = .tuple #[] ∧
   CallsH Tryz.prog 91 #[.pointer (some ⟨j_b, j_o, none⟩)] h12 (fun r7 h13 => ∃ n13 : Int, r7 = .int .i64 n13 ∧
   R (.int .i64 n13) h13)))))) (
   ∀ b4 h14, Fresh h6 (.cells #[.slice none 0 0] 145) b4 h14 →
   ∀ b5 h15, Fresh h14 (.cells #[.int .u64 from_] 32) b5 h15 →
   CallsH Tryz.prog 80 #[.pointer (some ⟨b4, 0, none⟩), .slice (some ⟨b5, 0, none⟩) 1 1] h15 (fun r8 h16 => r8 = .tuple #[] ∧
   CallsH Tryz.prog 83 #[.pointer (some ⟨b4, 0, none⟩)] h16 (fun r9 h17 => ∃ x10 : Sl, r9 = .slice x10.a x10.l x10.c ∧
   CallsH Tryz.prog 82 #[.int .u8 3, .slice x10.a x10.l x10.c] h17 (fun r10 h18 => ∃ x11 : Sl, ∃ n14 : Int, r10 = .tuple #[.slice x11.a x11.l x11.c, .int .i64 n14] ∧
   CallsH Tryz.prog 85 #[.pointer (some ⟨j_b, j_o, none⟩)] h18 (fun r11 h19 => ∃ n15 : Int, r11 = .int .i64 n15 ∧
   CallsH Tryz.prog 87 #[.pointer (some ⟨j_b, j_o, none⟩), .int .i64 n15, .slice x11.a x11.l x11.c] h19 (fun r12 h20 => ∃ t2 : Bool, r12 = .bool t2 ∧
   CondP (!t2) (
   R (.int .i64 70) h20) (
   ∃ n16 : Int, ∃ n17 : Int, ∃ x12 : Sl, ∃ x13 : Sl, CellsAt h20 b1 0 [.int .u64 n16, .int .u64 n17, .slice x12.a x12.l x12.c, .slice x13.a x13.l x13.c] ∧
   CanSt h20 j_b (j_o + 4) [.int .u64 n16, .int .u64 n17, .slice x12.a x12.l x12.c, .slice x13.a x13.l x13.c] ∧ ∀ h21, Stored h20 j_b (j_o + 4) [.int .u64 n16, .int .u64 n17, .slice x12.a x12.l x12.c, .slice x13.a x13.l x13.c] h21 →
   R (.int .i64 0) h21)))))))))))))) :
  CallsH Tryz.prog 35 #[.pointer (some ⟨j_b, j_o, none⟩), .int .u64 from_] h R :=
  calls_of_vc tabOk mixed Tryz.func35 (c := c35) (by kernel_rfl) (n := 91) rfl (rs := [.tmp 4]) (by kernel_rfl) ok35 (args := [.pointer (some ⟨j_b, j_o, none⟩), .int .u64 from_]) (Nat.le_of_ble_eq_true rfl) (Eq.mpr (by kernel_rfl) hv)
end Go.Sx.Tryz
namespace Go.Sx.Tryz
open Go Go.Sx Go.Proofs
set_option linter.unusedVariables false
section
variable {H H' : Heap} {S : PH} {R : List Asn} {jb : Nat} {J : Jn}
def Lg.upto (g : Lg) (fr : Nat) : Lg := { g with es := g.es.take (fr - 1 - g.fi) }
def Jn.cutJ (J : Jn) (D : Dk) (fr : Nat) : Nat × Dk × Jn :=
  if J.broken = true then (70, D, J) else if mayB J.log.fi J.log.last.1.i fr = false then (2, D, J) else
  if fr ≤ idxAt J.segs (J.segs.length - 1) then
    (if (J.another D ⟨0, false, (J.log.upto fr).last.1.i, (J.log.upto fr).last.1.t⟩).1 ≠ 0 then J.another D ⟨0, false, (J.log.upto fr).last.1.i, (J.log.upto fr).last.1.t⟩ else
      ((Jn.idle { (J.another D ⟨0, false, (J.log.upto fr).last.1.i, (J.log.upto fr).last.1.t⟩).2.2 with log := J.log.upto fr } (J.another D ⟨0, false, (J.log.upto fr).last.1.i, (J.log.upto fr).last.1.t⟩).2.1).2.ans,
       Jn.idle { (J.another D ⟨0, false, (J.log.upto fr).last.1.i, (J.log.upto fr).last.1.t⟩).2.2 with log := J.log.upto fr } (J.another D ⟨0, false, (J.log.upto fr).last.1.i, (J.log.upto fr).last.1.t⟩).2.1))
  else if (J.write D (fileAt J.segs (J.segs.length - 1)) (parcelB 3 (natB fr))).1 = true then
    (0, (J.write D (fileAt J.segs (J.segs.length - 1)) (parcelB 3 (natB fr))).2.1, { (J.write D (fileAt J.segs (J.segs.length - 1)) (parcelB 3 (natB fr))).2.2 with log := J.log.upto fr })
  else (70, (J.write D (fileAt J.segs (J.segs.length - 1)) (parcelB 3 (natB fr))).2)
theorem ready_cases {b : Bool} (h : (((if b = true then 70 else 0 : Nat) : Int) != 0) = true) : b = true := by
  cases b with
  | true => rfl
  | false => simp at h
theorem ready_cases' {b : Bool} (h : (((if b = true then 70 else 0 : Nat) : Int) != 0) = false) : b = false := by
  cases b with
  | false => rfl
  | true => simp at h
theorem ne_cases {n : Nat} (h : ((n : Int) != 0) = true) : n ≠ 0 := by
  intro h0; rw [h0] at h; simp at h
theorem ne_cases' {n : Nat} (h : ((n : Int) != 0) = false) : n = 0 := by
  have : (n : Int) = 0 := by simpa using h
  omega
theorem cut_specJ {D : Dk} {fr : Nat} (hs : Sat H S (jA jb J :: dsk J.d D :: R)) (hb : J.first + J.many ≤ 32) (hfl : ∀ x ∈ J.segs, x.file < 32) (hsl : J.segs.length < 100000) (h0 : 0 < J.segs.length) (hlen : J.log.es.length < 1000000) (hfr : fr < 18446744073709551616) (hcon : J.log.Con)
    (hok : J.free ≠ [] → (J.fix ⟨0, false, (J.log.upto fr).last.1.i, (J.log.upto fr).last.1.t⟩).ok)
    {K : Value → Heap → Prop} (hK : ∀ H' S', PH.le S S' → Sat H' S' (jA jb (J.cutJ D fr).2.2 :: dsk J.d (J.cutJ D fr).2.1 :: R) → K (.int .i64 ((J.cutJ D fr).1 : Int)) H') : CallsH Tryz.prog 35 #[.pointer (some ⟨jb, 0, none⟩), .int .u64 (fr : Int)] H K := by
  apply vc35
  refine ready_spec hs ⟨_, rfl, CondP.of (fun hc => ?_) (fun hc => ?_)⟩
  · have hb := ready_cases hc
    have e : J.cutJ D fr = (70, D, J) := by rw [Jn.cutJ, if_pos hb]
    have := hK H S (PH.le.refl _) (by rw [e]; exact hs)
    rw [e] at this
    rw [if_pos hb]; exact this
  have hbr := ready_cases' hc
  have hbr' : ¬ J.broken = true := by rw [hbr]; simp
  obtain ⟨ve, vs, hs1⟩ := jA_open hs
  refine may_spec (pre := [.pointer (some ⟨J.d, 0, none⟩), .int .i64 (J.first : Int), .int .i64 (J.many : Int), .int .i64 (J.each : Int)]) (post := [.slice vs.a vs.l vs.c, .bool J.broken]) hs1 (by omega) hfr fun h2 hs2 => ⟨_, rfl, ?_⟩
  have hs2 : Sat h2 S (lst jb 97 (jcs J ve vs) :: ownE ve J.log.es :: ownS vs J.segs :: dsk J.d D :: R) := hs2
  have hml : mayB J.log.fi (lastE J.log.fi J.log.ft J.log.es).1.i fr = mayB J.log.fi J.log.last.1.i fr := rfl
  rw [hml]
  refine CondP.of (fun hc => ?_) (fun hc => ?_)
  · have hm : mayB J.log.fi J.log.last.1.i fr = false := by simpa using hc
    have e : J.cutJ D fr = (2, D, J) := by rw [Jn.cutJ, if_neg hbr', if_pos hm]
    have := hK h2 S (PH.le.refl _) (by rw [e]; exact jA_shut hs2)
    rw [e] at this; exact this
  have hm : mayB J.log.fi J.log.last.1.i fr = true := by simpa using hc
  have hm' : ¬ mayB J.log.fi J.log.last.1.i fr = false := by rw [hm]; simp
  have hmm : J.log.fi < fr ∧ fr - 1 ≤ J.log.last.1.i := by
    unfold mayB at hm
    rw [Bool.and_eq_true] at hm
    exact ⟨of_decide_eq_true hm.1, of_decide_eq_true hm.2⟩
  unfold Lg.Con at hcon
  have hce : J.cutJ D fr = if fr ≤ idxAt J.segs (J.segs.length - 1) then
    (if (J.another D ⟨0, false, (J.log.upto fr).last.1.i, (J.log.upto fr).last.1.t⟩).1 ≠ 0 then J.another D ⟨0, false, (J.log.upto fr).last.1.i, (J.log.upto fr).last.1.t⟩ else
      ((Jn.idle { (J.another D ⟨0, false, (J.log.upto fr).last.1.i, (J.log.upto fr).last.1.t⟩).2.2 with log := J.log.upto fr } (J.another D ⟨0, false, (J.log.upto fr).last.1.i, (J.log.upto fr).last.1.t⟩).2.1).2.ans,
       Jn.idle { (J.another D ⟨0, false, (J.log.upto fr).last.1.i, (J.log.upto fr).last.1.t⟩).2.2 with log := J.log.upto fr } (J.another D ⟨0, false, (J.log.upto fr).last.1.i, (J.log.upto fr).last.1.t⟩).2.1))
    else if (J.write D (fileAt J.segs (J.segs.length - 1)) (parcelB 3 (natB fr))).1 = true then
      (0, (J.write D (fileAt J.segs (J.segs.length - 1)) (parcelB 3 (natB fr))).2.1, { (J.write D (fileAt J.segs (J.segs.length - 1)) (parcelB 3 (natB fr))).2.2 with log := J.log.upto fr })
    else (70, (J.write D (fileAt J.segs (J.segs.length - 1)) (parcelB 3 (natB fr))).2) := by
    rw [Jn.cutJ, if_neg hbr', if_neg hm']
  refine ⟨_, _, ⟨none, 0, 0⟩, ve, hs2.cells 4 rfl, ?_⟩
  intro b1 h3 f3
  have hs3 := hs2.fresh f3
  have hs3 : Sat h3 S (lst b1 94 [.int .u64 0, .int .u64 0, .slice none 0 0, .slice none 0 0] :: lst jb 97 (jcs J ve vs) :: ownE ve J.log.es :: ownS vs J.segs :: dsk J.d D :: R) := hs3
  refine hs3.store (Nat.le_refl _) fun h4 hs4 => ?_
  have hs4 : Sat h4 S (lst b1 94 (lgV J.log.fi J.log.ft ve) :: lst jb 97 (jcs J ve vs) :: ownE ve J.log.es :: ownS vs J.segs :: dsk J.d D :: R) := hs4
  have ew : IntKind.u64.wrap (IntKind.u64.wrap ((fr : Int) - 1) - (J.log.fi : Int)) = ((fr - 1 - J.log.fi : Nat) : Int) := by
    rw [u64_in (n := (fr : Int) - 1) (by omega) (by omega), u64_in (by omega) (by omega)]; omega
  obtain ⟨hl, hlc⟩ := ownE.len (hs4.pick 2 rfl)
  refine ⟨ve, hs4.cell 3 rfl, _, hs4.cell 0 rfl, ?_⟩
  rw [ew]
  simp only [Int.toNat_natCast]
  refine ⟨⟨by omega, by omega, by omega⟩, ?_⟩
  have hcl := ownE.reads (hs4.pick 2 rfl) (fr - 1 - J.log.fi) (by omega) ve.c
  refine cloneE_spec (v := ⟨subA ve.a 0 ve.c 3, fr - 1 - J.log.fi, ve.c⟩) hs4 hcl (by rw [List.length_take]; omega) fun w h5 hs5 => ⟨w, rfl, ?_⟩
  refine hs5.swap.store (by simp [lgV]) fun h6 hs6 => ?_
  have hs6 : Sat h6 S (lst b1 94 (lgV (J.log.upto fr).fi (J.log.upto fr).ft w) :: ownE w (J.log.upto fr).es :: lst jb 97 (jcs J ve vs) :: ownE ve J.log.es :: ownS vs J.segs :: dsk J.d D :: R) := hs6
  have hjb := hs6.pick 2 rfl
  have hc8 := hjb.cell 8 (v := .slice vs.a vs.l vs.c) rfl
  have hvl := (ownS.len (hs6.pick 4 rfl)).1
  have ew2 : IntKind.i64.wrap (((vs.l : Nat) : Int) - 1) = ((J.segs.length - 1 : Nat) : Int) := by rw [i64_in (by omega) (by omega)]; omega
  refine ⟨vs, hc8, vs, hc8, ?_⟩
  rw [ew2]
  simp only [Int.toNat_natCast]
  obtain ⟨g, ga, gc⟩ := ownS.at (hs6.pick 4 rfl) (k := J.segs.length - 1) (by omega)
  obtain ⟨hfa, _, hix⟩ := getSeg (l := J.segs) (i := J.segs.length - 1) (by omega)
  refine ⟨⟨by omega, by omega⟩, NilP.of ga ⟨((J.segs[J.segs.length - 1]'(by omega)).head.i : Int), ?_, ?_⟩⟩
  · have := gc.get 3 _ rfl
    simpa using this
  have ed : decide ((fr : Int) ≤ ((J.segs[J.segs.length - 1]'(by omega)).head.i : Int)) = decide (fr ≤ idxAt J.segs (J.segs.length - 1)) := decide_eq_decide.2 (by rw [hix]; exact Int.ofNat_le)
  rw [ed]
  have hs7 : Sat h6 S (jA jb J :: dsk J.d D :: lst b1 94 (lgV (J.log.upto fr).fi (J.log.upto fr).ft w) :: ownE w (J.log.upto fr).es :: R) := by
    have := (hs6.sel [2, 2, 2])
    exact (jA_shut this).sel [0, 2]
  have setl : ∀ (hh : Heap) (SS : PH) (D' : Dk) (J' : Jn), Sat hh SS (jA jb J' :: dsk J.d D' :: lst b1 94 (lgV (J.log.upto fr).fi (J.log.upto fr).ft w) :: ownE w (J.log.upto fr).es :: R) →
      ∀ (Q : Heap → Prop), (∀ H', Sat H' SS (jA jb { J' with log := J.log.upto fr } :: dsk J.d D' :: R) → Q H') →
      ∃ n11 : Int, ∃ n12 : Int, ∃ x8 : Sl, ∃ x9 : Sl, CellsAt hh b1 0 [.int .u64 n11, .int .u64 n12, .slice x8.a x8.l x8.c, .slice x9.a x9.l x9.c] ∧
       CanSt hh jb 4 [.int .u64 n11, .int .u64 n12, .slice x8.a x8.l x8.c, .slice x9.a x9.l x9.c] ∧ ∀ h11, Stored hh jb 4 [.int .u64 n11, .int .u64 n12, .slice x8.a x8.l x8.c, .slice x9.a x9.l x9.c] h11 → Q h11 := by
    intro hh SS D' J' hx Q hQ
    obtain ⟨ve', vs', hy⟩ := jA_open hx
    refine ⟨_, _, ⟨none, 0, 0⟩, w, (hy.pick 4 rfl).cells 0 rfl, ?_⟩
    refine set_log (S := SS) (J := J') (ve := ve') (vs := vs') (vs' := w) (g := J.log.upto fr) (R := ownE ve' J'.log.es :: dsk J.d D' :: lst b1 94 (lgV (J.log.upto fr).fi (J.log.upto fr).ft w) :: R) ?_ fun h8 hz => hQ h8 ?_
    · exact hy.sel [5, 0, 1]
    · exact (hz.del 1).del 2
  refine CondP.of (fun hc => ?_) (fun hc => ?_)
  · have hle := of_decide_eq_true hc
    rw [if_pos hle] at hce
    refine last_spec (pre := []) (post := []) (v := w) (fi := (J.log.upto fr).fi) (ft := (J.log.upto fr).ft) (es := (J.log.upto fr).es) (S := S) (T := 94) (gb := b1) (R := jA jb J :: dsk J.d D :: R) (hs7.sel [2, 2]) (by show (List.take _ _).length < _; rw [List.length_take]; omega) fun h7 hs8 => ⟨_, _, _, rfl, ?_⟩
    intro b3 h8 f8
    have hs9 := hs8.fresh f8
    refine Sat.store (T := 85) (l := [.int .u64 0, .int .u64 0, .slice none 0 0]) hs9 (Nat.le_refl _) fun h9 hs10 => ?_
    have hs10 : Sat h9 S (lst b3 85 (eV (J.log.upto fr).last) :: lst b1 94 (lgV (J.log.upto fr).fi (J.log.upto fr).ft w) :: ownE w (J.log.upto fr).es :: jA jb J :: dsk J.d D :: R) := hs10
    refine ⟨_, hs10.cell 0 rfl, _, hs10.cell 1 rfl, ?_⟩
    refine another_spec (h := ⟨0, false, (J.log.upto fr).last.1.i, (J.log.upto fr).last.1.t⟩) (hs10.sel [3, 3]) hb (by omega) hok fun h10 S1 hS1 hs11 => ⟨_, rfl, ?_⟩
    obtain ⟨a1, a2, a3, a4, a5, a6⟩ := another_cases J D ⟨0, false, (J.log.upto fr).last.1.i, (J.log.upto fr).last.1.t⟩
    generalize J.another D ⟨0, false, (J.log.upto fr).last.1.i, (J.log.upto fr).last.1.t⟩ = W at *
    refine CondP.of (fun hc2 => ?_) (fun hc2 => ?_)
    · have hz := ne_cases hc2
      rw [if_pos hz] at hce
      have := hK h10 S1 hS1 (by rw [hce]; exact (((hs11.del 2).del 2).del 2))
      rw [hce] at this; exact this
    have hz := ne_cases' hc2
    rw [if_neg (by rw [hz]; simp)] at hce
    rcases a6 with ⟨h, _⟩ | ⟨n, hn, _, hsg⟩
    · exact absurd hz h
    refine setl h10 S1 W.2.1 W.2.2 (hs11.del 2) _ fun h11 hs12 => ?_
    have hfl2 : ∀ x ∈ W.2.2.segs, x.file < 32 := by
      intro x hx
      rw [hsg] at hx
      rcases List.mem_append.1 hx with h | h
      · exact hfl x h
      · simp only [List.mem_singleton] at h
        subst h; exact free_lt hb hn
    have hln : W.2.2.segs.length = J.segs.length + 1 := by rw [hsg]; simp
    rw [← a1] at hs12
    refine idle_spec (J := { W.2.2 with log := J.log.upto fr }) hs12 hfl2 (by show W.2.2.segs.length < _; omega) (by show 0 < W.2.2.segs.length; omega) fun h12 hs13 => ⟨rfl, ?_⟩
    refine answer_spec hs13 ⟨_, rfl, ?_⟩
    have := hK h12 S1 hS1 (by rw [hce]; rw [← a1]; exact hs13)
    rw [hce] at this; exact this
  · have hle := of_decide_eq_false hc
    rw [if_neg hle] at hce
    intro b4 h7 f7
    have hs8 : Sat h7 S (lst b4 145 [.slice none 0 0] :: jA jb J :: dsk J.d D :: lst b1 94 (lgV (J.log.upto fr).fi (J.log.upto fr).ft w) :: ownE w (J.log.upto fr).es :: R) := hs7.fresh f7
    have hw : Sat h7 S (wr b4 [] :: jA jb J :: dsk J.d D :: lst b1 94 (lgV (J.log.upto fr).fi (J.log.upto fr).ft w) :: ownE w (J.log.upto fr).es :: R) := wr_shut (v := ⟨none, 0, 0⟩) (own.new 5 1 hs8).swap
    intro b5 h8 f8
    refine Nat_new f8 hw (ns := [fr]) rfl (by intro m hm; simp at hm; omega) (by simp) (by simp) rfl fun h9 hs9 => ⟨rfl, ?_⟩
    have e1 : ([] ++ nats [fr]) = natB fr := by simp [nats]
    rw [e1] at hs9
    have hnl := natB_le hfr
    refine Bytes_spec hs9 (by omega) fun x2 h10 S1 hS1 hs10 hr10 => ⟨x2, rfl, ?_⟩
    refine Wrap_spec hs10 hr10 (kind := 3) (by decide) (by omega) fun x3 h11 S2 hS2 hs11 => ⟨x3, _, rfl, ?_⟩
    obtain ⟨S3, q1, q2, q3⟩ := own.fixd hs11
    have hs12 := q3.sel [1, 1]
    refine current_spec hs12 (k := J.segs.length - 1) (by omega) (by omega) ⟨_, rfl, ?_⟩
    rw [← hfa]
    have hpl := parcelB_len 3 (natB fr)
    have hn10 := natB_le (n := (natB fr).length) (by omega)
    have hf32 : fileAt J.segs (J.segs.length - 1) < 32 := by rw [hfa]; exact hfl _ (List.getElem_mem _)
    refine write_spec (f := fileAt J.segs (J.segs.length - 1)) hf32 hs12 q2 (by rw [hpl]; omega) fun h12 hs13 => ⟨_, rfl, ?_⟩
    have hle' := (hS1.trans hS2).trans q1
    generalize J.write D (fileAt J.segs (J.segs.length - 1)) (parcelB 3 (natB fr)) = W at *
    refine CondP.of (fun hc2 => ?_) (fun hc2 => ?_)
    · have hz : ¬ W.1 = true := by simpa using hc2
      rw [if_neg hz] at hce
      have := hK h12 S3 hle' (by rw [hce]; exact (((hs13.del 2).del 2).del 2))
      rw [hce] at this; exact this
    · have hz : W.1 = true := by simpa using hc2
      rw [if_pos hz] at hce
      refine setl h12 S3 W.2.1 W.2.2 (hs13.del 2) _ fun h13 hs14 => ?_
      have := hK h13 S3 hle' (by rw [hce]; exact hs14)
      rw [hce] at this; exact this
end
end Go.Sx.Tryz
namespace Go.Sx.Tryz
open Go Go.Sx Go.Proofs
set_option maxRecDepth 100000
set_option linter.unusedVariables false
noncomputable def c33 : Code := (Tryz.f33.body).getD .skip
def a33 : Ann := (.seq .leaf (.seq (.seq .leaf (.seq .leaf (.br (.seq .leaf .leaf) .leaf))) (.seq .leaf (.seq .leaf (.seq (.seq .leaf (.inn (.loop [(7, .one (.sl)), (27, .one (.i .i64))] (.seq .leaf (.seq (.br .leaf .leaf) (.seq (.inn (.seq .leaf (.seq (.seq .leaf (.br (.seq .leaf .leaf) .leaf)) (.seq .leaf (.seq .leaf (.seq .leaf (.seq .leaf (.seq .leaf .leaf)))))))) .leaf)))))) (.join [] (.join [(72, .one (.b))] (.reg (.q 0 (.q 1 (.q 2 (.q 3 (.q 4 (.q 7 (.q 8 (.q 9 (.q 10 (.m 5 (.m 6 (.q 11 (.q 12 (.q 13 (.m 14 (.q 15 (.q 16 (.q 17 (.fin)))) (.nil))))) (.nil)) (.nil)))))))))))) (.br (.seq .leaf .leaf) .leaf)) (.seq (.join [(95, .one (.b))] .leaf (.br (.seq .leaf .leaf) .leaf)) (.seq (.seq .leaf (.inn (.loop [(98, .one (.i .i64))] (.seq .leaf (.seq (.br .leaf .leaf) (.seq (.inn (.seq .leaf (.seq .leaf (.reg (.q 0 (.q 1 (.q 2 (.q 3 (.q 4 (.q 5 (.q 6 (.m 7 (.m 8 (.q 9 (.q 10 (.q 11 (.m 12 (.fin) (.nil))))) (.nil)) (.nil))))))))))))) .leaf)))))) (.seq .leaf .leaf)))))))))
theorem ok33 : okC tab 119 true c33 a33 = true := by kernel_rfl
theorem vc33 (j_b j_o : Nat) (l_ : Sl) (h : Heap) (R : Value → Heap → Prop)
  (hv : CallsH Tryz.prog 77 #[.pointer (some ⟨j_b, j_o, none⟩)] h (fun r1 h1 => ∃ n1 : Int, r1 = .int .i64 n1 ∧
   CondP ((n1 : Int) != 0) (
   R (.int .i64 n1) h1) (
   CallsH Tryz.prog 78 #[.pointer (some ⟨j_b, j_o + 4, none⟩)] h1 (fun r2 h2 => ∃ n2 : Int, ∃ n3 : Int, ∃ x1 : Sl, r2 = .agg #[.int .u64 n2, .int .u64 n3, .slice x1.a x1.l x1.c] ∧
   ∀ b1 h3, Fresh h2 (.cells #[.int .u64 0, .int .u64 0, .slice none 0 0] 85) b1 h3 →
   CanSt h3 b1 0 [.int .u64 n2, .int .u64 n3, .slice x1.a x1.l x1.c] ∧ ∀ h4, Stored h3 b1 0 [.int .u64 n2, .int .u64 n3, .slice x1.a x1.l x1.c] h4 →
   ∃ (I1 : Sl → Int → Heap → Prop) (mu1 : Sl → Int → Heap → Nat), I1 ⟨none, 0, 0⟩ 0 h4 ∧ (∀ x2 : Sl, ∀ n4 : Int, ∀ h5, I1 x2 n4 h5 → ∀ _ : Env,
   CondP (decide ((n4 : Int) < ((l_.l : Nat) : Int))) (
   ((0 : Int) ≤ n4 ∧ (n4 : Int) < ((l_.l : Nat) : Int)) ∧
   NilP l_.a (fun b2 o1 =>
   ∃ n5 : Int, ∃ n6 : Int, ∃ x3 : Sl, CellsAt h5 b2 (o1 + n4.toNat * 3) [.int .u64 n5, .int .u64 n6, .slice x3.a x3.l x3.c] ∧
   ∀ b3 h6, Fresh h5 (.cells #[.int .u64 0, .int .u64 0, .slice none 0 0] 85) b3 h6 →
   CanSt h6 b3 0 [.int .u64 n5, .int .u64 n6, .slice x3.a x3.l x3.c] ∧ ∀ h7, Stored h6 b3 0 [.int .u64 n5, .int .u64 n6, .slice x3.a x3.l x3.c] h7 →
   ∃ n7 : Int, ∃ n8 : Int, ∃ x4 : Sl, CellsAt h7 b3 0 [.int .u64 n7, .int .u64 n8, .slice x4.a x4.l x4.c] ∧
   ∃ n9 : Int, ∃ n10 : Int, ∃ x5 : Sl, CellsAt h7 b1 0 [.int .u64 n9, .int .u64 n10, .slice x5.a x5.l x5.c] ∧
   CallsH Tryz.prog 79 #[.agg #[.int .u64 n7, .int .u64 n8, .slice x4.a x4.l x4.c], .agg #[.int .u64 n9, .int .u64 n10, .slice x5.a x5.l x5.c]] h7 (fun r3 h8 => ∃ t1 : Bool, r3 = .bool t1 ∧
   CondP (!t1) (
   R (.int .i64 2) h8) (
   ∀ b4 h9, Fresh h8 (.cells #[.slice none 0 0] 145) b4 h9 →
   ∃ n11 : Int, cellH h9 b3 0 = some (.int .u64 n11) ∧
   ∃ n12 : Int, cellH h9 b3 1 = some (.int .u64 n12) ∧
   ∀ b5 h10, Fresh h9 (.cells #[.int .u64 n11, .int .u64 n12] 32) b5 h10 →
   CallsH Tryz.prog 80 #[.pointer (some ⟨b4, 0, none⟩), .slice (some ⟨b5, 0, none⟩) 2 2] h10 (fun r4 h11 => r4 = .tuple #[] ∧
   ∃ x6 : Sl, cellH h11 b3 2 = some (.slice x6.a x6.l x6.c) ∧
   ∃ s1 : ByteArray, StrOf h11 x6.a x6.l s1 ∧
   CallsH Tryz.prog 81 #[.pointer (some ⟨b4, 0, none⟩), .string s1] h11 (fun r5 h12 => r5 = .tuple #[] ∧
   CallsH Tryz.prog 83 #[.pointer (some ⟨b4, 0, none⟩)] h12 (fun r6 h13 => ∃ x7 : Sl, r6 = .slice x7.a x7.l x7.c ∧
   CallsH Tryz.prog 82 #[.int .u8 2, .slice x7.a x7.l x7.c] h13 (fun r7 h14 => ∃ x8 : Sl, ∃ n13 : Int, r7 = .tuple #[.slice x8.a x8.l x8.c, .int .i64 n13] ∧
   RunK Tryz.prog (.sl) (Builtin.append_ #[33, 33] 33 #[.slice x2.a x2.l x2.c, .slice x8.a x8.l x8.c]) h14 (fun x9 h15 =>
   ∃ n14 : Int, ∃ n15 : Int, ∃ x10 : Sl, CellsAt h15 b3 0 [.int .u64 n14, .int .u64 n15, .slice x10.a x10.l x10.c] ∧
   CanSt h15 b1 0 [.int .u64 n14, .int .u64 n15, .slice x10.a x10.l x10.c] ∧ ∀ h16, Stored h15 b1 0 [.int .u64 n14, .int .u64 n15, .slice x10.a x10.l x10.c] h16 →
   I1 x9 (IntKind.i64.wrap (n4 + 1)) h16 ∧ mu1 x9 (IntKind.i64.wrap (n4 + 1)) h16 < mu1 x2 n4 h5))))))))) (
   ∃ J1 : Heap → Prop, (∀ h17, J1  h17 → ∀ _ : Env,
   ∃ J2 : Bool → Heap → Prop, (∀ t2 : Bool, ∀ h18, J2 t2 h18 → ∀ _ : Env,
   CondP t2 (
   R (.int .i64 70) h18) (
   ∃ (I2 : Int → Heap → Prop) (mu2 : Int → Heap → Nat), I2 0 h18 ∧ (∀ n16 : Int, ∀ h19, I2 n16 h19 → ∀ _ : Env,
   CondP (decide ((n16 : Int) < ((l_.l : Nat) : Int))) (
   ((0 : Int) ≤ n16 ∧ (n16 : Int) < ((l_.l : Nat) : Int)) ∧
   NilP l_.a (fun b6 o2 =>
   ∃ n17 : Int, ∃ n18 : Int, ∃ x11 : Sl, CellsAt h19 b6 (o2 + n16.toNat * 3) [.int .u64 n17, .int .u64 n18, .slice x11.a x11.l x11.c] ∧
   ∀ b7 h20, Fresh h19 (.cells #[.int .u64 0, .int .u64 0, .slice none 0 0] 85) b7 h20 →
   CanSt h20 b7 0 [.int .u64 n17, .int .u64 n18, .slice x11.a x11.l x11.c] ∧ ∀ h21, Stored h20 b7 0 [.int .u64 n17, .int .u64 n18, .slice x11.a x11.l x11.c] h21 →
   ∃ x12 : Sl, cellH h21 b7 2 = some (.slice x12.a x12.l x12.c) ∧
   CallsH Tryz.prog 71 #[.slice x12.a x12.l x12.c] h21 (fun r8 h22 => ∃ x13 : Sl, r8 = .slice x13.a x13.l x13.c ∧
   CanSt h22 b7 2 [.slice x13.a x13.l x13.c] ∧ ∀ h23, Stored h22 b7 2 [.slice x13.a x13.l x13.c] h23 →
   ∃ x14 : Sl, cellH h23 j_b (j_o + 4 + 3) = some (.slice x14.a x14.l x14.c) ∧
   ∃ n19 : Int, ∃ n20 : Int, ∃ x15 : Sl, CellsAt h23 b7 0 [.int .u64 n19, .int .u64 n20, .slice x15.a x15.l x15.c] ∧
   ∀ b8 h24, Fresh h23 (.cells #[.int .u64 n19, .int .u64 n20, .slice x15.a x15.l x15.c] 85) b8 h24 →
   cellH h24 j_b (j_o + 4 + 3) = some (.slice x14.a x14.l x14.c) ∧
   RunK Tryz.prog (.sl) (Builtin.append_ #[81, 81] 81 #[.slice x14.a x14.l x14.c, .slice (some ⟨b8, 0, none⟩) 1 1]) h24 (fun x16 h25 =>
   CanSt h25 j_b (j_o + 4 + 3) [.slice x16.a x16.l x16.c] ∧ ∀ h26, Stored h25 j_b (j_o + 4 + 3) [.slice x16.a x16.l x16.c] h26 →
   I2 (IntKind.i64.wrap (n16 + 1)) h26 ∧ mu2 (IntKind.i64.wrap (n16 + 1)) h26 < mu2 n16 h19)))) (
   R (.int .i64 0) h19)))) ∧
   ∃ t3 : Bool, cellH h17 j_b (j_o + 9) = some (.bool t3) ∧
   CondP t3 (
   J2 true h17) (
   CallsH Tryz.prog 85 #[.pointer (some ⟨j_b, j_o, none⟩)] h17 (fun r9 h27 => ∃ n21 : Int, r9 = .int .i64 n21 ∧
   CallsH Tryz.prog 87 #[.pointer (some ⟨j_b, j_o, none⟩), .int .i64 n21, .slice x2.a x2.l x2.c] h27 (fun r10 h28 => ∃ t4 : Bool, r10 = .bool t4 ∧
   J2 (!t4) h28)))) ∧
   ∃ J3 : Bool → Heap → Prop, (∀ t5 : Bool, ∀ h29, J3 t5 h29 → ∀ _ : Env,
   CondP t5 (
   CallsH Tryz.prog 78 #[.pointer (some ⟨j_b, j_o + 4, none⟩)] h29 (fun r11 h30 => ∃ n22 : Int, ∃ n23 : Int, ∃ x17 : Sl, r11 = .agg #[.int .u64 n22, .int .u64 n23, .slice x17.a x17.l x17.c] ∧
   ∀ b9 h31, Fresh h30 (.cells #[.int .u64 0, .int .u64 0, .slice none 0 0] 85) b9 h31 →
   CanSt h31 b9 0 [.int .u64 n22, .int .u64 n23, .slice x17.a x17.l x17.c] ∧ ∀ h32, Stored h31 b9 0 [.int .u64 n22, .int .u64 n23, .slice x17.a x17.l x17.c] h32 →
   ∃ n24 : Int, cellH h32 b9 0 = some (.int .u64 n24) ∧
   ∃ n25 : Int, cellH h32 b9 1 = some (.int .u64 n25) ∧
   CallsH Tryz.prog 42 #[.pointer (some ⟨j_b, j_o, none⟩), .agg #[.int .u64 0, .bool false, .int .u64 n24, .int .u64 n25]] h32 (fun r12 h33 => ∃ t6 : Bool, r12 = .bool t6 ∧
   J1  h33))) (
   J1  h29)) ∧
   ∃ p1 : Option Addr, cellH h5 j_b j_o = some (.pointer p1) ∧
   ∃ n26 : Int, cellH h5 j_b (j_o + 3) = some (.int .i64 n26) ∧
   CallsH Tryz.prog 85 #[.pointer (some ⟨j_b, j_o, none⟩)] h5 (fun r13 h34 => ∃ n27 : Int, r13 = .int .i64 n27 ∧
   cellH h34 j_b (j_o + 3) = some (.int .i64 n26) ∧
   cellH h34 j_b j_o = some (.pointer p1) ∧
   CallsH Tryz.prog 84 #[.pointer p1, .int .i64 n27] h34 (fun r14 h35 => ∃ n28 : Int, r14 = .int .i64 n28 ∧
   cellH h35 j_b (j_o + 3) = some (.int .i64 n26) ∧
   CondP (decide ((n28 : Int) ≥ n26)) (
   CallsH Tryz.prog 86 #[.pointer (some ⟨j_b, j_o, none⟩)] h35 (fun r15 h36 => ∃ x18 : Sl, r15 = .slice x18.a x18.l x18.c ∧
   J3 (decide ((((x18.l : Nat) : Int) : Int) > 1)) h36)) (
   J3 false h35))))))))) :
  CallsH Tryz.prog 33 #[.pointer (some ⟨j_b, j_o, none⟩), .slice l_.a l_.l l_.c] h R :=
  calls_of_vc tabOk mixed Tryz.func33 (c := c33) (by kernel_rfl) (n := 119) rfl (rs := [.tmp 4]) (by kernel_rfl) ok33 (args := [.pointer (some ⟨j_b, j_o, none⟩), .slice l_.a l_.l l_.c]) (Nat.le_of_ble_eq_true rfl) (Eq.mpr (by kernel_rfl) hv)
end Go.Sx.Tryz
namespace Go.Sx.Tryz
open Go Go.Sx Go.Proofs
set_option maxRecDepth 100000
set_option linter.unusedVariables false
noncomputable def c79 : Code := (Tryz.f79.body).getD .skip
def a79 : Ann := (.seq .leaf (.seq .leaf .leaf))
theorem ok79 : okC tab 34 true c79 a79 = true := by kernel_rfl
theorem vc79 (x_0 : Int) (x_1 : Int) (x_2 : Sl) (last_0 : Int) (last_1 : Int) (last_2 : Sl) (h : Heap) (R : Value → Heap → Prop)
  (hv : ∀ b1 h1, Fresh h (.cells #[.int .u64 x_0, .int .u64 x_1, .slice x_2.a x_2.l x_2.c] 85) b1 h1 →
   ∀ b2 h2, Fresh h1 (.cells #[.int .u64 last_0, .int .u64 last_1, .slice last_2.a last_2.l last_2.c] 85) b2 h2 →
   ∃ n1 : Int, cellH h2 b1 0 = some (.int .u64 n1) ∧
   CondP (decide ((n1 : Int) ≤ 4611686018427387904)) (
   ∃ n2 : Int, cellH h2 b1 1 = some (.int .u64 n2) ∧
   CondP (decide ((n2 : Int) ≤ 4611686018427387904)) (
   ∃ n3 : Int, cellH h2 b1 0 = some (.int .u64 n3) ∧
   ∃ n4 : Int, cellH h2 b2 0 = some (.int .u64 n4) ∧
   CondP ((n3 : Int) == (IntKind.u64.wrap (n4 + 1))) (
   ∃ n5 : Int, cellH h2 b1 1 = some (.int .u64 n5) ∧
   ∃ n6 : Int, cellH h2 b2 1 = some (.int .u64 n6) ∧
   CondP (decide ((n5 : Int) ≥ n6)) (
   ∃ x1 : Sl, cellH h2 b1 2 = some (.slice x1.a x1.l x1.c) ∧
   R (.bool (decide ((((x1.l : Nat) : Int) : Int) ≤ 512))) h2) (
   R (.bool false) h2)) (
   R (.bool false) h2)) (
   R (.bool false) h2)) (
   R (.bool false) h2)) :
  CallsH Tryz.prog 79 #[.agg #[.int .u64 x_0, .int .u64 x_1, .slice x_2.a x_2.l x_2.c], .agg #[.int .u64 last_0, .int .u64 last_1, .slice last_2.a last_2.l last_2.c]] h R :=
  calls_of_vc tabOk mixed Tryz.func79 (c := c79) (by kernel_rfl) (n := 34) rfl (rs := [.tmp 4]) (by kernel_rfl) ok79 (args := [.agg #[.int .u64 x_0, .int .u64 x_1, .slice x_2.a x_2.l x_2.c], .agg #[.int .u64 last_0, .int .u64 last_1, .slice last_2.a last_2.l last_2.c]]) (Nat.le_of_ble_eq_true rfl) (Eq.mpr (by kernel_rfl) hv)
end Go.Sx.Tryz
namespace Go.Sx.Tryz
open Go Go.Sx Go.Proofs
set_option linter.unusedVariables false
section
variable {H H' : Heap} {S : PH} {R : List Asn} {jb : Nat} {J : Jn}
def okE (p : Nat × Nat) (e : Ent) : Bool := decide (e.i ≤ MaxI) && (decide (e.t ≤ MaxI) && (decide (e.i = p.1 + 1) && (decide (p.2 ≤ e.t) && decide (e.b.length ≤ 512))))
def okAll : Nat × Nat → List Ent → Bool
  | _, [] => true
  | p, e :: l => okE p e && okAll (e.i, e.t) l
def lastP : Nat × Nat → List Ent → Nat × Nat
  | p, [] => p
  | _, e :: l => lastP (e.i, e.t) l
theorem okAll_append : ∀ (p : Nat × Nat) (a b : List Ent), okAll p (a ++ b) = (okAll p a && okAll (lastP p a) b)
  | p, [], b => by simp [okAll, lastP]
  | p, e :: a, b => by simp only [List.cons_append, okAll, lastP, okAll_append, Bool.and_assoc]
theorem lastP_append : ∀ (p : Nat × Nat) (a b : List Ent), lastP p (a ++ b) = lastP (lastP p a) b
  | p, [], b => rfl
  | p, e :: a, b => by simp only [List.cons_append, lastP, lastP_append]
theorem okAll_succ {p : Nat × Nat} {l : List Ent} {i : Nat} (h : i < l.length) : okAll p (l.take (i + 1)) = (okAll p (l.take i) && okE (lastP p (l.take i)) l[i]) := by
  rw [List.take_succ_eq_append_getElem h, okAll_append]; simp [okAll]
theorem okAll_bad {p : Nat × Nat} {l : List Ent} {i : Nat} (h : i < l.length) (hb : okE (lastP p (l.take i)) l[i] = false) : okAll p l = false := by
  have e : l = l.take (i + 1) ++ l.drop (i + 1) := (List.take_append_drop _ _).symm
  rw [e, okAll_append, okAll_succ h, hb]; simp
theorem lastP_succ {p : Nat × Nat} {l : List Ent} {i : Nat} (h : i < l.length) : lastP p (l.take (i + 1)) = (l[i].i, l[i].t) := by
  rw [List.take_succ_eq_append_getElem h, lastP_append]; rfl
theorem follows_spec {x y : EB} (hs : Sat H S R) (hy : y.1.i < 18446744073709551615) (hx : x.2.l = x.1.b.length) {K : Value → Heap → Prop} (hK : ∀ H', Sat H' S R → K (.bool (okE (y.1.i, y.1.t) x.1)) H') :
    CallsH Tryz.prog 79 #[.agg (eV x).toArray, .agg (eV y).toArray] H K := by
  apply vc79
  intro b1 h1 f1 b2 h2 f2
  have hs1 : Sat h1 S (lst b1 85 (eV x) :: R) := hs.fresh f1
  have hs2 : Sat h2 S (lst b2 85 (eV y) :: lst b1 85 (eV x) :: R) := hs1.fresh f2
  have hK := hK h2 (hs2.drop.drop)
  unfold okE at hK
  have c1 := hs2.swap
  have e1 : decide ((x.1.i : Int) ≤ 4611686018427387904) = decide (x.1.i ≤ MaxI) := decide_eq_decide.2 (by unfold MaxI; omega)
  have e2 : decide ((x.1.t : Int) ≤ 4611686018427387904) = decide (x.1.t ≤ MaxI) := decide_eq_decide.2 (by unfold MaxI; omega)
  have e3 : ((x.1.i : Int) == IntKind.u64.wrap ((y.1.i : Int) + 1)) = decide (x.1.i = y.1.i + 1) := by
    rw [show IntKind.u64.wrap ((y.1.i : Int) + 1) = ((y.1.i + 1 : Nat) : Int) from u64_add (j := 1) (by omega), beq_nat_int]
    exact Bool.beq_eq_decide_eq _ _
  have e4 : decide ((x.1.t : Int) ≥ (y.1.t : Int)) = decide (y.1.t ≤ x.1.t) := decide_eq_decide.2 (by omega)
  have e5 : decide ((((x.2.l : Nat) : Int) : Int) ≤ 512) = decide (x.1.b.length ≤ 512) := decide_eq_decide.2 (by rw [hx]; omega)
  refine ⟨_, c1.cell 0 rfl, ?_⟩
  rw [e1]
  refine CondP.of (fun hc => ?_) (fun hc => ?_)
  · rw [hc, Bool.true_and] at hK
    refine ⟨_, c1.cell 1 rfl, ?_⟩
    rw [e2]
    refine CondP.of (fun hc => ?_) (fun hc => ?_)
    · rw [hc, Bool.true_and] at hK
      refine ⟨_, c1.cell 0 rfl, _, hs2.cell 0 rfl, ?_⟩
      rw [e3]
      refine CondP.of (fun hc => ?_) (fun hc => ?_)
      · rw [hc, Bool.true_and] at hK
        refine ⟨_, c1.cell 1 rfl, _, hs2.cell 1 rfl, ?_⟩
        rw [e4]
        refine CondP.of (fun hc => ?_) (fun hc => ?_)
        · rw [hc, Bool.true_and] at hK
          refine ⟨x.2, c1.cell 2 rfl, ?_⟩
          rw [e5]; exact hK
        · rw [hc, Bool.false_and] at hK; exact hK
      · rw [hc, Bool.false_and] at hK; exact hK
    · rw [hc, Bool.false_and] at hK; exact hK
  · rw [hc, Bool.false_and] at hK; exact hK
def entB (l : List Ent) : List UInt8 := l.flatMap fun e => parcelB 2 e.body
theorem entB_len : ∀ {l : List Ent}, (∀ e ∈ l, e.ok) → (entB l).length ≤ l.length * 560
  | [], _ => by simp [entB]
  | e :: l, h => by
    have h1 := e.body_len (h e List.mem_cons_self)
    have h2 := entB_len (l := l) fun x hx => h x (List.mem_cons_of_mem _ hx)
    have h3 := parcelB_len 2 e.body
    have h4 := natB_le (n := e.body.length) (by omega)
    have h5 : entB (e :: l) = parcelB 2 e.body ++ entB l := by simp [entB]
    rw [h5, List.length_append, List.length_cons, Nat.add_mul]
    have h6 := natB_len 2 e.body.length (by omega) (by decide)
    omega
theorem okE_ok {p : Nat × Nat} {e : Ent} (h : okE p e = true) : e.ok ∧ e.i = p.1 + 1 ∧ p.2 ≤ e.t := by
  simp only [okE, Bool.and_eq_true, decide_eq_true_eq] at h
  exact ⟨⟨h.1, h.2.1, h.2.2.2.2⟩, h.2.2.1, h.2.2.2.1⟩
theorem okAll_ok : ∀ {p : Nat × Nat} {l : List Ent}, okAll p l = true → ∀ e ∈ l, e.ok
  | p, [], _, e, he => by cases he
  | p, x :: l, h, e, he => by
    simp only [okAll, Bool.and_eq_true] at h
    rcases List.mem_cons.1 he with rfl | h'
    · exact (okE_ok h.1).1
    · exact okAll_ok h.2 e h'
def Jn.add (J : Jn) (ys : List EB) : Jn := { J with log := { J.log with es := J.log.es ++ ys } }
theorem Jn.add_nil (J : Jn) : J.add [] = J := by
  obtain ⟨d, first, many, each, ⟨fi, ft, es⟩, segs, broken⟩ := J
  simp [Jn.add]
def Jn.cur (J : Jn) : Nat := fileAt J.segs (J.segs.length - 1)
def Jn.turn (J : Jn) (D : Dk) : Dk × Jn := if J.each ≤ (D.f J.cur).b.length ∧ 1 < J.free.length then (J.start D ⟨0, false, J.log.last.1.i, J.log.last.1.t⟩).2 else (D, J)
def Jn.appD (J : Jn) (D : Dk) (l : List Ent) : Nat × Dk × Jn :=
  if J.broken = true then (70, D, J) else if okAll (J.log.last.1.i, J.log.last.1.t) l = false then (2, D, J) else
  if (J.turn D).2.broken = true then (70, J.turn D) else
  if ((J.turn D).2.write (J.turn D).1 (J.turn D).2.cur (entB l)).1 = true then (0, ((J.turn D).2.write (J.turn D).1 (J.turn D).2.cur (entB l)).2)
  else (70, ((J.turn D).2.write (J.turn D).1 (J.turn D).2.cur (entB l)).2)
theorem turn_cases (J : Jn) (D : Dk) : (J.turn D).2.d = J.d ∧ (J.turn D).2.first = J.first ∧ (J.turn D).2.many = J.many ∧ (J.turn D).2.each = J.each ∧ (J.turn D).2.log = J.log ∧
    ((J.turn D).2.segs = J.segs ∨ ∃ n, n ∈ J.free ∧ (J.turn D).2.segs = J.segs ++ [⟨n, J.fix ⟨0, false, J.log.last.1.i, J.log.last.1.t⟩⟩]) := by
  unfold Jn.turn
  split
  · obtain ⟨h1, h2, h3, h4, h5, h6⟩ := start_cases J D ⟨0, false, J.log.last.1.i, J.log.last.1.t⟩
    refine ⟨h1, h2, h3, h4, h5, ?_⟩
    rcases h6 with ⟨_, h⟩ | ⟨n, h1, _, h⟩
    · exact .inl h
    · exact .inr ⟨n, h1, h⟩
  · exact ⟨rfl, rfl, rfl, rfl, rfl, .inl rfl⟩
theorem append_specJ {D : Dk} {v : Sl} {l : List Ent} (hs : Sat H S (jA jb J :: dsk J.d D :: R)) (hv : EL S v l) (hll : l.length ≤ 1000) (hb : J.first + J.many ≤ 32) (hfl : ∀ x ∈ J.segs, x.file < 32) (hsl : J.segs.length < 100000) (h0 : 0 < J.segs.length) (hlen : J.log.es.length < 900000)
    (hla : J.log.last.1.i ≤ MaxI) (hok : J.free ≠ [] → (J.fix ⟨0, false, J.log.last.1.i, J.log.last.1.t⟩).ok)
    {K : Value → Heap → Prop} (hK : ∀ H' S' ys, PH.le S S' → ((J.appD D l).1 = 0 → ys.map (·.1) = l ∧ eok S' ys) → ((J.appD D l).1 ≠ 0 → ys = []) → Sat H' S' (jA jb ((J.appD D l).2.2.add ys) :: dsk J.d (J.appD D l).2.1 :: R) → K (.int .i64 ((J.appD D l).1 : Int)) H') :
    CallsH Tryz.prog 33 #[.pointer (some ⟨jb, 0, none⟩), .slice v.a v.l v.c] H K := by
  apply vc33
  refine ready_spec hs ⟨_, rfl, CondP.of (fun hc => ?_) (fun hc => ?_)⟩
  · have hb := ready_cases hc
    have e : J.appD D l = (70, D, J) := by rw [Jn.appD, if_pos hb]
    have := hK H S [] (PH.le.refl _) (by rw [e]; intro h; cases h) (fun _ => rfl) (by rw [e, Jn.add_nil]; exact hs)
    rw [e] at this
    rw [if_pos hb]; exact this
  have hbr := ready_cases' hc
  have hbr' : ¬ J.broken = true := by rw [hbr]; simp
  obtain ⟨ve, vs, hs1⟩ := jA_open hs
  have hvl := EL.len hv
  refine last_spec (pre := [.pointer (some ⟨J.d, 0, none⟩), .int .i64 (J.first : Int), .int .i64 (J.many : Int), .int .i64 (J.each : Int)]) (post := [.slice vs.a vs.l vs.c, .bool J.broken]) hs1 (by omega) fun h2 hs2 => ⟨_, _, _, rfl, ?_⟩
  intro b1 h3 f3
  have hs3 := hs2.fresh f3
  refine Sat.store (T := 85) (l := [.int .u64 0, .int .u64 0, .slice none 0 0]) hs3 (Nat.le_refl _) fun h4 hs4 => ?_
  have hs4 : Sat h4 S (lst b1 85 (eV J.log.last) :: lst jb 97 (jcs J ve vs) :: ownE ve J.log.es :: ownS vs J.segs :: dsk J.d D :: R) := hs4
  have hs4 : Sat h4 S (lst b1 85 (eV J.log.last) :: jA jb J :: dsk J.d D :: R) := (jA_shut (hs4.sel [1, 1, 1])).sel [1]
  generalize hp : (J.log.last.1.i, J.log.last.1.t) = p at *
  refine ⟨fun x n h => ∃ i : Nat, n = i ∧ i ≤ l.length ∧ okAll p (l.take i) = true ∧ ∃ S' y, PH.le S S' ∧ (y.1.i, y.1.t) = lastP p (l.take i) ∧ y.1.i < 18446744073709551615 ∧ Sat h S' (own 5 1 x (bv (entB (l.take i))) :: lst b1 85 (eV y) :: jA jb J :: dsk J.d D :: R), fun _ n _ => l.length - n.toNat, ⟨0, rfl, Nat.zero_le _, rfl, S, J.log.last, PH.le.refl _, hp, by unfold MaxI at hla; omega, own.new 5 1 hs4⟩, ?_⟩
  rintro x n h5 ⟨i, rfl, hi, hoi, S1, y, hS1, hy, hy2, hs5⟩ _
  have hlen5 : (entB (l.take i)).length ≤ 560000 := by
    have := entB_len (l := l.take i) (okAll_ok hoi)
    rw [List.length_take] at this
    have h2 : min i l.length * 560 ≤ 1000 * 560 := Nat.mul_le_mul_right _ (by omega)
    omega
  refine CondP.of (fun hc => ?_) (fun hc => ?_)
  · have hc : i < l.length := by simp at hc; omega
    obtain ⟨g, o, z, ga, gc, gz⟩ := (hv.mono hS1).at hs5 hc
    refine ⟨⟨by omega, by omega⟩, NilP.of ga ⟨_, _, _, gc, ?_⟩⟩
    intro b3 h6 f6
    have hs6 := hs5.fresh f6
    refine Sat.store (T := 85) (l := [.int .u64 0, .int .u64 0, .slice none 0 0]) hs6 (Nat.le_refl _) fun h7 hs7 => ?_
    have hs7 : Sat h7 S1 (lst b3 85 (eV (l[i], z)) :: own 5 1 x (bv (entB (l.take i))) :: lst b1 85 (eV y) :: jA jb J :: dsk J.d D :: R) := hs7
    refine ⟨_, _, _, hs7.cells 0 rfl, _, _, y.2, (hs7.pick 2 rfl).cells 0 rfl, ?_⟩
    refine follows_spec (x := (l[i], z)) (y := y) hs7 hy2 (RdB.len gz) fun h8 hs8 => ⟨_, rfl, ?_⟩
    rw [hy]
    refine CondP.of (fun hc2 => ?_) (fun hc2 => ?_)
    · have hz : okE (lastP p (l.take i)) l[i] = false := by simpa using hc2
      have hbad := okAll_bad hc hz
      have e : J.appD D l = (2, D, J) := by rw [Jn.appD, if_neg hbr', hp, if_pos hbad]
      have := hK h8 S1 [] hS1 (by rw [e]; intro h; cases h) (fun _ => rfl) (by rw [e, Jn.add_nil]; exact (hs8.drop.drop.drop))
      rw [e] at this; exact this
    have hz : okE (lastP p (l.take i)) l[i] = true := by simpa using hc2
    obtain ⟨⟨k1, k2, k3⟩, k4, k5⟩ := okE_ok hz
    have hbl := (l[i]).body_len ⟨k1, k2, k3⟩
    intro b4 h9 f9
    have hs9 : Sat h9 S1 (lst b4 145 [.slice none 0 0] :: lst b3 85 (eV (l[i], z)) :: own 5 1 x (bv (entB (l.take i))) :: lst b1 85 (eV y) :: jA jb J :: dsk J.d D :: R) := hs8.fresh f9
    have hw : Sat h9 S1 (wr b4 [] :: lst b3 85 (eV (l[i], z)) :: own 5 1 x (bv (entB (l.take i))) :: lst b1 85 (eV y) :: jA jb J :: dsk J.d D :: R) := wr_shut (v := ⟨none, 0, 0⟩) (own.new 5 1 hs9).swap
    refine ⟨_, hw.swap.cell 0 rfl, _, hw.swap.cell 1 rfl, ?_⟩
    intro b5 h10 f10
    refine Nat_new f10 hw (ns := [l[i].i, l[i].t]) rfl (by intro m hm; simp at hm; unfold MaxI at k1 k2; rcases hm with rfl | rfl <;> omega) (by simp) (by simp) rfl fun h11 hs11 => ⟨rfl, ?_⟩
    have e1 : ([] ++ nats [l[i].i, l[i].t]) = natB l[i].i ++ natB l[i].t := by simp [nats]
    rw [e1] at hs11
    have hn1 := natB_le (n := l[i].i) (by unfold MaxI at k1; omega)
    have hn2 := natB_le (n := l[i].t) (by unfold MaxI at k2; omega)
    refine ⟨z, hs11.swap.cell 2 rfl, ⟨l[i].b.toArray⟩, StrOf.ofRd gz hs11, ?_⟩
    refine Text_spec hs11 (by rw [List.length_append]; omega) (by show l[i].b.toArray.size < _; simp; omega) fun h12 hs12 => ⟨rfl, ?_⟩
    have e2 : (natB l[i].i ++ natB l[i].t) ++ textB (ByteArray.mk l[i].b.toArray).data.toList = l[i].body := by show _ ++ textB l[i].b.toArray.toList = _; rw [List.toList_toArray]; rfl
    rw [e2] at hs12
    refine Bytes_spec hs12 (by omega) fun x2 h13 S2 hS2 hs13 hr13 => ⟨x2, rfl, ?_⟩
    refine Wrap_spec hs13 hr13 (kind := 2) (by decide) (by omega) fun x3 h14 S3 hS3 hs14 => ⟨x3, _, rfl, ?_⟩
    have hrd := own.reads hs14
    have hpl := parcelB_len 2 (l[i]).body
    have hn10 := natB_le (n := (l[i]).body.length) (by omega)
    have hxl : x.l = (entB (l.take i)).length := by
      have := (own.len (hs14.pick 3 rfl)).1
      rw [bv_len] at this; omega
    refine append_own el33 (v := x) (xs := bv (entB (l.take i))) (hs14.sel [3]) (m := x3.l) (c := x3.c) (news := bv (parcelB 2 (l[i]).body)) (by rw [bv_len, hrd.1, Nat.mul_one]) hrd.2 (bv_one _) (by omega) (by unfold maxLen; omega) fun v' h15 hv' hs15 => ?_
    have e3 : bv (entB (l.take i)) ++ bv (parcelB 2 (l[i]).body) = bv (entB (l.take (i + 1))) := by
      rw [← bv_append, List.take_succ_eq_append_getElem hc]; unfold entB; rw [List.flatMap_append, List.flatMap_cons, List.flatMap_nil, List.append_nil]
    rw [e3] at hs15
    have hs16 : Sat h15 S3 (lst b3 85 (eV (l[i], z)) :: own 5 1 v' (bv (entB (l.take (i + 1)))) :: lst b1 85 (eV y) :: jA jb J :: dsk J.d D :: R) := ((hs15.sel [3, 0, 2]).del 3).del 3
    refine ⟨_, _, _, hs16.cells 0 rfl, ?_⟩
    refine (hs16.pick 2 rfl).store (by simp [eV]) fun h17 hs17 => ?_
    have hs17 : Sat h17 S3 (lst b1 85 (eV (l[i], z)) :: lst b3 85 (eV (l[i], z)) :: own 5 1 v' (bv (entB (l.take (i + 1)))) :: jA jb J :: dsk J.d D :: R) := hs17
    rw [i64_succ (by omega)]
    refine ⟨⟨i + 1, rfl, hc, by rw [okAll_succ hc, hoi, hz]; rfl, S3, (l[i], z), (hS1.trans hS2).trans hS3, by rw [lastP_succ hc], by unfold MaxI at k1; show l[i].i < _; omega, (hs17.sel [2, 0]).del 2⟩, ?_⟩
    show l.length - (i + 1) < l.length - i; omega
  · have hc : i = l.length := by simp at hc; omega
    subst hc
    rw [List.take_length] at hoi hy hs5 hlen5
    have hoi' : ¬ okAll p l = false := by rw [hoi]; simp
    have hae : J.appD D l = if (J.turn D).2.broken = true then (70, J.turn D) else
      if ((J.turn D).2.write (J.turn D).1 (J.turn D).2.cur (entB l)).1 = true then (0, ((J.turn D).2.write (J.turn D).1 (J.turn D).2.cur (entB l)).2)
      else (70, ((J.turn D).2.write (J.turn D).1 (J.turn D).2.cur (entB l)).2) := by rw [Jn.appD, if_neg hbr', hp, if_neg hoi']
    obtain ⟨S2, q1, q2, q3⟩ := own.fixd hs5
    have hx : RdB S2 x (entB l) := q2
    have hs6 := q3.drop
    have hS2 := hS1.trans q1
    obtain ⟨t1, t2, t3, t4, t5, t6⟩ := turn_cases J D
    have hTfl : ∀ z ∈ (J.turn D).2.segs, z.file < 32 := by
      intro z hz
      rcases t6 with h | ⟨n, hn, h⟩
      · rw [h] at hz; exact hfl z hz
      · rw [h] at hz
        rcases List.mem_append.1 hz with h | h
        · exact hfl z h
        · simp only [List.mem_singleton] at h
          subst h; exact free_lt hb hn
    have hTl : 0 < (J.turn D).2.segs.length ∧ (J.turn D).2.segs.length < 1000000 := by
      rcases t6 with h | ⟨n, hn, h⟩
      · rw [h]; omega
      · rw [h, List.length_append]; simp; omega
    refine ⟨fun h => ∃ S', PH.le S2 S' ∧ Sat h S' (jA jb (J.turn D).2 :: dsk J.d (J.turn D).1 :: R), ?_, ?_⟩
    · rintro h17 ⟨S3, hS3, hs7⟩ _
      refine ⟨fun t h => ∃ S', PH.le S3 S' ∧ (t = true → (J.appD D l).1 = 70) ∧ (t = false → (J.appD D l).1 = 0) ∧ Sat h S' (jA jb (J.appD D l).2.2 :: dsk J.d (J.appD D l).2.1 :: R), ?_, ?_⟩
      · rintro t h18 ⟨S4, hS4, ht1, ht0, hs8⟩ _
        refine CondP.of (fun hc => ?_) (fun hc => ?_)
        · have h70 := ht1 hc
          have := hK h18 S4 [] ((hS2.trans hS3).trans hS4) (by rw [h70]; intro h; cases h) (fun _ => rfl) (by rw [Jn.add_nil]; exact hs8)
          rw [h70] at this; exact this
        have h00 := ht0 hc
        have hXlog : (J.appD D l).2.2.log.es.length = J.log.es.length := by
          rw [hae]
          have hw3 := (write_segs (J.turn D).2 (J.turn D).1 (J.turn D).2.cur (entB l)).2.2.1
          split
          · rw [t5]
          · split
            · show ((J.turn D).2.write (J.turn D).1 (J.turn D).2.cur (entB l)).2.2.log.es.length = _
              rw [hw3, t5]
            · show ((J.turn D).2.write (J.turn D).1 (J.turn D).2.cur (entB l)).2.2.log.es.length = _
              rw [hw3, t5]
        generalize J.appD D l = X at *
        refine ⟨fun n h => ∃ i : Nat, n = i ∧ i ≤ l.length ∧ ∃ S' ys, PH.le S4 S' ∧ ys.map (·.1) = l.take i ∧ eok S' ys ∧ Sat h S' (jA jb (X.2.2.add ys) :: dsk J.d X.2.1 :: R), fun n _ => l.length - n.toNat, ⟨0, rfl, Nat.zero_le _, S4, [], PH.le.refl _, rfl, (fun z hz => by cases hz), by rw [Jn.add_nil]; exact hs8⟩, ?_⟩
        rintro n h19 ⟨i, rfl, hi, S5, ys, hS5, hys, hyo, hs9⟩ _
        have hyl : ys.length = i := by have := congrArg List.length hys; simp at this; omega
        refine CondP.of (fun hc => ?_) (fun hc => ?_)
        · have hc : i < l.length := by simp at hc; omega
          obtain ⟨g, o, z, ga, gc, gz⟩ := (hv.mono (((hS2.trans hS3).trans hS4).trans hS5)).at hs9 hc
          refine ⟨⟨by omega, by omega⟩, NilP.of ga ⟨_, _, _, gc, ?_⟩⟩
          intro b7 h20 f20
          have hs10 := hs9.fresh f20
          refine Sat.store (T := 85) (l := [.int .u64 0, .int .u64 0, .slice none 0 0]) hs10 (Nat.le_refl _) fun h21 hs11 => ?_
          have hs11 : Sat h21 S5 (lst b7 85 (eV (l[i], z)) :: jA jb (X.2.2.add ys) :: dsk J.d X.2.1 :: R) := hs11
          have hbo := (okAll_ok hoi) _ (List.getElem_mem hc)
          refine ⟨z, hs11.cell 2 rfl, ?_⟩
          refine clone_spec hs11 (gz.reads hs11) (by have := hbo.2.2; omega) fun z2 h22 hz2 hs12 => ⟨z2, rfl, ?_⟩
          obtain ⟨S6, r1, r2, r3⟩ := own.fixd hs12
          refine r3.store (by simp [eV]) fun h23 hs13 => ?_
          have hs13 : Sat h23 S6 (lst b7 85 (eV (l[i], z2)) :: jA jb (X.2.2.add ys) :: dsk J.d X.2.1 :: R) := hs13
          obtain ⟨ve', vs', hs14⟩ := jA_open hs13.swap
          refine ⟨ve', hs14.cell 7 rfl, _, _, _, (hs14.pick 3 rfl).cells 0 rfl, ?_⟩
          intro b8 h24 f24
          have hs15 := hs14.fresh f24
          have hs15 : Sat h24 S6 (lst b8 85 (eV (l[i], z2)) :: lst jb 97 (jcs (X.2.2.add ys) ve' vs') :: ownE ve' (X.2.2.add ys).log.es :: ownS vs' (X.2.2.add ys).segs :: lst b7 85 (eV (l[i], z2)) :: dsk J.d X.2.1 :: R) := hs15
          refine ⟨hs15.swap.cell 7 rfl, ?_⟩
          have hel := (ownE.len (hs15.pick 2 rfl)).1
          have hel2 : (X.2.2.add ys).log.es.length = J.log.es.length + i := by
            show (X.2.2.log.es ++ ys).length = _
            rw [List.length_append, hXlog, hyl]
          refine append_one el81 (v := ve') (xs := entV (X.2.2.add ys).log.es) (hs15.sel [0, 1]) rfl (eV_one _) (by omega) (by unfold maxLen; omega) fun v' h25 hv' hs16 => ?_
          have e3 : entV (X.2.2.add ys).log.es ++ eV (l[i], z2) = entV (X.2.2.add (ys ++ [(l[i], z2)])).log.es := by
            simp [entV, Jn.add, List.append_assoc]
          rw [e3] at hs16
          refine (hs16.pick 1 rfl).store (by simp [jcs, lgV]) fun h26 hs17 => ?_
          have hs18 : Sat h26 S6 (jA jb (X.2.2.add (ys ++ [(l[i], z2)])) :: lst b7 85 (eV (l[i], z2)) :: dsk J.d X.2.1 :: R) := jA_shut (ve := v') (vs := vs') hs17
          rw [i64_succ (by omega)]
          refine ⟨⟨i + 1, rfl, hc, S6, ys ++ [(l[i], z2)], hS5.trans r1, ?_, fun u hu => ?_, hs18.del 1⟩, ?_⟩
          · rw [List.map_append, hys, List.take_succ_eq_append_getElem hc]; rfl
          · rcases List.mem_append.1 hu with h | h
            · exact (hyo.mono r1) u h
            · simp only [List.mem_singleton] at h
              subst h; exact ⟨r2, hbo.2.2⟩
          · show l.length - (i + 1) < l.length - i; omega
        · have hc : i = l.length := by simp at hc; omega
          subst hc
          rw [List.take_length] at hys
          have := hK h19 S5 ys (((hS2.trans hS3).trans hS4).trans hS5) (fun _ => ⟨hys, hyo⟩) (fun h => absurd h00 h) hs9
          rw [h00] at this; exact this
      · obtain ⟨ve', vs', hs8⟩ := jA_open hs7
        refine ⟨_, hs8.cell 9 rfl, CondP.of (fun hc => ?_) (fun hc => ?_)⟩
        · rw [if_pos hc] at hae
          refine ⟨S3, PH.le.refl _, fun _ => by rw [hae], fun h => by (exact absurd h (by simp)), ?_⟩
          rw [hae]; exact hs7
        · rw [if_neg (by rw [hc]; simp)] at hae
          refine current_spec hs7 (k := (J.turn D).2.segs.length - 1) (by omega) (by omega) ⟨_, rfl, ?_⟩
          have hcur : (J.turn D).2.cur = ((J.turn D).2.segs[(J.turn D).2.segs.length - 1]'(by omega)).file := (getSeg (l := (J.turn D).2.segs) (i := (J.turn D).2.segs.length - 1) (by omega)).1
          rw [← hcur]
          rw [← t1] at hs7
          refine write_spec (f := (J.turn D).2.cur) (by rw [hcur]; exact hTfl _ (List.getElem_mem _)) hs7 (hx.mono hS3) (by omega) fun h28 hs9 => ⟨_, rfl, ?_⟩
          rw [t1] at hs9
          generalize (J.turn D).2.write (J.turn D).1 (J.turn D).2.cur (entB l) = W at *
          refine ⟨S3, PH.le.refl _, fun h => ?_, fun h => ?_, ?_⟩
          · have : ¬ W.1 = true := by simpa using h
            rw [hae, if_neg this]
          · have : W.1 = true := by simpa using h
            rw [hae, if_pos this]
          · rw [hae]
            split
            · exact hs9
            · exact hs9
    · have hae2 : J.turn D = if J.each ≤ (D.f J.cur).b.length ∧ 1 < J.free.length then (J.start D ⟨0, false, J.log.last.1.i, J.log.last.1.t⟩).2 else (D, J) := rfl
      refine ⟨fun t h => t = decide (J.each ≤ (D.f J.cur).b.length ∧ 1 < J.free.length) ∧ Sat h S2 (jA jb J :: dsk J.d D :: R), ?_, ?_⟩
      · rintro t h29 ⟨rfl, hs7⟩ _
        refine CondP.of (fun hc => ?_) (fun hc => ?_)
        · rw [if_pos (of_decide_eq_true hc)] at hae2
          obtain ⟨ve', vs', hs8⟩ := jA_open hs7
          refine last_spec (pre := [.pointer (some ⟨J.d, 0, none⟩), .int .i64 (J.first : Int), .int .i64 (J.many : Int), .int .i64 (J.each : Int)]) (post := [.slice vs'.a vs'.l vs'.c, .bool J.broken]) hs8 (by omega) fun h30 hs9 => ⟨_, _, _, rfl, ?_⟩
          intro b9 h31 f31
          have hs10 := hs9.fresh f31
          refine Sat.store (T := 85) (l := [.int .u64 0, .int .u64 0, .slice none 0 0]) hs10 (Nat.le_refl _) fun h32 hs11 => ?_
          have hs11 : Sat h32 S2 (lst b9 85 (eV J.log.last) :: lst jb 97 (jcs J ve' vs') :: ownE ve' J.log.es :: ownS vs' J.segs :: dsk J.d D :: R) := hs11
          refine ⟨_, hs11.cell 0 rfl, _, hs11.cell 1 rfl, ?_⟩
          have hs12 : Sat h32 S2 (jA jb J :: dsk J.d D :: R) := jA_shut hs11.drop
          refine start_spec (h := ⟨0, false, J.log.last.1.i, J.log.last.1.t⟩) hs12 hb (by omega) (hok ?_) fun h33 S3 hS3 hs13 => ⟨_, rfl, S3, hS3, ?_⟩
          · intro h
            have := (of_decide_eq_true hc).2
            rw [h] at this; simp at this
          · rw [hae2]; exact hs13
        · rw [if_neg (of_decide_eq_false hc)] at hae2
          exact ⟨S2, PH.le.refl _, by rw [hae2]; exact hs7⟩
      · obtain ⟨ve', vs', hs7⟩ := jA_open hs6
        have hcur : J.cur = (J.segs[J.segs.length - 1]'(by omega)).file := (getSeg (l := J.segs) (i := J.segs.length - 1) (by omega)).1
        refine ⟨_, hs7.cell 0 rfl, _, hs7.cell 3 rfl, ?_⟩
        refine current_spec hs6 (k := J.segs.length - 1) (by omega) (by omega) ⟨_, rfl, hs7.cell 3 rfl, hs7.cell 0 rfl, ?_⟩
        rw [← hcur]
        refine size_spec (by rw [hcur]; exact hfl _ (List.getElem_mem _)) hs6.swap ⟨_, rfl, hs7.cell 3 rfl, ?_⟩
        have ed : decide ((((D.f J.cur).b.length : Nat) : Int) ≥ (J.each : Int)) = decide (J.each ≤ (D.f J.cur).b.length) := decide_eq_decide.2 (by omega)
        rw [ed]
        refine CondP.of (fun hc => ?_) (fun hc => ?_)
        · refine free_spec hs6 hb (by omega) fun z h36 hs8 => ⟨z, rfl, ?_, hs8.drop⟩
          have hzl := (ownI.len hs8).1
          exact decide_eq_decide.2 ⟨fun h => ⟨of_decide_eq_true hc, by omega⟩, fun h => by omega⟩
        · refine ⟨?_, hs6⟩
          rw [decide_eq_false (fun h => absurd h.1 (of_decide_eq_false hc))]
end
end Go.Sx.Tryz
namespace Go.Sx.Tryz
open Go Go.Sx Go.Proofs
set_option maxRecDepth 100000
set_option linter.unusedVariables false
noncomputable def c11 : Code := (Tryz.f11.body).getD .skip
def a11 : Ann := (.seq .leaf (.seq (.inn (.seq .leaf (.br (.seq .leaf .leaf) (.seq .leaf (.br (.seq .leaf .leaf) (.join [(27, .one (.b))] .leaf (.br (.seq .leaf .leaf) .leaf))))))) (.seq .leaf (.seq .leaf (.seq (.seq .leaf (.inn (.loop [(11, .one (.sl)), (60, .one (.i .i64))] (.seq .leaf (.seq (.br .leaf .leaf) (.seq (.inn (.seq .leaf .leaf)) .leaf)))))) (.seq .leaf (.seq (.seq .leaf (.br (.seq .leaf .leaf) .leaf)) (.seq .leaf (.seq (.seq .leaf (.inn (.loop [(87, .one (.i .i64))] (.seq .leaf (.seq (.br .leaf .leaf) (.seq (.inn (.seq .leaf (.seq .leaf (.reg (.q 0 (.q 1 (.q 2 (.q 3 (.q 4 (.q 5 (.q 6 (.q 7 (.q 8 (.q 9 (.m 10 (.m 11 (.q 12 (.q 13 (.m 14 (.fin) (.nil)))) (.nil)) (.nil)))))))))))))))) .leaf)))))) (.seq (.seq .leaf (.inn (.loop [(115, .one (.i .i64))] (.seq .leaf (.seq (.br .leaf .leaf) (.seq (.inn (.seq .leaf (.reg (.q 0 (.q 1 (.q 2 (.q 3 (.q 4 (.q 5 (.q 6 (.q 7 (.q 8 (.q 9 (.m 10 (.m 11 (.fin) (.nil)) (.nil))))))))))))))) .leaf)))))) (.seq (.seq .leaf (.br .leaf .leaf)) (.seq .leaf (.seq (.seq .leaf (.br (.seq .leaf .leaf) .leaf)) (.seq .leaf .leaf))))))))))))))
theorem ok11 : okC tab 144 true c11 a11 = true := by kernel_rfl
theorem vc11 (d_b d_o : Nat) (first_ : Int) (many_ : Int) (each_ : Int) (h : Heap) (R : Value → Heap → Prop)
  (hv : CallsH Tryz.prog 15 #[.pointer (some ⟨d_b, d_o, none⟩)] h (fun r1 h1 => ∃ t1 : Bool, r1 = .bool t1 ∧
   CondP t1 (
   R (.tuple #[.pointer none, .int .i64 70]) h1) (
   ∃ J1 : Bool → Heap → Prop, (∀ t2 : Bool, ∀ h2, J1 t2 h2 → ∀ _ : Env,
   CondP t2 (
   R (.tuple #[.pointer none, .int .i64 2]) h2) (
   ∀ b1 h3, Fresh h2 (.cells #[.pointer (some ⟨d_b, d_o, none⟩), .int .i64 first_, .int .i64 many_, .int .i64 each_, .int .u64 0, .int .u64 0, .slice none 0 0, .slice none 0 0, .slice none 0 0, .bool false] 97) b1 h3 →
   ∀ b2 h4, Fresh h3 (.cells #[] 33) b2 h4 →
   ∃ (I1 : Sl → Int → Heap → Prop) (mu1 : Sl → Int → Heap → Nat), I1 ⟨some ⟨b2, 0, none⟩, 0, 0⟩ 0 h4 ∧ (∀ x1 : Sl, ∀ n1 : Int, ∀ h5, I1 x1 n1 h5 → ∀ _ : Env,
   CondP (decide ((n1 : Int) < many_)) (
   CallsH Tryz.prog 37 #[.pointer (some ⟨d_b, d_o, none⟩), .int .i64 (IntKind.i64.wrap (first_ + n1))] h5 (fun r2 h6 => ∃ x2 : Sl, r2 = .slice x2.a x2.l x2.c ∧
   ∀ b3 h7, Fresh h6 (.cells #[.slice x2.a x2.l x2.c] 33) b3 h7 →
   RunK Tryz.prog (.sl) (Builtin.append_ #[98, 98] 98 #[.slice x1.a x1.l x1.c, .slice (some ⟨b3, 0, none⟩) 1 1]) h7 (fun x3 h8 =>
   I1 x3 (IntKind.i64.wrap (n1 + 1)) h8 ∧ mu1 x3 (IntKind.i64.wrap (n1 + 1)) h8 < mu1 x1 n1 h5))) (
   CallsH Tryz.prog 38 #[.slice x1.a x1.l x1.c] h5 (fun r3 h9 => ∃ n2 : Int, ∃ n3 : Int, ∃ x4 : Sl, ∃ x5 : Sl, ∃ x6 : Sl, ∃ n4 : Int, r3 = .tuple #[.agg #[.int .u64 n2, .int .u64 n3, .slice x4.a x4.l x4.c, .slice x5.a x5.l x5.c], .slice x6.a x6.l x6.c, .int .i64 n4] ∧
   ∀ b4 h10, Fresh h9 (.cells #[.int .u64 0, .int .u64 0, .slice none 0 0, .slice none 0 0] 94) b4 h10 →
   CanSt h10 b4 0 [.int .u64 n2, .int .u64 n3, .slice x4.a x4.l x4.c, .slice x5.a x5.l x5.c] ∧ ∀ h11, Stored h10 b4 0 [.int .u64 n2, .int .u64 n3, .slice x4.a x4.l x4.c, .slice x5.a x5.l x5.c] h11 →
   CondP ((n4 : Int) != 0) (
   R (.tuple #[.pointer none, .int .i64 n4]) h11) (
   ∃ n5 : Int, ∃ n6 : Int, ∃ x7 : Sl, ∃ x8 : Sl, CellsAt h11 b4 0 [.int .u64 n5, .int .u64 n6, .slice x7.a x7.l x7.c, .slice x8.a x8.l x8.c] ∧
   CanSt h11 b1 4 [.int .u64 n5, .int .u64 n6, .slice x7.a x7.l x7.c, .slice x8.a x8.l x8.c] ∧ ∀ h12, Stored h11 b1 4 [.int .u64 n5, .int .u64 n6, .slice x7.a x7.l x7.c, .slice x8.a x8.l x8.c] h12 →
   ∃ (I2 : Int → Heap → Prop) (mu2 : Int → Heap → Nat), I2 0 h12 ∧ (∀ n7 : Int, ∀ h13, I2 n7 h13 → ∀ _ : Env,
   CondP (decide ((n7 : Int) < ((x6.l : Nat) : Int))) (
   ((0 : Int) ≤ n7 ∧ (n7 : Int) < ((x6.l : Nat) : Int)) ∧
   NilP x6.a (fun b5 o1 =>
   ∃ n8 : Int, cellH h13 b5 (o1 + n7.toNat) = some (.int .i64 n8) ∧
   ((0 : Int) ≤ n8 ∧ (n8 : Int) < ((x1.l : Nat) : Int)) ∧
   NilP x1.a (fun b6 o2 =>
   ∃ x9 : Sl, cellH h13 b6 (o2 + n8.toNat) = some (.slice x9.a x9.l x9.c) ∧
   CallsH Tryz.prog 39 #[.slice x9.a x9.l x9.c] h13 (fun r4 h14 => ∃ n9 : Int, ∃ t3 : Bool, ∃ n10 : Int, ∃ n11 : Int, ∃ t4 : Bool, r4 = .tuple #[.agg #[.int .u64 n9, .bool t3, .int .u64 n10, .int .u64 n11], .bool t4] ∧
   ∀ b7 h15, Fresh h14 (.cells #[.int .u64 0, .bool false, .int .u64 0, .int .u64 0] 103) b7 h15 →
   CanSt h15 b7 0 [.int .u64 n9, .bool t3, .int .u64 n10, .int .u64 n11] ∧ ∀ h16, Stored h15 b7 0 [.int .u64 n9, .bool t3, .int .u64 n10, .int .u64 n11] h16 →
   ∃ x10 : Sl, cellH h16 b1 8 = some (.slice x10.a x10.l x10.c) ∧
   ∃ n12 : Int, ∃ t5 : Bool, ∃ n13 : Int, ∃ n14 : Int, CellsAt h16 b7 0 [.int .u64 n12, .bool t5, .int .u64 n13, .int .u64 n14] ∧
   ∀ b8 h17, Fresh h16 (.cells #[.int .i64 (IntKind.i64.wrap (first_ + n8)), .int .u64 n12, .bool t5, .int .u64 n13, .int .u64 n14] 107) b8 h17 →
   cellH h17 b1 8 = some (.slice x10.a x10.l x10.c) ∧
   RunK Tryz.prog (.sl) (Builtin.append_ #[95, 95] 95 #[.slice x10.a x10.l x10.c, .slice (some ⟨b8, 0, none⟩) 1 1]) h17 (fun x11 h18 =>
   CanSt h18 b1 8 [.slice x11.a x11.l x11.c] ∧ ∀ h19, Stored h18 b1 8 [.slice x11.a x11.l x11.c] h19 →
   I2 (IntKind.i64.wrap (n7 + 1)) h19 ∧ mu2 (IntKind.i64.wrap (n7 + 1)) h19 < mu2 n7 h13))))) (
   ∃ (I3 : Int → Heap → Prop) (mu3 : Int → Heap → Nat), I3 0 h13 ∧ (∀ n15 : Int, ∀ h20, I3 n15 h20 → ∀ _ : Env,
   CondP (decide ((n15 : Int) < many_)) (
   ((0 : Int) ≤ n15 ∧ (n15 : Int) < ((x1.l : Nat) : Int)) ∧
   NilP x1.a (fun b9 o3 =>
   ∃ x12 : Sl, cellH h20 b9 (o3 + n15.toNat) = some (.slice x12.a x12.l x12.c) ∧
   CallsH Tryz.prog 41 #[.slice x6.a x6.l x6.c, .int .i64 n15] h20 (fun r5 h21 => ∃ t6 : Bool, r5 = .bool t6 ∧
   cellH h21 b9 (o3 + n15.toNat) = some (.slice x12.a x12.l x12.c) ∧
   CallsH Tryz.prog 40 #[.pointer (some ⟨b1, 0, none⟩), .int .i64 (IntKind.i64.wrap (first_ + n15)), .slice x12.a x12.l x12.c, .bool t6] h21 (fun r6 h22 => r6 = .tuple #[] ∧
   I3 (IntKind.i64.wrap (n15 + 1)) h22 ∧ mu3 (IntKind.i64.wrap (n15 + 1)) h22 < mu3 n15 h20)))) (
   CondP ((((x6.l : Nat) : Int) : Int) == 0) (
   CallsH Tryz.prog 42 #[.pointer (some ⟨b1, 0, none⟩), .agg #[.int .u64 0, .bool false, .int .u64 0, .int .u64 0]] h20 (fun r7 h23 => ∃ t7 : Bool, r7 = .bool t7 ∧
   CallsH Tryz.prog 43 #[.pointer (some ⟨b1, 0, none⟩)] h23 (fun r8 h24 => r8 = .tuple #[] ∧
   ∃ t8 : Bool, cellH h24 b1 9 = some (.bool t8) ∧
   CondP t8 (
   R (.tuple #[.pointer none, .int .i64 70]) h24) (
   R (.tuple #[.pointer (some ⟨b1, 0, none⟩), .int .i64 0]) h24)))) (
   CallsH Tryz.prog 43 #[.pointer (some ⟨b1, 0, none⟩)] h20 (fun r9 h25 => r9 = .tuple #[] ∧
   ∃ t9 : Bool, cellH h25 b1 9 = some (.bool t9) ∧
   CondP t9 (
   R (.tuple #[.pointer none, .int .i64 70]) h25) (
   R (.tuple #[.pointer (some ⟨b1, 0, none⟩), .int .i64 0]) h25))))))))))))) ∧
   CondP (decide ((first_ : Int) < 0)) (
   J1 true h1) (
   CondP (decide ((many_ : Int) < 2)) (
   J1 true h1) (
   CondP (decide ((many_ : Int) > 32)) (
   J1 true h1) (
   CondP (decide ((first_ : Int) > (IntKind.i64.wrap (32 - many_)))) (
   J1 true h1) (
   CondP (decide ((each_ : Int) < 64)) (
   J1 true h1) (
   J1 (decide ((each_ : Int) > 1048576)) h1)))))))) :
  CallsH Tryz.prog 11 #[.pointer (some ⟨d_b, d_o, none⟩), .int .i64 first_, .int .i64 many_, .int .i64 each_] h R :=
  calls_of_vc tabOk mixed Tryz.func11 (c := c11) (by kernel_rfl) (n := 144) rfl (rs := [.tmp 8, .tmp 9]) (by kernel_rfl) ok11 (args := [.pointer (some ⟨d_b, d_o, none⟩), .int .i64 first_, .int .i64 many_, .int .i64 each_]) (Nat.le_of_ble_eq_true rfl) (Eq.mpr (by kernel_rfl) hv)
end Go.Sx.Tryz
