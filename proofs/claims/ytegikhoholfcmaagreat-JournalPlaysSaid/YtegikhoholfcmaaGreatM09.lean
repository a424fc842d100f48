/-
  Part 9 of the proof: V156, V175, V173, V174, V151, R01, R02, V152, V109, V153, V54, R03, V110.
-/
import Derived.Test.YtegikhoholfcmaaGreatM08
namespace Go.Sx.Tryz
open Go Go.Sx Go.Proofs
set_option maxRecDepth 100000
set_option linter.unusedVariables false
noncomputable def c156 : Code := (Tryz.f156.body).getD .skip
def a156 : Ann := (.seq .leaf (.seq (.seq .leaf (.br (.seq .leaf .leaf) .leaf)) (.seq .leaf .leaf)))
theorem ok156 : okC tab 15 true c156 a156 = true := by kernel_rfl
theorem vc156 (r_b r_o : Nat) (h : Heap) (R : Value → Heap → Prop)
  (hv : ∃ t1 : Bool, cellH h r_b (r_o + 1) = some (.bool t1) ∧
   CondP t1 (
   R (.int .i64 20) h) (
   ∃ x1 : Sl, cellH h r_b r_o = some (.slice x1.a x1.l x1.c) ∧
   CondP (decide ((((x1.l : Nat) : Int) : Int) > 0)) (
   R (.int .i64 20) h) (
   R (.int .i64 0) h))) :
  CallsH Tryz.prog 156 #[.pointer (some ⟨r_b, r_o, none⟩)] h R :=
  calls_of_vc tabOk mixed Tryz.func156 (c := c156) (by kernel_rfl) (n := 15) rfl (rs := [.tmp 2]) (by kernel_rfl) ok156 (args := [.pointer (some ⟨r_b, r_o, none⟩)]) (Nat.le_of_ble_eq_true rfl) (Eq.mpr (by kernel_rfl) hv)
end Go.Sx.Tryz
namespace Go.Sx.Tryz
open Go Go.Sx Go.Proofs
set_option maxRecDepth 100000
set_option linter.unusedVariables false
noncomputable def c175 : Code := (Tryz.f175.body).getD .skip
def a175 : Ann := (.seq .leaf (.seq .leaf .leaf))
theorem ok175 : okC tab 6 true c175 a175 = true := by kernel_rfl
theorem vc175 (r_b r_o : Nat) (h : Heap) (R : Value → Heap → Prop)
  (hv : CallsH Tryz.prog 154 #[.pointer (some ⟨r_b, r_o, none⟩), .int .u64 1] h (fun r1 h1 => ∃ n1 : Int, r1 = .int .u64 n1 ∧
   R (.bool ((n1 : Int) == 1)) h1)) :
  CallsH Tryz.prog 175 #[.pointer (some ⟨r_b, r_o, none⟩)] h R :=
  calls_of_vc tabOk mixed Tryz.func175 (c := c175) (by kernel_rfl) (n := 6) rfl (rs := [.tmp 2]) (by kernel_rfl) ok175 (args := [.pointer (some ⟨r_b, r_o, none⟩)]) (Nat.le_of_ble_eq_true rfl) (Eq.mpr (by kernel_rfl) hv)
end Go.Sx.Tryz
namespace Go.Sx.Tryz
open Go Go.Sx Go.Proofs
set_option maxRecDepth 100000
set_option linter.unusedVariables false
noncomputable def c173 : Code := (Tryz.f173.body).getD .skip
def a173 : Ann := (.seq .leaf (.seq .leaf (.seq (.seq .leaf (.inn (.loop [(0, .one (.i .u32)), (3, .one (.sl)), (4, .one (.i .i64))] (.seq (.seq .leaf (.br .leaf .leaf)) (.seq (.inn (.seq .leaf .leaf)) .leaf))))) (.seq .leaf .leaf))))
theorem ok173 : okC tab 18 true c173 a173 = true := by kernel_rfl
theorem vc173 (n_ : Int) (h : Heap) (R : Value → Heap → Prop)
  (hv : ∃ (I1 : Int → Sl → Int → Heap → Prop) (mu1 : Int → Sl → Int → Heap → Nat), I1 n_ ⟨none, 0, 0⟩ 0 h ∧ (∀ n1 : Int, ∀ x1 : Sl, ∀ n2 : Int, ∀ h1, I1 n1 x1 n2 h1 → ∀ _ : Env,
   CondP (decide ((n2 : Int) < 4)) (
   (256 : Int) ≠ 0 ∧
   ∀ b1 h2, Fresh h1 (.cells #[.int .u8 (IntKind.u8.wrap (Int.tmod n1 256))] 5) b1 h2 →
   RunK Tryz.prog (.sl) (Builtin.append_ #[33, 33] 33 #[.slice x1.a x1.l x1.c, .slice (some ⟨b1, 0, none⟩) 1 1]) h2 (fun x2 h3 =>
   (256 : Int) ≠ 0 ∧
   I1 (IntKind.u32.wrap (Int.tdiv n1 256)) x2 (IntKind.i64.wrap (n2 + 1)) h3 ∧ mu1 (IntKind.u32.wrap (Int.tdiv n1 256)) x2 (IntKind.i64.wrap (n2 + 1)) h3 < mu1 n1 x1 n2 h1)) (
   R (.slice x1.a x1.l x1.c) h1))) :
  CallsH Tryz.prog 173 #[.int .u32 n_] h R :=
  calls_of_vc tabOk mixed Tryz.func173 (c := c173) (by kernel_rfl) (n := 18) rfl (rs := [.tmp 2]) (by kernel_rfl) ok173 (args := [.int .u32 n_]) (Nat.le_of_ble_eq_true rfl) (Eq.mpr (by kernel_rfl) hv)
end Go.Sx.Tryz
namespace Go.Sx.Tryz
open Go Go.Sx Go.Proofs
set_option maxRecDepth 100000
set_option linter.unusedVariables false
noncomputable def c174 : Code := (Tryz.f174.body).getD .skip
def a174 : Ann := (.seq .leaf (.seq .leaf (.seq (.seq .leaf (.inn (.loop [(3, .one (.i .u32)), (4, .one (.i .i64))] (.seq (.seq .leaf (.br .leaf .leaf)) (.seq (.inn (.seq .leaf (.seq .leaf (.inn (.loop [(3, .one (.i .u32)), (5, .one (.i .u8)), (6, .one (.i .i64))] (.seq (.seq .leaf (.br .leaf .leaf)) (.seq (.inn (.seq .leaf (.seq .leaf (.seq .leaf (.seq .leaf (.br .leaf .leaf)))))) .leaf))))))) .leaf))))) (.seq .leaf .leaf))))
theorem ok174 : okC tab 37 true c174 a174 = true := by kernel_rfl
theorem vc174 (b_ : Sl) (h : Heap) (R : Value → Heap → Prop)
  (hv : ∃ (I1 : Int → Int → Heap → Prop) (mu1 : Int → Int → Heap → Nat), I1 4294967295 0 h ∧ (∀ n1 : Int, ∀ n2 : Int, ∀ h1, I1 n1 n2 h1 → ∀ _ : Env,
   CondP (decide ((n2 : Int) < ((b_.l : Nat) : Int))) (
   ((0 : Int) ≤ n2 ∧ (n2 : Int) < ((b_.l : Nat) : Int)) ∧
   NilP b_.a (fun b1 o1 =>
   ∃ n3 : Int, cellH h1 b1 (o1 + n2.toNat) = some (.int .u8 n3) ∧
   ∃ (I2 : Int → Int → Int → Heap → Prop) (mu2 : Int → Int → Int → Heap → Nat), I2 n1 n3 0 h1 ∧ (∀ n4 : Int, ∀ n5 : Int, ∀ n6 : Int, ∀ h2, I2 n4 n5 n6 h2 → ∀ _ : Env,
   CondP (decide ((n6 : Int) < 8)) (
   (2 : Int) ≠ 0 ∧
   (2 : Int) ≠ 0 ∧
   (2 : Int) ≠ 0 ∧
   (2 : Int) ≠ 0 ∧
   CondP ((Int.tmod n4 2 : Int) != (IntKind.u32.wrap (Int.tmod n5 2))) (
   I2 (bXor .u32 (IntKind.u32.wrap (Int.tdiv n4 2)) 3988292384) (IntKind.u8.wrap (Int.tdiv n5 2)) (IntKind.i64.wrap (n6 + 1)) h2 ∧ mu2 (bXor .u32 (IntKind.u32.wrap (Int.tdiv n4 2)) 3988292384) (IntKind.u8.wrap (Int.tdiv n5 2)) (IntKind.i64.wrap (n6 + 1)) h2 < mu2 n4 n5 n6 h2) (
   I2 (IntKind.u32.wrap (Int.tdiv n4 2)) (IntKind.u8.wrap (Int.tdiv n5 2)) (IntKind.i64.wrap (n6 + 1)) h2 ∧ mu2 (IntKind.u32.wrap (Int.tdiv n4 2)) (IntKind.u8.wrap (Int.tdiv n5 2)) (IntKind.i64.wrap (n6 + 1)) h2 < mu2 n4 n5 n6 h2)) (
   I1 n4 (IntKind.i64.wrap (n2 + 1)) h2 ∧ mu1 n4 (IntKind.i64.wrap (n2 + 1)) h2 < mu1 n1 n2 h1)))) (
   R (.int .u32 (IntKind.u32.wrap (4294967295 - n1))) h1))) :
  CallsH Tryz.prog 174 #[.slice b_.a b_.l b_.c] h R :=
  calls_of_vc tabOk mixed Tryz.func174 (c := c174) (by kernel_rfl) (n := 37) rfl (rs := [.tmp 2]) (by kernel_rfl) ok174 (args := [.slice b_.a b_.l b_.c]) (Nat.le_of_ble_eq_true rfl) (Eq.mpr (by kernel_rfl) hv)
end Go.Sx.Tryz
namespace Go.Sx.Tryz
open Go Go.Sx Go.Proofs
set_option maxRecDepth 100000
set_option linter.unusedVariables false
noncomputable def c151 : Code := (Tryz.f151.body).getD .skip
def a151 : Ann := (.seq .leaf (.seq (.seq .leaf (.br (.seq .leaf .leaf) .leaf)) (.seq (.seq .leaf (.br (.seq .leaf .leaf) .leaf)) (.seq .leaf (.seq (.seq .leaf (.inn (.loop [(6, .one (.b)), (7, .one (.i .i64))] (.seq (.seq .leaf (.br .leaf .leaf)) (.seq (.inn .leaf) .leaf))))) (.seq (.seq .leaf (.br (.seq .leaf .leaf) .leaf)) (.seq .leaf (.seq .leaf (.seq (.seq .leaf (.br (.seq .leaf .leaf) .leaf)) (.seq (.seq .leaf (.br (.seq .leaf .leaf) .leaf)) (.seq (.seq .leaf (.br (.seq .leaf .leaf) .leaf)) (.seq .leaf (.seq (.seq (.reg (.q 0 (.q 1 (.q 2 (.q 3 (.q 7 (.q 8 (.q 9 (.q 10 (.q 11 (.q 12 (.m 4 (.m 5 (.q 6 (.q 13 (.fin))) (.nil)) (.nil))))))))))))) (.br (.seq .leaf .leaf) .leaf)) (.seq (.reg (.q 0 (.q 1 (.q 2 (.q 4 (.q 5 (.q 6 (.q 7 (.q 8 (.q 9 (.q 11 (.m 3 (.m 10 (.q 12 (.q 13 (.q 14 (.q 15 (.fin))))) (.nil)) (.nil))))))))))))) .leaf))))))))))))))
theorem ok151 : okC tab 95 true c151 a151 = true := by kernel_rfl
theorem vc151 (b_ : Sl) (h : Heap) (R : Value → Heap → Prop)
  (hv : CondP ((((b_.l : Nat) : Int) : Int) == 0) (
   R (.tuple #[.int .u8 0, .slice none 0 0, .int .i64 0, .int .i64 31]) h) (
   ((0 : Int) ≤ 0 ∧ (0 : Int) < ((b_.l : Nat) : Int)) ∧
   NilP b_.a (fun b1 o1 =>
   ∃ n1 : Int, cellH h b1 o1 = some (.int .u8 n1) ∧
   CondP ((n1 : Int) == 0) (
   R (.tuple #[.int .u8 0, .slice none 0 0, .int .i64 0, .int .i64 20]) h) (
   ∃ (I1 : Bool → Int → Heap → Prop) (mu1 : Bool → Int → Heap → Nat), I1 (decide ((((b_.l : Nat) : Int) : Int) < 11)) 1 h ∧ (∀ t1 : Bool, ∀ n2 : Int, ∀ h1, I1 t1 n2 h1 → ∀ _ : Env,
   CondP (decide ((n2 : Int) < ((b_.l : Nat) : Int))) (
   CondP t1 (
   ((0 : Int) ≤ n2 ∧ (n2 : Int) < ((b_.l : Nat) : Int)) ∧
   NilP b_.a (fun b2 o2 =>
   ∃ n3 : Int, cellH h1 b2 (o2 + n2.toNat) = some (.int .u8 n3) ∧
   I1 (decide ((n3 : Int) ≥ 128)) (IntKind.i64.wrap (n2 + 1)) h1 ∧ mu1 (decide ((n3 : Int) ≥ 128)) (IntKind.i64.wrap (n2 + 1)) h1 < mu1 t1 n2 h1)) (
   I1 false (IntKind.i64.wrap (n2 + 1)) h1 ∧ mu1 false (IntKind.i64.wrap (n2 + 1)) h1 < mu1 t1 n2 h1)) (
   CondP t1 (
   R (.tuple #[.int .u8 0, .slice none 0 0, .int .i64 0, .int .i64 31]) h1) (
   ((0 : Int) ≤ 1 ∧ 1 ≤ ((b_.l : Nat) : Int)) ∧
   ∀ b3 h2, Fresh h1 (.cells #[.slice (subA b_.a 1 b_.c 1) (b_.l - 1) (b_.c - 1), .bool false] 219) b3 h2 →
   CallsH Tryz.prog 154 #[.pointer (some ⟨b3, 0, none⟩), .int .u64 18446744073709551615] h2 (fun r1 h3 => ∃ n4 : Int, r1 = .int .u64 n4 ∧
   ∃ t2 : Bool, cellH h3 b3 1 = some (.bool t2) ∧
   CondP t2 (
   R (.tuple #[.int .u8 0, .slice none 0 0, .int .i64 0, .int .i64 20]) h3) (
   CondP (decide ((n4 : Int) > 65536)) (
   R (.tuple #[.int .u8 0, .slice none 0 0, .int .i64 0, .int .i64 21]) h3) (
   ∃ x1 : Sl, cellH h3 b3 0 = some (.slice x1.a x1.l x1.c) ∧
   CondP (decide ((((x1.l : Nat) : Int) : Int) < (IntKind.i64.wrap ((IntKind.i64.wrap n4) + 4)))) (
   R (.tuple #[.int .u8 0, .slice none 0 0, .int .i64 0, .int .i64 31]) h3) (
   ∃ x2 : Sl, cellH h3 b3 0 = some (.slice x2.a x2.l x2.c) ∧
   ((0 : Int) ≤ (0 : Int) ∧ (0 : Int) ≤ IntKind.i64.wrap ((IntKind.i64.wrap ((IntKind.i64.wrap ((IntKind.i64.wrap (((b_.l : Nat) : Int) - ((x2.l : Nat) : Int))) + (IntKind.i64.wrap n4))) + 4)) - 4) ∧ IntKind.i64.wrap ((IntKind.i64.wrap ((IntKind.i64.wrap ((IntKind.i64.wrap (((b_.l : Nat) : Int) - ((x2.l : Nat) : Int))) + (IntKind.i64.wrap n4))) + 4)) - 4) ≤ ((b_.c : Nat) : Int)) ∧
   ((0 : Int) ≤ IntKind.i64.wrap ((IntKind.i64.wrap ((IntKind.i64.wrap ((IntKind.i64.wrap (((b_.l : Nat) : Int) - ((x2.l : Nat) : Int))) + (IntKind.i64.wrap n4))) + 4)) - 4) ∧ IntKind.i64.wrap ((IntKind.i64.wrap ((IntKind.i64.wrap ((IntKind.i64.wrap (((b_.l : Nat) : Int) - ((x2.l : Nat) : Int))) + (IntKind.i64.wrap n4))) + 4)) - 4) ≤ IntKind.i64.wrap ((IntKind.i64.wrap ((IntKind.i64.wrap (((b_.l : Nat) : Int) - ((x2.l : Nat) : Int))) + (IntKind.i64.wrap n4))) + 4) ∧ IntKind.i64.wrap ((IntKind.i64.wrap ((IntKind.i64.wrap (((b_.l : Nat) : Int) - ((x2.l : Nat) : Int))) + (IntKind.i64.wrap n4))) + 4) ≤ ((b_.c : Nat) : Int)) ∧
   ∃ s1 : ByteArray, StrOf h3 (subA b_.a ((IntKind.i64.wrap ((IntKind.i64.wrap ((IntKind.i64.wrap ((IntKind.i64.wrap (((b_.l : Nat) : Int) - ((x2.l : Nat) : Int))) + (IntKind.i64.wrap n4))) + 4)) - 4)).toNat) b_.c 1) (((IntKind.i64.wrap ((IntKind.i64.wrap ((IntKind.i64.wrap (((b_.l : Nat) : Int) - ((x2.l : Nat) : Int))) + (IntKind.i64.wrap n4))) + 4)).toNat) - ((IntKind.i64.wrap ((IntKind.i64.wrap ((IntKind.i64.wrap ((IntKind.i64.wrap (((b_.l : Nat) : Int) - ((x2.l : Nat) : Int))) + (IntKind.i64.wrap n4))) + 4)) - 4)).toNat)) s1 ∧
   CallsH Tryz.prog 174 #[.slice (subA b_.a 0 b_.c 1) ((IntKind.i64.wrap ((IntKind.i64.wrap ((IntKind.i64.wrap ((IntKind.i64.wrap (((b_.l : Nat) : Int) - ((x2.l : Nat) : Int))) + (IntKind.i64.wrap n4))) + 4)) - 4)).toNat) b_.c] h3 (fun r2 h4 => ∃ n5 : Int, r2 = .int .u32 n5 ∧
   StrOf h4 (subA b_.a ((IntKind.i64.wrap ((IntKind.i64.wrap ((IntKind.i64.wrap ((IntKind.i64.wrap (((b_.l : Nat) : Int) - ((x2.l : Nat) : Int))) + (IntKind.i64.wrap n4))) + 4)) - 4)).toNat) b_.c 1) (((IntKind.i64.wrap ((IntKind.i64.wrap ((IntKind.i64.wrap (((b_.l : Nat) : Int) - ((x2.l : Nat) : Int))) + (IntKind.i64.wrap n4))) + 4)).toNat) - ((IntKind.i64.wrap ((IntKind.i64.wrap ((IntKind.i64.wrap ((IntKind.i64.wrap (((b_.l : Nat) : Int) - ((x2.l : Nat) : Int))) + (IntKind.i64.wrap n4))) + 4)) - 4)).toNat)) s1 ∧
   CallsH Tryz.prog 173 #[.int .u32 n5] h4 (fun r3 h5 => ∃ x3 : Sl, r3 = .slice x3.a x3.l x3.c ∧
   StrOf h5 (subA b_.a ((IntKind.i64.wrap ((IntKind.i64.wrap ((IntKind.i64.wrap ((IntKind.i64.wrap (((b_.l : Nat) : Int) - ((x2.l : Nat) : Int))) + (IntKind.i64.wrap n4))) + 4)) - 4)).toNat) b_.c 1) (((IntKind.i64.wrap ((IntKind.i64.wrap ((IntKind.i64.wrap (((b_.l : Nat) : Int) - ((x2.l : Nat) : Int))) + (IntKind.i64.wrap n4))) + 4)).toNat) - ((IntKind.i64.wrap ((IntKind.i64.wrap ((IntKind.i64.wrap ((IntKind.i64.wrap (((b_.l : Nat) : Int) - ((x2.l : Nat) : Int))) + (IntKind.i64.wrap n4))) + 4)) - 4)).toNat)) s1 ∧
   ∃ s2 : ByteArray, StrOf h5 x3.a x3.l s2 ∧
   CondP (!((s2 : ByteArray).toList == (s1 : ByteArray).toList)) (
   R (.tuple #[.int .u8 0, .slice none 0 0, .int .i64 0, .int .i64 30]) h5) (
   ((0 : Int) ≤ 0 ∧ (0 : Int) < ((b_.l : Nat) : Int)) ∧
   NilP b_.a (fun b4 o3 =>
   ∃ n6 : Int, cellH h5 b4 o3 = some (.int .u8 n6) ∧
   ∃ x4 : Sl, cellH h5 b3 0 = some (.slice x4.a x4.l x4.c) ∧
   ((0 : Int) ≤ (0 : Int) ∧ (0 : Int) ≤ n4 ∧ n4 ≤ ((x4.c : Nat) : Int)) ∧
   ∀ b5 h6, Fresh h5 (.cells #[] 5) b5 h6 →
   cellH h6 b3 0 = some (.slice x4.a x4.l x4.c) ∧
   cellH h6 b4 o3 = some (.int .u8 n6) ∧
   RunK Tryz.prog (.sl) (Builtin.append_ #[33, 33] 33 #[.slice (some ⟨b5, 0, none⟩) 0 0, .slice (subA x4.a 0 x4.c 1) n4.toNat x4.c]) h6 (fun x5 h7 =>
   cellH h7 b4 o3 = some (.int .u8 n6) ∧
   R (.tuple #[.int .u8 n6, .slice x5.a x5.l x5.c, .int .i64 (IntKind.i64.wrap ((IntKind.i64.wrap ((IntKind.i64.wrap (((b_.l : Nat) : Int) - ((x2.l : Nat) : Int))) + (IntKind.i64.wrap n4))) + 4)), .int .i64 0]) h7)))))))))))))))) :
  CallsH Tryz.prog 151 #[.slice b_.a b_.l b_.c] h R :=
  calls_of_vc tabOk mixed Tryz.func151 (c := c151) (by kernel_rfl) (n := 95) rfl (rs := [.tmp 2, .tmp 3, .tmp 4, .tmp 5]) (by kernel_rfl) ok151 (args := [.slice b_.a b_.l b_.c]) (Nat.le_of_ble_eq_true rfl) (Eq.mpr (by kernel_rfl) hv)
end Go.Sx.Tryz
namespace Go.Sx.Tryz
open Go Go.Sx Go.Proofs
set_option linter.unusedVariables false
set_option maxRecDepth 20000
section
variable {H H' : Heap} {S : PH} {R : List Asn}
def rdr2 (b : Nat) (v : Sl) (t : Bool) : Asn := lst b 219 [.slice v.a v.l v.c, .bool t]
theorem tmod_nat (a b : Nat) : Int.tmod (a : Int) (b : Int) = ((a % b : Nat) : Int) := rfl
theorem tdiv_nat (a b : Nat) : Int.tdiv (a : Int) (b : Int) = ((a / b : Nat) : Int) := rfl
theorem rn_spec {b : Nat} {v : Sl} {n most : Nat} {rest : List UInt8} (hs : Sat H S (rdr2 b v false :: R)) (hv : RdB S v (natB n ++ rest)) (hn : n < 18446744073709551616) (hm : n ≤ most) (hlen : rest.length < 1000000000000)
    {K : Value → Heap → Prop} (hk : ∀ v' H', RdB S v' rest → Sat H' S (rdr2 b v' false :: R) → K (.int .u64 (n : Int)) H') :
    CallsH Tryz.prog 154 #[.pointer (some ⟨b, 0, none⟩), .int .u64 (most : Int)] H K := by
  apply vc154
  have hl := RdB.len hv
  have h10 := natB_le hn
  rw [List.length_append] at hl
  refine ⟨fun n1 n2 n3 h => ∃ acc i m : Nat, n1 = acc ∧ n2 = ((2 ^ (7 * i) : Nat) : Int) ∧ n3 = i ∧ Sat h S (rdr2 b v false :: R) ∧ (natB n ++ rest).drop i = natB m ++ rest ∧ acc < 2 ^ (7 * i) ∧ n = acc + m * 2 ^ (7 * i) ∧ i ≤ 9 ∧ (0 < i → 0 < m), fun _ _ n3 _ => v.l - n3.toNat, ⟨0, 0, n, rfl, rfl, rfl, hs, by simp, by simp, by simp, by simp, by simp⟩, ?_⟩
  rintro n1 n2 n3 h1 ⟨acc, i, m, rfl, rfl, rfl, hs, hd, ha, hnm, hi9, hpos⟩ _
  obtain ⟨c, r, hc1, hc2, hc3⟩ := natB_cons m
  have hget : (natB n ++ rest)[i]? = some c := by
    have : ((natB n ++ rest).drop i)[0]? = some c := by rw [hd, hc1]; rfl
    rw [List.getElem?_drop] at this
    simpa using this
  have hilt : i < v.l := by
    have := (List.getElem?_eq_some_iff.1 hget).1
    rw [List.length_append] at this
    omega
  refine ⟨fun t h => t = true ∧ h = h1, ?_, ?_⟩
  rotate_left
  · refine ⟨v, hs.cell 0 rfl, CondP.of (fun _ => ⟨by simp; omega, rfl⟩) (fun hc => by simp at hc; omega)⟩
  rintro t h2 ⟨rfl, rfl⟩ _
  refine CondP.of (fun _ => ?_) (fun hc => by cases hc)
  refine ⟨v, hs.cell 0 rfl, ⟨by omega, by omega⟩, ?_⟩
  obtain ⟨gb, go, ga, gc⟩ := hv.get hs hget
  refine NilP.of ga ⟨(c.toNat : Int), by simpa using gc, by decide, ?_⟩
  have hc256 := c.toNat_lt
  have hgm : c.toNat % 128 = m % 128 := by
    rw [hc2]; split <;> omega
  have eg : IntKind.u64.wrap (Int.tmod (c.toNat : Int) 128) = ((m % 128 : Nat) : Int) := by
    rw [show Int.tmod (c.toNat : Int) 128 = ((c.toNat % 128 : Nat) : Int) from tmod_nat _ 128, hgm, u64_nat (by omega)]
  have hp7 : (2 : Nat) ^ (7 * i) * 2 ^ 7 = 2 ^ (7 * (i + 1)) := by rw [← Nat.pow_add]; rfl
  have hmlt : m * 2 ^ (7 * i) < 18446744073709551616 := by omega
  have hgl : m % 128 * 2 ^ (7 * i) ≤ m * 2 ^ (7 * i) := Nat.mul_le_mul_right _ (Nat.mod_le _ _)
  have em : IntKind.u64.wrap (((m % 128 : Nat) : Int) * ((2 ^ (7 * i) : Nat) : Int)) = ((m % 128 * 2 ^ (7 * i) : Nat) : Int) := by
    rw [← Int.natCast_mul, u64_nat (by omega)]
  have ea : IntKind.u64.wrap ((acc : Int) + ((m % 128 * 2 ^ (7 * i) : Nat) : Int)) = ((acc + m % 128 * 2 ^ (7 * i) : Nat) : Int) := u64_add (by omega)
  have ei : IntKind.i64.wrap ((i : Int) + 1) = ((i + 1 : Nat) : Int) := i64_succ (by omega)
  have h9 : i = 9 → m < 2 := by
    intro h; subst h
    have e : (2 : Nat) ^ (7 * 9) = 9223372036854775808 := by decide
    rw [e] at hmlt; omega
  rw [eg, em, ea, ei]
  simp only [Int.toNat_natCast]
  have hleft : m < 128 → ∀ H', Sat H' S (rdr2 b ⟨subA v.a (i + 1) v.c 1, v.l - (i + 1), v.c - (i + 1)⟩ false :: R) → K (.int .u64 ((acc + m % 128 * 2 ^ (7 * i) : Nat) : Int)) H' := by
    intro hbig H' hs'
    rw [if_pos hbig] at hc3
    rw [Nat.mod_eq_of_lt hbig, ← hnm]
    refine hk _ H' ?_ hs'
    have := hv.drop (k := i + 1) (by omega)
    have e : (natB n ++ rest).drop (i + 1) = rest := by
      rw [← List.drop_drop, hd, hc1, hc3]; rfl
    rwa [e] at this
  have fin : m < 128 → ∃ x : Sl, cellH h2 b 0 = some (.slice x.a x.l x.c) ∧ ((0 : Int) ≤ ((i + 1 : Nat) : Int) ∧ ((i + 1 : Nat) : Int) ≤ ((x.l : Nat) : Int)) ∧
      CanSt h2 b 0 [.slice (subA x.a (i + 1) x.c 1) (x.l - (i + 1)) (x.c - (i + 1))] ∧
      ∀ h6, Stored h2 b 0 [.slice (subA x.a (i + 1) x.c 1) (x.l - (i + 1)) (x.c - (i + 1))] h6 → K (.int .u64 ((acc + m % 128 * 2 ^ (7 * i) : Nat) : Int)) h6 := by
    intro hbig
    refine ⟨v, hs.cell 0 rfl, ⟨by omega, by omega⟩, ?_⟩
    exact hs.store (by simp) fun H' hs' => hleft hbig H' hs'
  have hmost : ((acc + m % 128 * 2 ^ (7 * i) : Nat) : Int) ≤ (most : Int) := by omega
  have rest1 : ∀ (P1 P2 P3 P4 : Prop), (m < 128 → P4) → (¬ m < 128 → P3) → CondP (decide ((c.toNat : Int) < 128)) (CondP (decide ((i : Int) > 0)) (CondP ((c.toNat : Int) == 0) P1 (CondP (decide (((acc + m % 128 * 2 ^ (7 * i) : Nat) : Int) > (most : Int))) P1 P4)) (CondP (decide (((acc + m % 128 * 2 ^ (7 * i) : Nat) : Int) > (most : Int))) P2 P4)) P3 := by
    intro P1 P2 P3 P4 h4 h3
    rcases Nat.lt_or_ge m 128 with hbig | hbig
    · rw [if_pos hbig] at hc2
      refine CondP.of (fun _ => CondP.of (fun hi => CondP.of (fun hc0 => ?_) (fun _ => CondP.of (fun hc => absurd (of_decide_eq_true hc) (Int.not_lt.2 hmost)) fun _ => h4 hbig)) (fun _ => CondP.of (fun hc => absurd (of_decide_eq_true hc) (Int.not_lt.2 hmost)) fun _ => h4 hbig)) (fun hc => by simp at hc; omega)
      exfalso
      have := hpos (by simpa using hi)
      simp at hc0; omega
    · have hbig : ¬ m < 128 := Nat.not_lt.2 hbig
      rw [if_neg hbig] at hc2
      exact CondP.of (fun hc => by simp at hc; omega) fun _ => h3 hbig
  have more : ¬ m < 128 → i ≠ 9 → (∃ acc' i' m' : Nat, ((acc + m % 128 * 2 ^ (7 * i) : Nat) : Int) = acc' ∧ IntKind.u64.wrap (((2 ^ (7 * i) : Nat) : Int) * 128) = ((2 ^ (7 * i') : Nat) : Int) ∧ ((i + 1 : Nat) : Int) = i' ∧ Sat h2 S (rdr2 b v false :: R) ∧ (natB n ++ rest).drop i' = natB m' ++ rest ∧ acc' < 2 ^ (7 * i') ∧ n = acc' + m' * 2 ^ (7 * i') ∧ i' ≤ 9 ∧ (0 < i' → 0 < m')) ∧
      v.l - (i + 1) < v.l - i := by
    intro hbig hi
    rw [if_neg hbig] at hc3
    refine ⟨⟨_, i + 1, m / 128, rfl, ?_, rfl, hs, ?_, ?_, ?_, by omega, by omega⟩, by omega⟩
    · have h1 : (2 : Nat) ^ (7 * (i + 1)) ≤ 2 ^ 63 := Nat.pow_le_pow_right (by decide) (by omega)
      rw [show ((2 ^ (7 * i) : Nat) : Int) * 128 = ((2 ^ (7 * i) * 128 : Nat) : Int) from (Int.natCast_mul _ 128).symm, show 2 ^ (7 * i) * 128 = 2 ^ (7 * (i + 1)) from hp7, u64_nat (Nat.lt_of_le_of_lt h1 (by decide))]
    · rw [← List.drop_drop, hd, hc1, hc3]; rfl
    · have : m % 128 * 2 ^ (7 * i) ≤ 127 * 2 ^ (7 * i) := Nat.mul_le_mul_right _ (by omega)
      rw [← hp7]; omega
    · rw [hnm, ← hp7]
      have h3 : m = 128 * (m / 128) + m % 128 := (Nat.div_add_mod m 128).symm
      generalize hP : (2 : Nat) ^ (7 * i) = P at *
      have h4 : m * P = m % 128 * P + m / 128 * (P * 2 ^ 7) := by
        conv => lhs; rw [h3]
        rw [Nat.add_mul, Nat.mul_comm 128 (m / 128), Nat.mul_assoc, Nat.mul_comm 128 P, Nat.add_comm]
      rw [h4, Nat.add_assoc]
  refine CondP.of (fun hi => ?_) (fun hi => ?_)
  · have hi : i = 9 := by
      have : (i : Int) = 9 := by simpa using hi
      omega
    have hm2 := h9 hi
    refine CondP.of (fun hc => by simp at hc; omega) fun _ => ?_
    exact rest1 _ _ _ _ fin (fun h => by omega)
  · have hi : i ≠ 9 := by intro h; rw [h] at hi; simp at hi
    exact rest1 _ _ _ _ fin (fun h => more h hi)
theorem rf_spec {b : Nat} {v : Sl} {t : Bool} {rest : List UInt8} (hs : Sat H S (rdr2 b v false :: R)) (hv : RdB S v (flagB t ++ rest)) (hlen : rest.length < 1000000000000)
    {K : Value → Heap → Prop} (hk : ∀ v' H', RdB S v' rest → Sat H' S (rdr2 b v' false :: R) → K (.bool t) H') : CallsH Tryz.prog 175 #[.pointer (some ⟨b, 0, none⟩)] H K := by
  apply vc175
  refine rn_spec (n := if t then 1 else 0) (most := 1) hs hv (by split <;> omega) (by split <;> omega) hlen fun v' h1 hv' hs' => ⟨_, rfl, ?_⟩
  have := hk v' h1 hv' hs'
  cases t <;> exact this
theorem re_spec {b : Nat} {v : Sl} (hs : Sat H S (rdr2 b v false :: R)) (h0 : v.l = 0) {K : Value → Heap → Prop} (hk : K (.int .i64 0) H) : CallsH Tryz.prog 156 #[.pointer (some ⟨b, 0, none⟩)] H K := by
  apply vc156
  exact ⟨_, hs.cell 1 rfl, CondP.of (fun hc => by cases hc) fun _ => ⟨v, hs.cell 0 rfl, CondP.of (fun hc => by simp at hc; omega) fun _ => hk⟩⟩
theorem rt_spec {b : Nat} {v : Sl} {most : Nat} {s rest : List UInt8} (hs : Sat H S (rdr2 b v false :: R)) (hv : RdB S v (textB s ++ rest)) (hm : s.length ≤ most) (hm2 : most < 9223372036854775808) (hlen : s.length + rest.length < 1000000000000)
    {K : Value → Heap → Prop} (hk : ∀ v' H', RdB S v' rest → Sat H' S (rdr2 b v' false :: R) → K (.string ⟨s.toArray⟩) H') :
    CallsH Tryz.prog 155 #[.pointer (some ⟨b, 0, none⟩), .int .i64 (most : Int)] H K := by
  apply vc155
  refine CondP.of (fun hc => by simp at hc; omega) fun _ => ?_
  rw [u64_nat (by omega)]
  have hv' : RdB S v (natB s.length ++ (s ++ rest)) := by rw [← List.append_assoc]; exact hv
  refine rn_spec hs hv' (by omega) hm (by rw [List.length_append]; omega) fun v2 H2 hv2 hs2 => ⟨_, rfl, ?_⟩
  have hl2 := RdB.len hv2
  rw [List.length_append] at hl2
  refine ⟨v2, hs2.cell 0 rfl, ?_⟩
  rw [u64_nat (by omega)]
  refine CondP.of (fun hc => by simp at hc; omega) fun _ => ⟨v2, hs2.cell 0 rfl, ⟨by omega, by omega, by have := hv2.2.1; omega⟩, ⟨s.toArray⟩, ?_, ?_⟩
  · simp only [Int.toNat_natCast]
    rcases Nat.eq_zero_or_pos s.length with h0 | h0
    · exact ⟨rfl, .inl h0⟩
    · rw [subA_zero (hv2.spot (by omega))]
      have := StrOf.ofRd (hv2.take (k := s.length) (m := v2.c) (by omega) (by have := hv2.2.1; omega)) hs2
      rwa [List.take_left] at this
  · simp only [Int.toNat_natCast]
    refine ⟨v2, hs2.cell 0 rfl, ⟨by omega, by omega⟩, ?_⟩
    refine hs2.store (by simp) fun h6 hs6 => hk ⟨subA v2.a s.length v2.c 1, v2.l - s.length, v2.c - s.length⟩ h6 ?_ hs6
    have := hv2.drop (k := s.length) (by omega)
    rwa [List.drop_left] at this
theorem rsum_spec {v : Sl} {xs : List UInt8} (hv : v.l = xs.length ∧ (v.l = 0 ∨ ∃ b o, v.a = some ⟨b, o, none⟩ ∧ CellsAt H b o (bv xs))) (hlen : xs.length < 10000000000) {K : Value → Heap → Prop}
    (hk : K (.int .u32 ((4294967295 - crc xs : Nat) : Int)) H) : CallsH Tryz.prog 174 #[.slice v.a v.l v.c] H K := by
  apply vc174
  obtain ⟨hl, hr⟩ := hv
  refine ⟨fun n1 n2 h => ∃ i : Nat, n1 = (crc (xs.take i) : Nat) ∧ n2 = i ∧ i ≤ xs.length ∧ h = H, fun _ n2 _ => xs.length - n2.toNat, ⟨0, rfl, rfl, Nat.zero_le _, rfl⟩, ?_⟩
  rintro n1 n2 h1 ⟨i, rfl, rfl, hi, rfl⟩ _
  refine CondP.of (fun hc => ?_) (fun hc => ?_)
  · have hc : i < xs.length := by simp at hc; omega
    obtain ⟨gb, go, ga, gc⟩ := hr.resolve_left (by omega)
    have hget := gc.get i _ (bv_get (List.getElem?_eq_getElem hc))
    refine ⟨⟨by omega, by omega⟩, NilP.of ga ⟨((xs[i]).toNat : Int), by simpa using hget, ?_⟩⟩
    have hclt := crc_lt (xs.take i)
    have hc256 := (xs[i]).toNat_lt
    have hsn : crc (xs.take (i + 1)) = csteps 8 (crc (xs.take i) ^^^ (xs[i]).toNat) := by
      rw [List.take_succ_eq_append_getElem hc, crc_snoc]; rfl
    generalize hcr : crc (xs.take i) = cr at *
    generalize hxc : (xs[i]).toNat = c at *
    refine ⟨fun n4 n5 n6 h => ∃ k a : Nat, n4 = a ∧ n5 = ((c / 2 ^ k : Nat) : Int) ∧ n6 = k ∧ k ≤ 8 ∧ a < 4294967296 ∧ a ^^^ (c / 2 ^ k) = csteps k (cr ^^^ c) ∧ h = h1, fun _ _ n6 _ => 8 - n6.toNat, ⟨0, cr, rfl, by simp, rfl, by omega, hclt, by simp [csteps], rfl⟩, ?_⟩
    rintro n4 n5 n6 h2 ⟨k, a, rfl, rfl, rfl, hk8, ha, hax, rfl⟩ _
    have hck : c / 2 ^ k < 256 := Nat.lt_of_le_of_lt (Nat.div_le_self _ _) hc256
    have hcs : ∀ (j n : Nat), csteps (j + 1) n = cstep (csteps j n) := by
      intro j n
      rw [csteps_add j 1 n]; rfl
    refine CondP.of (fun hc2 => ?_) (fun hc2 => ?_)
    · have hk7 : k < 8 := by simp at hc2; omega
      have e1 : IntKind.u32.wrap (Int.tmod ((c / 2 ^ k : Nat) : Int) 2) = ((c / 2 ^ k % 2 : Nat) : Int) := by
        rw [show Int.tmod ((c / 2 ^ k : Nat) : Int) 2 = ((c / 2 ^ k % 2 : Nat) : Int) from tmod_nat _ 2, u32_in (by omega) (by omega)]
      have e2 : IntKind.u32.wrap (Int.tdiv (a : Int) 2) = ((a / 2 : Nat) : Int) := by
        rw [show Int.tdiv (a : Int) 2 = ((a / 2 : Nat) : Int) from tdiv_nat _ 2, u32_in (by omega) (by omega)]
      have e3 : IntKind.u8.wrap (Int.tdiv ((c / 2 ^ k : Nat) : Int) 2) = ((c / 2 ^ (k + 1) : Nat) : Int) := by
        rw [show Int.tdiv ((c / 2 ^ k : Nat) : Int) 2 = ((c / 2 ^ k / 2 : Nat) : Int) from tdiv_nat _ 2, Nat.div_div_eq_div_mul, ← Nat.pow_succ, u8_in (Int.natCast_nonneg _) (by have := Nat.div_le_self c (2 ^ (k.succ)); omega)]
      have e4 : Int.tmod (a : Int) 2 = ((a % 2 : Nat) : Int) := tmod_nat _ 2
      have hdd : c / 2 ^ k / 2 = c / 2 ^ (k + 1) := by rw [Nat.div_div_eq_div_mul, ← Nat.pow_succ]
      have hbes := cstep_beside a (c / 2 ^ k)
      rw [hax, ← hcs, hdd] at hbes
      rw [e1, e2, e3, e4, i64_succ (by omega)]
      refine ⟨by decide, by decide, by decide, by decide, CondP.of (fun hc3 => ?_) (fun hc3 => ?_)⟩
      · have hne : a % 2 ≠ c / 2 ^ k % 2 := by intro h; rw [h] at hc3; simp at hc3
        rw [if_pos hne] at hbes
        have ex : bXor .u32 ((a / 2 : Nat) : Int) 3988292384 = ((a / 2 ^^^ poly : Nat) : Int) := bXor_u32 (b := poly) (by omega) (by decide)
        rw [ex]
        exact ⟨⟨k + 1, _, rfl, rfl, rfl, hk7, Nat.xor_lt_two_pow (n := 32) (by omega) (by decide), hbes, rfl⟩, by simp only [Int.toNat_natCast]; omega⟩
      · have heq : ¬ a % 2 ≠ c / 2 ^ k % 2 := by
          intro h; apply h
          have : ((a % 2 : Nat) : Int) = ((c / 2 ^ k % 2 : Nat) : Int) := by simpa using hc3
          omega
        rw [if_neg heq, Nat.xor_zero] at hbes
        exact ⟨⟨k + 1, _, rfl, rfl, rfl, hk7, by omega, hbes, rfl⟩, by simp only [Int.toNat_natCast]; omega⟩
    · have hk8' : k = 8 := by simp at hc2; omega
      subst hk8'
      have h0 : c / 2 ^ 8 = 0 := Nat.div_eq_of_lt (by omega)
      rw [h0, Nat.xor_zero] at hax
      rw [i64_succ (by omega)]
      refine ⟨⟨i + 1, by rw [hax, hsn], rfl, hc, rfl⟩, by simp only [Int.toNat_natCast]; omega⟩
  · have hc : i = xs.length := by simp at hc; omega
    subst hc
    rw [List.take_length]
    have := crc_lt xs
    rw [u32_in (by omega) (by omega)]
    have e : (4294967295 : Int) - (crc xs : Int) = ((4294967295 - crc xs : Nat) : Int) := by omega
    rw [e]; exact hk
theorem rfour_spec {n : Nat} (hs : Sat H S R) (hn : n < 4294967296) {K : Value → Heap → Prop} (hk : ∀ (v' : Sl) H', Sat H' S (own 5 1 v' (bv (four n)) :: R) → K (.slice v'.a v'.l v'.c) H') : CallsH Tryz.prog 173 #[.int .u32 (n : Int)] H K := by
  apply vc173
  have h4 : ∀ i, i < 4 → (four n).take (i + 1) = (four n).take i ++ [UInt8.ofNat (n / 256 ^ i)] := by
    intro i hi
    rcases (by omega : i = 0 ∨ i = 1 ∨ i = 2 ∨ i = 3) with rfl | rfl | rfl | rfl <;> simp [four]
  refine ⟨fun n1 x n2 h => ∃ i : Nat, n1 = ((n / 256 ^ i : Nat) : Int) ∧ n2 = i ∧ i ≤ 4 ∧ Sat h S (own 5 1 x (bv ((four n).take i)) :: R), fun _ _ n2 _ => 4 - n2.toNat, ⟨0, by simp, rfl, by omega, own.new 5 1 hs⟩, ?_⟩
  rintro n1 x n2 h1 ⟨i, rfl, rfl, hi, hs1⟩ _
  have hxl := (own.len hs1).1
  rw [bv_len, List.length_take, Nat.mul_one] at hxl
  have hf4 : (four n).length = 4 := rfl
  refine CondP.of (fun hc => ?_) (fun hc => ?_)
  · have hc : i < 4 := by simp at hc; omega
    refine ⟨by decide, ?_⟩
    have e1 : IntKind.u8.wrap (Int.tmod ((n / 256 ^ i : Nat) : Int) 256) = (((UInt8.ofNat (n / 256 ^ i)).toNat : Nat) : Int) := by
      rw [show Int.tmod ((n / 256 ^ i : Nat) : Int) 256 = ((n / 256 ^ i % 256 : Nat) : Int) from tmod_nat _ 256, u8_in (by omega) (by omega)]
      simp
    rw [e1]
    intro b1 h2 f2
    have hs2 : Sat h2 S (lst b1 5 (bv [UInt8.ofNat (n / 256 ^ i)]) :: own 5 1 x (bv ((four n).take i)) :: R) := hs1.fresh f2
    refine append_one el33 (v := x) hs2 rfl (bv_one _) (by omega) (by unfold maxLen; omega) fun v' h3 hv' hs3 => ⟨by decide, ?_⟩
    rw [← bv_append, ← h4 i hc] at hs3
    have hle := Nat.div_le_self n (256 ^ i)
    have e2 : IntKind.u32.wrap (Int.tdiv ((n / 256 ^ i : Nat) : Int) 256) = ((n / 256 ^ (i + 1) : Nat) : Int) := by
      rw [show Int.tdiv ((n / 256 ^ i : Nat) : Int) 256 = ((n / 256 ^ i / 256 : Nat) : Int) from tdiv_nat _ 256, Nat.div_div_eq_div_mul, ← Nat.pow_succ, u32_in (Int.natCast_nonneg _) (by have := Nat.div_le_self n (256 ^ (i.succ)); omega)]
    rw [e2, i64_succ (by omega)]
    exact ⟨⟨i + 1, rfl, rfl, hc, hs3⟩, by simp only [Int.toNat_natCast]; omega⟩
  · have hc : i = 4 := by simp at hc; omega
    subst hc
    exact hk x h1 hs1
end
end Go.Sx.Tryz
namespace Go.Sx.Tryz
open Go Go.Sx Go.Proofs
set_option linter.unusedVariables false
set_option maxRecDepth 20000
section
variable {H H' : Heap} {S : PH} {R : List Asn}
theorem ropen_loop {v : Sl} {kind : UInt8} {p' : List UInt8} (hs : Sat H S R) (hv : RdB S v (kind :: p')) (hlen : p'.length < 1000000000000) {Q Q2 : Heap → Prop} (hq : openB p' = true → Q H) (hq2 : openB p' = false → Q2 H) :
    ∃ (I1 : Bool → Int → Heap → Prop) (mu1 : Bool → Int → Heap → Nat), I1 (decide ((((v.l : Nat) : Int) : Int) < 11)) 1 H ∧ (∀ t1 : Bool, ∀ n2 : Int, ∀ h1, I1 t1 n2 h1 → ∀ _ : Env,
     CondP (decide ((n2 : Int) < ((v.l : Nat) : Int))) (
     CondP t1 (
     ((0 : Int) ≤ n2 ∧ (n2 : Int) < ((v.l : Nat) : Int)) ∧
     NilP v.a (fun b2 o2 =>
     ∃ n3 : Int, cellH h1 b2 (o2 + n2.toNat) = some (.int .u8 n3) ∧
     I1 (decide ((n3 : Int) ≥ 128)) (IntKind.i64.wrap (n2 + 1)) h1 ∧ mu1 (decide ((n3 : Int) ≥ 128)) (IntKind.i64.wrap (n2 + 1)) h1 < mu1 t1 n2 h1)) (
     I1 false (IntKind.i64.wrap (n2 + 1)) h1 ∧ mu1 false (IntKind.i64.wrap (n2 + 1)) h1 < mu1 t1 n2 h1)) (CondP t1 (Q h1) (Q2 h1))) := by
  have hl := RdB.len hv
  simp only [List.length_cons] at hl
  refine ⟨fun t n h => ∃ i : Nat, n = ((1 + i : Nat) : Int) ∧ i ≤ p'.length ∧ h = H ∧ t = ((p'.take i).all (fun c => decide (128 ≤ c.toNat)) && decide (p'.length < 10)), fun _ n _ => p'.length + 1 - n.toNat, ⟨0, rfl, Nat.zero_le _, rfl, by simp; omega⟩, ?_⟩
  rintro t n h1 ⟨i, rfl, hi, rfl, rfl⟩ _
  refine CondP.of (fun hc => ?_) (fun hc => ?_)
  · have hc : i < p'.length := by simp at hc; omega
    have e1 : IntKind.i64.wrap (((1 + i : Nat) : Int) + 1) = ((1 + (i + 1) : Nat) : Int) := by rw [i64_succ (by omega)]; rfl
    have hst : (p'.take (i + 1)).all (fun c => decide (128 ≤ c.toNat)) = ((p'.take i).all (fun c => decide (128 ≤ c.toNat)) && decide (128 ≤ (p'[i]).toNat)) := by
      rw [List.take_succ_eq_append_getElem hc, List.all_append]; simp
    rw [e1]
    refine CondP.of (fun ht => ?_) (fun ht => ?_)
    · rw [Bool.and_eq_true] at ht
      obtain ⟨gb, go, ga, gc⟩ := hv.get hs (k := 1 + i) (c := p'[i]) (by rw [Nat.add_comm, List.getElem?_cons_succ, List.getElem?_eq_getElem hc])
      refine ⟨⟨by omega, by omega⟩, NilP.of ga ⟨_, by rw [Int.toNat_natCast]; exact gc, ⟨i + 1, rfl, hc, rfl, ?_⟩, by simp only [Int.toNat_natCast]; omega⟩⟩
      rw [hst, ht.1, ht.2, Bool.true_and, Bool.and_true]
      exact decide_eq_decide.2 (by omega)
    · refine ⟨⟨i + 1, rfl, hc, rfl, ?_⟩, by simp only [Int.toNat_natCast]; omega⟩
      rw [hst]
      rw [Bool.and_right_comm, ht, Bool.false_and]
  · have hc : i = p'.length := by simp at hc; omega
    subst hc
    rw [List.take_length]
    exact CondP.of hq hq2
set_option maxHeartbeats 1000000 in
theorem rtake_ok {kind : UInt8} {v : Sl} {body rest : List UInt8} (hs : Sat H S R) (hv : RdB S v (parcelB kind body ++ rest)) (h0 : kind ≠ 0) (hb : body.length ≤ 65536) (hlen : rest.length < 1000000000)
    {K : Value → Heap → Prop} (hk : ∀ (v' : Sl) H' S', PH.le S S' → RdB S' v' body → Sat H' S' R → K (.tuple #[.int .u8 (kind.toNat : Int), .slice v'.a v'.l v'.c, .int .i64 ((parcelB kind body).length : Int), .int .i64 0]) H') :
    CallsH Tryz.prog 151 #[.slice v.a v.l v.c] H K := by
  apply vc151
  have hl := RdB.len hv
  have hn10 := natB_le (n := body.length) (by omega)
  rw [List.length_append, parcelB_len] at hl
  have hspot := hv.spot (by omega)
  generalize hL : (natB body.length).length = L at *
  refine CondP.of (fun hc => by simp at hc; omega) (fun _ => ⟨⟨by omega, by omega⟩, ?_⟩)
  have hx : parcelB kind body ++ rest = kind :: (natB body.length ++ (body ++ (sumB (parcelH kind body) ++ rest))) := by simp [parcelB, parcelH, textB]
  obtain ⟨gb, go, ga, gc⟩ := hv.get hs (k := 0) (c := kind) (by rw [hx]; rfl)
  refine NilP.of ga ⟨(kind.toNat : Int), by simpa using gc, CondP.of (fun hc => ?_) (fun _ => ?_)⟩
  · exfalso; apply h0
    have : kind.toNat = 0 := by simpa using hc
    exact UInt8.toNat_inj.1 this
  have hlr : (body ++ (sumB (parcelH kind body) ++ rest)).length = body.length + (4 + rest.length) := by simp [sumB_len]
  have hvx := hv
  rw [hx] at hvx
  have hvc := hv.2.1
  refine ropen_loop hs hvx (by rw [List.length_append, hlr]; omega) (fun h => by rw [openB_nat] at h; cases h) (fun _ => ⟨⟨by omega, by omega⟩, ?_⟩)
  intro b3 h2 f2
  have hs2 : Sat h2 S (rdr2 b3 ⟨subA v.a 1 v.c 1, v.l - 1, v.c - 1⟩ false :: R) := hs.fresh f2
  have hv1 := hv.drop (k := 1) (by omega)
  rw [hx, List.drop_one, List.tail_cons] at hv1
  refine rn_spec (most := 18446744073709551615) (n := body.length) hs2 hv1 (by omega) (by omega) (by rw [hlr]; omega) fun v2 h3 hv2 hs3 => ⟨_, rfl, _, hs3.cell 1 rfl, CondP.of (fun hc => by cases hc) fun _ => CondP.of (fun hc => by simp at hc; omega) fun _ => ⟨v2, hs3.cell 0 rfl, ?_⟩⟩
  have hl2 := RdB.len hv2
  rw [hlr] at hl2
  have e2 : IntKind.i64.wrap (body.length : Int) = (body.length : Int) := i64_nat (by omega)
  have e0 : IntKind.i64.wrap ((body.length : Int) + 4) = ((body.length + 4 : Nat) : Int) := i64_add (j := 4) (by omega)
  have e1 : IntKind.i64.wrap ((v.l : Int) - (v2.l : Int)) = ((1 + L : Nat) : Int) := by rw [i64_sub (by omega) (by omega)]; omega
  have e3 : IntKind.i64.wrap (((1 + L : Nat) : Int) + (body.length : Int)) = ((1 + L + body.length : Nat) : Int) := i64_add (by omega)
  have e4 : IntKind.i64.wrap (((1 + L + body.length : Nat) : Int) + 4) = ((1 + L + body.length + 4 : Nat) : Int) := i64_add (j := 4) (by omega)
  have e5 : IntKind.i64.wrap (((1 + L + body.length + 4 : Nat) : Int) - 4) = ((1 + L + body.length : Nat) : Int) := i64_sub (i := 1 + L + body.length + 4) (j := 4) (by omega) (by omega)
  rw [e2, e0]
  refine CondP.of (fun hc => by simp at hc; omega) fun _ => ⟨v2, hs3.cell 0 rfl, ?_⟩
  simp only [e1, e3, e4, e5, Int.toNat_natCast, subA_zero hspot]
  refine ⟨⟨by omega, by omega, by omega⟩, ⟨by omega, by omega, by omega⟩, ?_⟩
  have hpl : (parcelH kind body).length = 1 + L + body.length := by rw [parcelH_len, hL]
  have hwhole : (parcelB kind body ++ rest).take (1 + L + body.length) = parcelH kind body := by
    rw [parcelB, List.append_assoc, ← hpl, List.take_left]
  have hall : (parcelB kind body ++ rest).take (1 + L + body.length + 4) = parcelB kind body := by
    have : (parcelB kind body).length = 1 + L + body.length + 4 := by rw [parcelB_len, hL]; omega
    rw [← this, List.take_left]
  have hsum : RdB S ⟨subA v.a (1 + L + body.length) v.c 1, 1 + L + body.length + 4 - (1 + L + body.length), v.c - (1 + L + body.length)⟩ (sumB (parcelH kind body)) := by
    have := (hv.take (k := 1 + L + body.length + 4) (m := v.c) (by omega) (by omega)).drop (k := 1 + L + body.length) (by show _ ≤ 1 + L + body.length + 4; omega)
    rw [hall, parcelB, ← hpl, List.drop_left, hpl] at this
    exact this
  have hst : ∀ (h : Heap) (L' : List Asn), Sat h S L' → StrOf h (subA v.a (1 + L + body.length) v.c 1) (1 + L + body.length + 4 - (1 + L + body.length)) ⟨(sumB (parcelH kind body)).toArray⟩ := fun h L' hh => StrOf.ofRd hsum hh
  refine ⟨_, hst _ _ hs3, ?_⟩
  have hr1 := (hv.take (k := 1 + L + body.length) (m := v.c) (by omega) (by omega)).reads hs3
  rw [hwhole] at hr1
  refine rsum_spec (v := ⟨v.a, 1 + L + body.length, v.c⟩) hr1 (by omega) ⟨_, rfl, hst _ _ hs3, ?_⟩
  have hcl := crc_lt (parcelH kind body)
  refine rfour_spec hs3 (by omega) fun x3 h5 hs5 => ⟨x3, rfl, hst _ _ hs5, ⟨(sumB (parcelH kind body)).toArray⟩, StrOf.ofCells (own.reads hs5).1 (own.reads hs5).2, CondP.of (fun hc => ?_) (fun _ => ⟨⟨by omega, by omega⟩, ?_⟩)⟩
  · simp at hc
  obtain ⟨gb5, go5, ga5, gc5⟩ := hv.get hs5 (k := 0) (c := kind) (by rw [hx]; rfl)
  refine NilP.of ga5 ⟨(kind.toNat : Int), by simpa using gc5, v2, hs5.swap.cell 0 rfl, ⟨by omega, by omega, by have := hv2.2.1; omega⟩, ?_⟩
  intro b5 h6 f6
  have hs6 : Sat h6 S (lst b5 5 [] :: own 5 1 x3 (bv (four (4294967295 - crc (parcelH kind body)))) :: rdr2 b3 v2 false :: R) := hs5.fresh f6
  obtain ⟨gb6, go6, ga6, gc6⟩ := hv.get hs6 (k := 0) (c := kind) (by rw [hx]; rfl)
  rw [ga5] at ga6
  cases ga6
  refine ⟨(hs6.pick 2 rfl).cell 0 rfl, by simpa using gc6, ?_⟩
  have hs7 := own.ofLst (sz := 1) (n := 0) (c := 0) (xs := bv []) hs6 rfl (Nat.le_refl _) (by decide) rfl
  have hr3 := (hv2.take (k := body.length) (m := v2.c) (by omega) (by have := hv2.2.1; omega)).reads hs7
  rw [List.take_left] at hr3
  have hsub : ∀ (hh : 0 < body.length), subA v2.a 0 v2.c 1 = v2.a := fun hh => subA_zero (hv2.spot (by omega))
  refine append_own el33 (v := ⟨some ⟨b5, 0, none⟩, 0, 0⟩) (xs := bv []) hs7 (m := body.length) (c := v2.c) (news := bv body) (by rw [bv_len, Nat.mul_one]) ?_ (bv_one _) (by show (0 + body.length) * 1 ≤ _; omega) (by show 0 + body.length ≤ maxLen; unfold maxLen; omega) fun x5 h8 hx5 hs8 => ?_
  · rcases Nat.eq_zero_or_pos body.length with h | h
    · exact .inl h
    · right
      rw [hsub h]
      exact hr3.2.resolve_left (by show ¬ body.length = 0; omega)
  · have hs8 : Sat h8 S (own 5 1 x5 (bv body) :: own 5 1 x3 (bv (four (4294967295 - crc (parcelH kind body)))) :: rdr2 b3 v2 false :: R) := hs8
    obtain ⟨S', q1, q2, q3⟩ := own.fixd hs8
    obtain ⟨gb8, go8, ga8, gc8⟩ := (hv.mono q1).get q3 (k := 0) (c := kind) (by rw [hx]; rfl)
    rw [ga5] at ga8
    cases ga8
    refine ⟨by simpa using gc8, ?_⟩
    have := hk x5 h8 S' q1 q2 (q3.drop.drop)
    rw [parcelB_len, hL] at this
    rw [show 1 + L + body.length + 4 = 5 + L + body.length by omega]
    exact this
theorem rtake_torn {kind : UInt8} {v : Sl} {body p q : List UInt8} (hs : Sat H S R) (hv : RdB S v p) (hp : parcelB kind body = p ++ q) (hq : q ≠ []) (h0 : kind ≠ 0) (hb : body.length ≤ 65536)
    {K : Value → Heap → Prop} (hk : ∀ H', Sat H' S R → K (.tuple #[.int .u8 0, .slice none 0 0, .int .i64 0, .int .i64 31]) H') :
    CallsH Tryz.prog 151 #[.slice v.a v.l v.c] H K := by
  apply vc151
  have hl := RdB.len hv
  have hn10 := natB_le (n := body.length) (by omega)
  have hpl := congrArg List.length hp
  rw [parcelB_len, List.length_append] at hpl
  have hql : 0 < q.length := List.length_pos_iff.2 hq
  refine CondP.of (fun hc => hk H hs) (fun hc => ⟨⟨by omega, by simp at hc; omega⟩, ?_⟩)
  have hc : 0 < p.length := by simp at hc; omega
  obtain ⟨k', p', rfl⟩ : ∃ k' p', p = k' :: p' := by
    cases p with
    | nil => simp at hc
    | cons a p => exact ⟨a, p, rfl⟩
  have hx : parcelB kind body = kind :: (natB body.length ++ (body ++ sumB (parcelH kind body))) := by simp [parcelB, parcelH, textB]
  rw [hx] at hp
  obtain ⟨rfl, hp'⟩ := List.cons.inj hp
  obtain ⟨gb, go, ga, gc⟩ := hv.get hs (k := 0) (c := kind) rfl
  refine NilP.of ga ⟨(kind.toNat : Int), by simpa using gc, CondP.of (fun hc => ?_) (fun _ => ?_)⟩
  · exfalso; apply h0
    have : kind.toNat = 0 := by simpa using hc
    exact UInt8.toNat_inj.1 this
  have hp'l : p'.length < 1000000 := by simp only [List.length_cons] at hpl; omega
  refine ropen_loop hs hv (by omega) (fun _ => hk H hs) (fun hop => ⟨⟨by omega, by omega⟩, ?_⟩)
  have hv1 := hv.drop (k := 1) (by omega)
  rw [List.drop_one, List.tail_cons] at hv1
  obtain ⟨r, hr, hrl⟩ : ∃ r, p' = natB body.length ++ r ∧ r.length < body.length + 4 := by
    rcases Nat.lt_or_ge p'.length (natB body.length).length with h | h
    · exfalso
      have h1 : natB body.length = p' ++ (natB body.length).drop p'.length := by
        have h2 : (natB body.length).take p'.length = p' := by
          have := congrArg (List.take p'.length) hp'
          rw [List.cons_append] at hp
          rw [List.take_append_of_le_length (by omega)] at this
          rw [this]; exact List.take_left
        conv => lhs; rw [← List.take_append_drop p'.length (natB body.length), h2]
      have := openB_begin (n := body.length) (by omega) h1 (by intro e; have := congrArg List.length e; rw [List.length_drop, List.length_nil] at this; omega)
      rw [this] at hop; cases hop
    · refine ⟨p'.drop (natB body.length).length, ?_, ?_⟩
      · have h2 : p'.take (natB body.length).length = natB body.length := by
          have := congrArg (List.take (natB body.length).length) hp'
          rw [List.take_left, show List.append p' q = p' ++ q from rfl, List.take_append_of_le_length h] at this
          exact this.symm
        conv => lhs; rw [← List.take_append_drop (natB body.length).length p', h2]
      · rw [List.length_drop]; simp only [List.length_cons] at hpl; omega
  subst hr
  intro b3 h2 f2
  have hs2 : Sat h2 S (rdr2 b3 ⟨subA v.a 1 v.c 1, v.l - 1, v.c - 1⟩ false :: R) := hs.fresh f2
  refine rn_spec (most := 18446744073709551615) (n := body.length) hs2 hv1 (by omega) (by omega) (by omega) fun v2 h3 hv2 hs3 => ⟨_, rfl, _, hs3.cell 1 rfl, CondP.of (fun hc => by cases hc) fun _ => CondP.of (fun hc => by simp at hc; omega) fun _ => ⟨v2, hs3.cell 0 rfl, CondP.of (fun _ => hk h3 hs3.drop) (fun hc => ?_)⟩⟩
  exfalso
  have hl2 := RdB.len hv2
  rw [i64_nat (i := body.length) (by omega), show IntKind.i64.wrap ((body.length : Int) + 4) = ((body.length + 4 : Nat) : Int) from i64_add (j := 4) (by omega)] at hc
  simp at hc; omega
end
end Go.Sx.Tryz
namespace Go.Sx.Tryz
open Go Go.Sx Go.Proofs
set_option maxRecDepth 100000
set_option linter.unusedVariables false
noncomputable def c152 : Code := (Tryz.f152.body).getD .skip
def a152 : Ann := (.seq .leaf (.seq .leaf (.seq .leaf (.seq .leaf (.seq .leaf (.seq .leaf (.seq .leaf (.seq (.reg (.q 0 (.q 1 (.q 2 (.q 3 (.q 4 (.q 5 (.q 6 (.m 7 (.q 8 (.q 9 (.q 10 (.q 11 (.m 12 (.q 13 (.fin)) (.nil)))))) (.nil)))))))))) .leaf))))))))
theorem ok152 : okC tab 35 true c152 a152 = true := by kernel_rfl
theorem vc152 (kind_ : Int) (body_ : Sl) (h : Heap) (R : Value → Heap → Prop)
  (hv : ∀ b1 h1, Fresh h (.cells #[.int .u64 0, .int .u64 0, .slice none 0 0] 35) b1 h1 →
   ∀ b2 h2, Fresh h1 (.cells #[.slice body_.a body_.l body_.c, .bool false] 219) b2 h2 →
   CallsH Tryz.prog 154 #[.pointer (some ⟨b2, 0, none⟩), .int .u64 4611686018427387904] h2 (fun r1 h3 => ∃ n1 : Int, r1 = .int .u64 n1 ∧
   CallsH Tryz.prog 175 #[.pointer (some ⟨b2, 0, none⟩)] h3 (fun r2 h4 => ∃ t1 : Bool, r2 = .bool t1 ∧
   ∀ b3 h5, Fresh h4 (.cells #[.int .u64 0, .int .u64 0, .slice none 0 0] 35) b3 h5 →
   CallsH Tryz.prog 154 #[.pointer (some ⟨b2, 0, none⟩), .int .u64 4611686018427387904] h5 (fun r3 h6 => ∃ n2 : Int, r3 = .int .u64 n2 ∧
   CanSt h6 b3 0 [.int .u64 n2] ∧ ∀ h7, Stored h6 b3 0 [.int .u64 n2] h7 →
   CallsH Tryz.prog 154 #[.pointer (some ⟨b2, 0, none⟩), .int .u64 4611686018427387904] h7 (fun r4 h8 => ∃ n3 : Int, r4 = .int .u64 n3 ∧
   CanSt h8 b3 1 [.int .u64 n3] ∧ ∀ h9, Stored h8 b3 1 [.int .u64 n3] h9 →
   ∃ n4 : Int, ∃ n5 : Int, ∃ x1 : Sl, CellsAt h9 b3 0 [.int .u64 n4, .int .u64 n5, .slice x1.a x1.l x1.c] ∧
   CondP ((kind_ : Int) == 1) (
   CallsH Tryz.prog 156 #[.pointer (some ⟨b2, 0, none⟩)] h9 (fun r5 h10 => ∃ n6 : Int, r5 = .int .i64 n6 ∧
   CellsAt h10 b3 0 [.int .u64 n4, .int .u64 n5, .slice x1.a x1.l x1.c] ∧
   CanSt h10 b1 0 [.int .u64 n4, .int .u64 n5, .slice x1.a x1.l x1.c] ∧ ∀ h11, Stored h10 b1 0 [.int .u64 n4, .int .u64 n5, .slice x1.a x1.l x1.c] h11 →
   ∃ n7 : Int, ∃ n8 : Int, ∃ x2 : Sl, CellsAt h11 b1 0 [.int .u64 n7, .int .u64 n8, .slice x2.a x2.l x2.c] ∧
   R (.tuple #[.int .u64 n1, .bool t1, .agg #[.int .u64 n7, .int .u64 n8, .slice x2.a x2.l x2.c], .bool ((n6 : Int) == 0)]) h11)) (
   CanSt h9 b1 0 [.int .u64 n4, .int .u64 n5, .slice x1.a x1.l x1.c] ∧ ∀ h12, Stored h9 b1 0 [.int .u64 n4, .int .u64 n5, .slice x1.a x1.l x1.c] h12 →
   ∃ n9 : Int, ∃ n10 : Int, ∃ x3 : Sl, CellsAt h12 b1 0 [.int .u64 n9, .int .u64 n10, .slice x3.a x3.l x3.c] ∧
   R (.tuple #[.int .u64 n1, .bool t1, .agg #[.int .u64 n9, .int .u64 n10, .slice x3.a x3.l x3.c], .bool false]) h12)))))) :
  CallsH Tryz.prog 152 #[.int .u8 kind_, .slice body_.a body_.l body_.c] h R :=
  calls_of_vc tabOk mixed Tryz.func152 (c := c152) (by kernel_rfl) (n := 35) rfl (rs := [.tmp 4, .tmp 5, .cell 6 35, .tmp 7]) (by kernel_rfl) ok152 (args := [.int .u8 kind_, .slice body_.a body_.l body_.c]) (Nat.le_of_ble_eq_true rfl) (Eq.mpr (by kernel_rfl) hv)
end Go.Sx.Tryz
namespace Go.Sx.Tryz
open Go Go.Sx Go.Proofs
set_option maxRecDepth 100000
set_option linter.unusedVariables false
noncomputable def c109 : Code := (Tryz.f109.body).getD .skip
def a109 : Ann := (.seq .leaf (.seq .leaf (.seq (.seq .leaf (.br (.seq .leaf .leaf) .leaf)) (.seq .leaf (.seq .leaf .leaf)))))
theorem ok109 : okC tab 31 true c109 a109 = true := by kernel_rfl
theorem vc109 (b_ : Sl) (h : Heap) (R : Value → Heap → Prop)
  (hv : CallsH Tryz.prog 151 #[.slice b_.a b_.l b_.c] h (fun r1 h1 => ∃ n1 : Int, ∃ x1 : Sl, ∃ n2 : Int, ∃ n3 : Int, r1 = .tuple #[.int .u8 n1, .slice x1.a x1.l x1.c, .int .i64 n2, .int .i64 n3] ∧
   CondP ((n3 : Int) != 0) (
   R (.tuple #[.int .u64 0, .bool false]) h1) (
   CallsH Tryz.prog 152 #[.int .u8 n1, .slice x1.a x1.l x1.c] h1 (fun r2 h2 => ∃ n4 : Int, ∃ t1 : Bool, ∃ n5 : Int, ∃ n6 : Int, ∃ x2 : Sl, ∃ t2 : Bool, r2 = .tuple #[.int .u64 n4, .bool t1, .agg #[.int .u64 n5, .int .u64 n6, .slice x2.a x2.l x2.c], .bool t2] ∧
   ∀ b1 h3, Fresh h2 (.cells #[.int .u64 0, .int .u64 0, .slice none 0 0] 35) b1 h3 →
   CanSt h3 b1 0 [.int .u64 n5, .int .u64 n6, .slice x2.a x2.l x2.c] ∧ ∀ h4, Stored h3 b1 0 [.int .u64 n5, .int .u64 n6, .slice x2.a x2.l x2.c] h4 →
   R (.tuple #[.int .u64 n4, .bool t2]) h4)))) :
  CallsH Tryz.prog 109 #[.slice b_.a b_.l b_.c] h R :=
  calls_of_vc tabOk mixed Tryz.func109 (c := c109) (by kernel_rfl) (n := 31) rfl (rs := [.tmp 2, .tmp 3]) (by kernel_rfl) ok109 (args := [.slice b_.a b_.l b_.c]) (Nat.le_of_ble_eq_true rfl) (Eq.mpr (by kernel_rfl) hv)
end Go.Sx.Tryz
namespace Go.Sx.Tryz
open Go Go.Sx Go.Proofs
set_option maxRecDepth 100000
set_option linter.unusedVariables false
noncomputable def c153 : Code := (Tryz.f153.body).getD .skip
def a153 : Ann := (.seq .leaf (.seq (.join [(20, .one (.b))] .leaf (.br (.seq .leaf (.seq .leaf .leaf)) .leaf)) (.seq (.seq .leaf (.inn (.loop [(6, .one (.i .i64))] (.seq (.seq .leaf (.br .leaf .leaf)) (.seq (.inn (.seq (.reg (.q 0 (.q 1 (.q 2 (.q 3 (.q 4 (.q 5 (.q 6 (.q 7 (.q 8 (.q 9 (.q 10 (.q 11 (.q 12 (.q 13 (.q 14 (.q 15 (.q 16 (.q 17 (.q 18 (.q 19 (.fin)))))))))))))))))))))) (.br (.seq .leaf (.seq .leaf .leaf)) .leaf))) .leaf))))) (.seq .leaf .leaf))))
theorem ok153 : okC tab 60 true c153 a153 = true := by kernel_rfl
theorem vc153 (s_0 : Int) (s_1 : Int) (s_2 : Sl) (s_3 : Sl) (s_4 : Int) (x_0 : Int) (x_1 : Int) (x_2 : Sl) (h : Heap) (R : Value → Heap → Prop)
  (hv : ∀ b1 h1, Fresh h (.cells #[.int .u64 s_0, .int .u64 s_1, .slice s_2.a s_2.l s_2.c, .slice s_3.a s_3.l s_3.c, .int .i64 s_4] 119) b1 h1 →
   ∀ b2 h2, Fresh h1 (.cells #[.int .u64 x_0, .int .u64 x_1, .slice x_2.a x_2.l x_2.c] 35) b2 h2 →
   ∀ b3 h3, Fresh h2 (.cells #[.int .u64 0, .int .u64 0, .slice none 0 0, .slice none 0 0, .int .i64 0] 119) b3 h3 →
   ∃ J1 : Bool → Heap → Prop, (∀ t1 : Bool, ∀ h4, J1 t1 h4 → ∀ _ : Env,
   CondP t1 (
   CanSt h4 b1 3 [.slice none 0 0] ∧ ∀ h5, Stored h4 b1 3 [.slice none 0 0] h5 →
   ∃ n1 : Int, ∃ n2 : Int, ∃ x1 : Sl, ∃ x2 : Sl, ∃ n3 : Int, CellsAt h5 b1 0 [.int .u64 n1, .int .u64 n2, .slice x1.a x1.l x1.c, .slice x2.a x2.l x2.c, .int .i64 n3] ∧
   CanSt h5 b3 0 [.int .u64 n1, .int .u64 n2, .slice x1.a x1.l x1.c, .slice x2.a x2.l x2.c, .int .i64 n3] ∧ ∀ h6, Stored h5 b3 0 [.int .u64 n1, .int .u64 n2, .slice x1.a x1.l x1.c, .slice x2.a x2.l x2.c, .int .i64 n3] h6 →
   ∃ n4 : Int, ∃ n5 : Int, ∃ x3 : Sl, ∃ x4 : Sl, ∃ n6 : Int, CellsAt h6 b3 0 [.int .u64 n4, .int .u64 n5, .slice x3.a x3.l x3.c, .slice x4.a x4.l x4.c, .int .i64 n6] ∧
   R (.tuple #[.agg #[.int .u64 n4, .int .u64 n5, .slice x3.a x3.l x3.c, .slice x4.a x4.l x4.c, .int .i64 n6], .bool true]) h6) (
   ∃ (I1 : Int → Heap → Prop) (mu1 : Int → Heap → Nat), I1 0 h4 ∧ (∀ n7 : Int, ∀ h7, I1 n7 h7 → ∀ _ : Env,
   ∃ x5 : Sl, cellH h7 b1 3 = some (.slice x5.a x5.l x5.c) ∧
   CondP (decide ((n7 : Int) < ((x5.l : Nat) : Int))) (
   ∃ x6 : Sl, cellH h7 b1 3 = some (.slice x6.a x6.l x6.c) ∧
   ((0 : Int) ≤ n7 ∧ (n7 : Int) < ((x6.l : Nat) : Int)) ∧
   NilP x6.a (fun b4 o1 =>
   ∃ n8 : Int, cellH h7 b4 (o1 + n7.toNat * 3) = some (.int .u64 n8) ∧
   ∃ n9 : Int, cellH h7 b2 0 = some (.int .u64 n9) ∧
   CondP ((n8 : Int) == n9) (
   ∃ x7 : Sl, cellH h7 b1 3 = some (.slice x7.a x7.l x7.c) ∧
   ((0 : Int) ≤ n7 ∧ (n7 : Int) < ((x7.l : Nat) : Int)) ∧
   NilP x7.a (fun b5 o2 =>
   ∃ n10 : Int, cellH h7 b5 (o2 + n7.toNat * 3 + 1) = some (.int .u64 n10) ∧
   ∃ n11 : Int, cellH h7 b2 1 = some (.int .u64 n11) ∧
   CondP ((n10 : Int) == n11) (
   ∀ b6 h8, Fresh h7 (.cells #[] 35) b6 h8 →
   ∃ x8 : Sl, cellH h8 b1 3 = some (.slice x8.a x8.l x8.c) ∧
   ((0 : Int) ≤ (0 : Int) ∧ (0 : Int) ≤ IntKind.i64.wrap (n7 + 1) ∧ IntKind.i64.wrap (n7 + 1) ≤ ((x8.c : Nat) : Int)) ∧
   RunK Tryz.prog (.sl) (Builtin.append_ #[36, 36] 36 #[.slice (some ⟨b6, 0, none⟩) 0 0, .slice (subA x8.a 0 x8.c 3) ((IntKind.i64.wrap (n7 + 1)).toNat) x8.c]) h8 (fun x9 h9 =>
   CanSt h9 b1 3 [.slice x9.a x9.l x9.c] ∧ ∀ h10, Stored h9 b1 3 [.slice x9.a x9.l x9.c] h10 →
   ∃ n12 : Int, ∃ n13 : Int, ∃ x10 : Sl, ∃ x11 : Sl, ∃ n14 : Int, CellsAt h10 b1 0 [.int .u64 n12, .int .u64 n13, .slice x10.a x10.l x10.c, .slice x11.a x11.l x11.c, .int .i64 n14] ∧
   CanSt h10 b3 0 [.int .u64 n12, .int .u64 n13, .slice x10.a x10.l x10.c, .slice x11.a x11.l x11.c, .int .i64 n14] ∧ ∀ h11, Stored h10 b3 0 [.int .u64 n12, .int .u64 n13, .slice x10.a x10.l x10.c, .slice x11.a x11.l x11.c, .int .i64 n14] h11 →
   ∃ n15 : Int, ∃ n16 : Int, ∃ x12 : Sl, ∃ x13 : Sl, ∃ n17 : Int, CellsAt h11 b3 0 [.int .u64 n15, .int .u64 n16, .slice x12.a x12.l x12.c, .slice x13.a x13.l x13.c, .int .i64 n17] ∧
   R (.tuple #[.agg #[.int .u64 n15, .int .u64 n16, .slice x12.a x12.l x12.c, .slice x13.a x13.l x13.c, .int .i64 n17], .bool true]) h11)) (
   I1 (IntKind.i64.wrap (n7 + 1)) h7 ∧ mu1 (IntKind.i64.wrap (n7 + 1)) h7 < mu1 n7 h7))) (
   I1 (IntKind.i64.wrap (n7 + 1)) h7 ∧ mu1 (IntKind.i64.wrap (n7 + 1)) h7 < mu1 n7 h7))) (
   ∃ n18 : Int, ∃ n19 : Int, ∃ x14 : Sl, ∃ x15 : Sl, ∃ n20 : Int, CellsAt h7 b1 0 [.int .u64 n18, .int .u64 n19, .slice x14.a x14.l x14.c, .slice x15.a x15.l x15.c, .int .i64 n20] ∧
   CanSt h7 b3 0 [.int .u64 n18, .int .u64 n19, .slice x14.a x14.l x14.c, .slice x15.a x15.l x15.c, .int .i64 n20] ∧ ∀ h12, Stored h7 b3 0 [.int .u64 n18, .int .u64 n19, .slice x14.a x14.l x14.c, .slice x15.a x15.l x15.c, .int .i64 n20] h12 →
   ∃ n21 : Int, ∃ n22 : Int, ∃ x16 : Sl, ∃ x17 : Sl, ∃ n23 : Int, CellsAt h12 b3 0 [.int .u64 n21, .int .u64 n22, .slice x16.a x16.l x16.c, .slice x17.a x17.l x17.c, .int .i64 n23] ∧
   R (.tuple #[.agg #[.int .u64 n21, .int .u64 n22, .slice x16.a x16.l x16.c, .slice x17.a x17.l x17.c, .int .i64 n23], .bool false]) h12)))) ∧
   ∃ n24 : Int, cellH h3 b2 0 = some (.int .u64 n24) ∧
   ∃ n25 : Int, cellH h3 b1 0 = some (.int .u64 n25) ∧
   CondP ((n24 : Int) == n25) (
   ∃ n26 : Int, cellH h3 b2 1 = some (.int .u64 n26) ∧
   ∃ n27 : Int, cellH h3 b1 1 = some (.int .u64 n27) ∧
   J1 ((n26 : Int) == n27) h3) (
   J1 false h3)) :
  CallsH Tryz.prog 153 #[.agg #[.int .u64 s_0, .int .u64 s_1, .slice s_2.a s_2.l s_2.c, .slice s_3.a s_3.l s_3.c, .int .i64 s_4], .agg #[.int .u64 x_0, .int .u64 x_1, .slice x_2.a x_2.l x_2.c]] h R :=
  calls_of_vc tabOk mixed Tryz.func153 (c := c153) (by kernel_rfl) (n := 60) rfl (rs := [.cell 4 119, .tmp 5]) (by kernel_rfl) ok153 (args := [.agg #[.int .u64 s_0, .int .u64 s_1, .slice s_2.a s_2.l s_2.c, .slice s_3.a s_3.l s_3.c, .int .i64 s_4], .agg #[.int .u64 x_0, .int .u64 x_1, .slice x_2.a x_2.l x_2.c]]) (Nat.le_of_ble_eq_true rfl) (Eq.mpr (by kernel_rfl) hv)
end Go.Sx.Tryz
namespace Go.Sx.Tryz
open Go Go.Sx Go.Proofs
set_option maxRecDepth 100000
set_option linter.unusedVariables false
noncomputable def c54 : Code := (Tryz.f54.body).getD .skip
def a54 : Ann := (.seq .leaf (.seq (.seq .leaf (.br (.seq .leaf .leaf) .leaf)) (.seq .leaf .leaf)))
theorem ok54 : okC tab 17 true c54 a54 = true := by kernel_rfl
theorem vc54 (s_0 : Int) (s_1 : Int) (s_2 : Sl) (s_3 : Sl) (s_4 : Int) (h : Heap) (R : Value → Heap → Prop)
  (hv : ∀ b1 h1, Fresh h (.cells #[.int .u64 s_0, .int .u64 s_1, .slice s_2.a s_2.l s_2.c, .slice s_3.a s_3.l s_3.c, .int .i64 s_4] 119) b1 h1 →
   ∀ b2 h2, Fresh h1 (.cells #[.int .u64 0, .int .u64 0, .slice none 0 0] 35) b2 h2 →
   ∃ x1 : Sl, cellH h2 b1 3 = some (.slice x1.a x1.l x1.c) ∧
   CondP ((((x1.l : Nat) : Int) : Int) == 0) (
   ∃ n1 : Int, ∃ n2 : Int, ∃ x2 : Sl, CellsAt h2 b1 0 [.int .u64 n1, .int .u64 n2, .slice x2.a x2.l x2.c] ∧
   CanSt h2 b2 0 [.int .u64 n1, .int .u64 n2, .slice x2.a x2.l x2.c] ∧ ∀ h3, Stored h2 b2 0 [.int .u64 n1, .int .u64 n2, .slice x2.a x2.l x2.c] h3 →
   ∃ n3 : Int, ∃ n4 : Int, ∃ x3 : Sl, CellsAt h3 b2 0 [.int .u64 n3, .int .u64 n4, .slice x3.a x3.l x3.c] ∧
   R (.agg #[.int .u64 n3, .int .u64 n4, .slice x3.a x3.l x3.c]) h3) (
   ∃ x4 : Sl, cellH h2 b1 3 = some (.slice x4.a x4.l x4.c) ∧
   ∃ x5 : Sl, cellH h2 b1 3 = some (.slice x5.a x5.l x5.c) ∧
   ((0 : Int) ≤ IntKind.i64.wrap (((x5.l : Nat) : Int) - 1) ∧ (IntKind.i64.wrap (((x5.l : Nat) : Int) - 1) : Int) < ((x4.l : Nat) : Int)) ∧
   NilP x4.a (fun b3 o1 =>
   ∃ n5 : Int, ∃ n6 : Int, ∃ x6 : Sl, CellsAt h2 b3 (o1 + ((IntKind.i64.wrap (((x5.l : Nat) : Int) - 1)).toNat) * 3) [.int .u64 n5, .int .u64 n6, .slice x6.a x6.l x6.c] ∧
   CanSt h2 b2 0 [.int .u64 n5, .int .u64 n6, .slice x6.a x6.l x6.c] ∧ ∀ h4, Stored h2 b2 0 [.int .u64 n5, .int .u64 n6, .slice x6.a x6.l x6.c] h4 →
   ∃ n7 : Int, ∃ n8 : Int, ∃ x7 : Sl, CellsAt h4 b2 0 [.int .u64 n7, .int .u64 n8, .slice x7.a x7.l x7.c] ∧
   R (.agg #[.int .u64 n7, .int .u64 n8, .slice x7.a x7.l x7.c]) h4))) :
  CallsH Tryz.prog 54 #[.agg #[.int .u64 s_0, .int .u64 s_1, .slice s_2.a s_2.l s_2.c, .slice s_3.a s_3.l s_3.c, .int .i64 s_4]] h R :=
  calls_of_vc tabOk mixed Tryz.func54 (c := c54) (by kernel_rfl) (n := 17) rfl (rs := [.cell 2 35]) (by kernel_rfl) ok54 (args := [.agg #[.int .u64 s_0, .int .u64 s_1, .slice s_2.a s_2.l s_2.c, .slice s_3.a s_3.l s_3.c, .int .i64 s_4]]) (Nat.le_of_ble_eq_true rfl) (Eq.mpr (by kernel_rfl) hv)
end Go.Sx.Tryz
namespace Go.Sx.Tryz
open Go Go.Sx Go.Proofs
set_option linter.unusedVariables false
set_option maxRecDepth 20000
section
variable {H H' : Heap} {S : PH} {R : List Asn}
theorem el36 : ElemOk Tryz.prog 36 35 3 40 := ElemOk.mk' (z := .agg #[.int .u64 0, .int .u64 0, .slice none 0 0]) Tryz.underlying36 (by kernel_rfl) rfl (by decide)
theorem Rd.spot3 {v : Sl} {sz : Nat} {xs : List Value} (h : Rd S v sz xs) (h0 : 0 < v.l) : ∀ a, v.a = some a → a.spot = none := by
  intro a ha
  obtain ⟨gb, go, _, _, _, g1, _⟩ := h.2.2.resolve_left (by omega)
  rw [ha] at g1; cases g1; rfl
theorem EL.take {x : Sl} {l : List Ent} (h : EL S x l) {k : Nat} (hk : k ≤ l.length) : EL S ⟨subA x.a 0 x.c 3, k, x.c⟩ (l.take k) := by
  obtain ⟨hl, hlc⟩ := EL.len h
  obtain ⟨xs, h1, h2, h3⟩ := h
  refine ⟨xs.take k, by rw [← h1, List.map_take], ?_, fun y hy => h3 y (List.mem_of_mem_take hy)⟩
  rcases Nat.eq_zero_or_pos k with h0 | h0
  · subst h0; exact ⟨by simp [entV], Nat.zero_le _, .inl rfl⟩
  · rw [subA_zero (Rd.spot3 h2 (by omega))]
    have := Rd.take h2 (k := k) (m := x.c) (by omega) (by omega)
    rw [entV, flat_take eV_len] at this
    exact this
theorem EL.drop {x : Sl} {l : List Ent} (h : EL S x l) {k : Nat} (hk : k ≤ l.length) : EL S ⟨subA x.a k x.c 3, x.l - k, x.c - k⟩ (l.drop k) := by
  obtain ⟨hl, hlc⟩ := EL.len h
  obtain ⟨xs, h1, h2, h3⟩ := h
  refine ⟨xs.drop k, by rw [← h1, List.map_drop], ?_, fun y hy => h3 y (List.mem_of_mem_drop hy)⟩
  have := Rd.drop h2 (k := k) (by omega)
  rw [entV, flat_drop eV_len] at this
  exact this
theorem EL.reads {x : Sl} {l : List Ent} (h : EL S x l) : ∃ ys : List EB, ys.map (·.1) = l ∧ (∀ y ∈ ys, RdB S y.2 y.1.b) ∧ (∀ {H : Heap} {L : List Asn}, Sat H S L → (x.l = 0 ∨ ∃ g o, x.a = some ⟨g, o, none⟩ ∧ CellsAt H g o (entV ys))) := by
  obtain ⟨xs, h1, h2, h3⟩ := h
  refine ⟨xs, h1, h3, fun {H L} hs => ?_⟩
  rcases Nat.eq_zero_or_pos x.l with h0 | h0
  · exact .inl h0
  · exact .inr (Rd.at h2 hs h0)
theorem appL {T t : TypeId} (he : ElemOk Tryz.prog t T 3 40) {v x : Sl} {us : List EB} {l : List Ent} (hs : Sat H S (own T 3 v (entV us) :: R)) (hx : EL S x l) (hb : us.length + l.length < 100000000)
    {K : Sl → Heap → Prop} (hk : ∀ v' H' ys, ys.map (·.1) = l → (∀ y ∈ ys, RdB S y.2 y.1.b) → Sat H' S (own T 3 v' (entV (us ++ ys)) :: R) → K v' H') :
    RunK Tryz.prog .sl (Builtin.append_ #[t, t] t #[.slice v.a v.l v.c, .slice x.a x.l x.c]) H K := by
  have hvl := (own.len hs).1
  rw [entV_len] at hvl
  obtain ⟨hl, hlc⟩ := EL.len hx
  obtain ⟨ys, h1, h2, h3⟩ := EL.reads hx
  have hyl : ys.length = l.length := by rw [← h1, List.length_map]
  refine append_own he hs (m := x.l) (c := x.c) (news := entV ys) (by rw [entV_len]; omega) (h3 hs) (entV_one ys) (by omega) (by unfold maxLen; omega) fun v' H' hv' hs' => hk v' H' ys h1 h2 ?_
  have e : entV us ++ entV ys = entV (us ++ ys) := by simp [entV]
  rw [e] at hs'; exact hs'
theorem newL {T b : Nat} {H1 : Heap} (hs : Sat H S R) (hf : Fresh H (.cells #[] T) b H1) : Sat H1 S (own T 3 ⟨some ⟨b, 0, none⟩, 0, 0⟩ (entV []) :: R) := by
  have h1 : Sat H1 S (lst b T [] :: R) := hs.fresh hf
  exact own.ofLst (sz := 3) (n := 0) (c := 0) (xs := entV []) h1 rfl (Nat.le_refl _) (by decide) rfl
theorem sealL {T : TypeId} {v : Sl} {us : List EB} (hs : Sat H S (own T 3 v (entV us) :: R)) (hu : ∀ y ∈ us, RdB S y.2 y.1.b) : ∃ S', PH.le S S' ∧ EL S' v (us.map (·.1)) ∧ Sat H S' R := by
  obtain ⟨S', q1, q2, q3⟩ := own.fixd hs
  exact ⟨S', q1, ⟨us, rfl, q2, fun y hy => (hu y hy).mono q1⟩, q3⟩
theorem onesL {v x : Sl} {us : List EB} {e : Ent} {b : Nat} {T t : TypeId} (he : ElemOk Tryz.prog t T 3 40) (hs : Sat H S (lst b T (eV (e, x)) :: own T 3 v (entV us) :: R)) (hb : us.length < 100000000)
    {K : Sl → Heap → Prop} (hk : ∀ v' H', Sat H' S (own T 3 v' (entV (us ++ [(e, x)])) :: R) → K v' H') :
    RunK Tryz.prog .sl (Builtin.append_ #[t, t] t #[.slice v.a v.l v.c, .slice (some ⟨b, 0, none⟩) 1 1]) H K := by
  have hvl := (own.len hs.swap).1
  rw [entV_len] at hvl
  refine append_one he (v := v) (xs := entV us) hs rfl (eV_one _) (by omega) (by unfold maxLen; omega) fun v' H' hv' hs' => hk v' H' ?_
  have e : entV us ++ eV (e, x) = entV (us ++ [(e, x)]) := by simp [entV]
  rw [e] at hs'; exact hs'
theorem rhead_ok {v : Sl} {hd : Hd} (hs : Sat H S R) (hv : RdB S v hd.body) (hk : hd.ok)
    {K : Value → Heap → Prop} (hK : ∀ H', Sat H' S R → K (.tuple #[.int .u64 (hd.serial : Int), .bool hd.anew, .agg #[.int .u64 (hd.i : Int), .int .u64 (hd.t : Int), .slice none 0 0], .bool true]) H') : CallsH Tryz.prog 152 #[.int .u8 1, .slice v.a v.l v.c] H K := by
  apply vc152
  obtain ⟨k1, k2, k3⟩ := hk
  have hbl := hd.body_len ⟨k1, k2, k3⟩
  unfold MaxI at k1 k2 k3
  intro b1 h1 f1 b2 h2 f2
  have hs1 : Sat h1 S (lst b1 35 [.int .u64 0, .int .u64 0, .slice none 0 0] :: R) := hs.fresh f1
  have hs2 : Sat h2 S (rdr2 b2 v false :: lst b1 35 [.int .u64 0, .int .u64 0, .slice none 0 0] :: R) := hs1.fresh f2
  have hbe : hd.body = natB hd.serial ++ (flagB hd.anew ++ (natB hd.i ++ natB hd.t)) := by simp [Hd.body]
  rw [hbe] at hv hbl
  simp only [List.length_append] at hbl
  refine rn_spec (most := 4611686018427387904) (n := hd.serial) hs2 hv (by omega) (by omega) (by simp only [List.length_append]; omega) fun v1 h3 hv1 hs3 => ⟨_, rfl, ?_⟩
  refine rf_spec hs3 hv1 (by simp only [List.length_append]; omega) fun v2 h4 hv2 hs4 => ⟨_, rfl, ?_⟩
  intro b3 h5 f5
  have hs5 : Sat h5 S (lst b3 35 [.int .u64 0, .int .u64 0, .slice none 0 0] :: rdr2 b2 v2 false :: lst b1 35 [.int .u64 0, .int .u64 0, .slice none 0 0] :: R) := hs4.fresh f5
  refine rn_spec (most := 4611686018427387904) (n := hd.i) hs5.swap hv2 (by omega) (by omega) (by omega) fun v3 h6 hv3 hs6 => ⟨_, rfl, ?_⟩
  refine hs6.swap.store (by simp) fun h7 hs7 => ?_
  have hv3' : RdB S v3 (natB hd.t ++ []) := by simpa using hv3
  refine rn_spec (most := 4611686018427387904) (n := hd.t) hs7.swap hv3' (by omega) (by omega) (by simp) fun v4 h8 hv4 hs8 => ⟨_, rfl, ?_⟩
  refine hs8.swap.store (by simp [putL]) fun h9 hs9 => ?_
  have hs9 : Sat h9 S (lst b3 35 [.int .u64 (hd.i : Int), .int .u64 (hd.t : Int), .slice none 0 0] :: rdr2 b2 v4 false :: lst b1 35 [.int .u64 0, .int .u64 0, .slice none 0 0] :: R) := hs9
  refine ⟨_, _, ⟨none, 0, 0⟩, hs9.cells 0 rfl, CondP.of (fun _ => ?_) fun hc => by simp at hc⟩
  refine re_spec hs9.swap (by have := RdB.len hv4; simpa using this) ⟨_, rfl, hs9.cells 0 rfl, ?_⟩
  refine (hs9.pick 2 rfl).store (by simp) fun h11 hs10 => ?_
  have hs10 : Sat h11 S (lst b1 35 [.int .u64 (hd.i : Int), .int .u64 (hd.t : Int), .slice none 0 0] :: lst b3 35 [.int .u64 (hd.i : Int), .int .u64 (hd.t : Int), .slice none 0 0] :: rdr2 b2 v4 false :: R) := hs10
  exact ⟨_, _, ⟨none, 0, 0⟩, hs10.cells 0 rfl, hK h11 hs10.drop.drop.drop⟩
theorem rfirst_ok {v : Sl} {hd : Hd} {rest : List UInt8} (hs : Sat H S R) (hv : RdB S v (parcelB 1 hd.body ++ rest)) (hk : hd.ok) (hlen : rest.length < 1000000000)
    {K : Value → Heap → Prop} (hK : ∀ H' S', PH.le S S' → Sat H' S' R → K (.tuple #[.int .u64 (hd.serial : Int), .bool true]) H') : CallsH Tryz.prog 109 #[.slice v.a v.l v.c] H K := by
  apply vc109
  have hbl := hd.body_len hk
  refine rtake_ok hs hv (by decide) (by omega) hlen fun v' h1 S1 hS1 hv' hs1 => ⟨_, v', _, _, rfl, CondP.of (fun hc => by cases hc) fun _ => ?_⟩
  refine rhead_ok hs1 hv' hk fun h2 hs2 => ⟨_, _, _, _, ⟨none, 0, 0⟩, _, rfl, ?_⟩
  intro b1 h3 f3
  have hs3 : Sat h3 S1 (lst b1 35 [.int .u64 0, .int .u64 0, .slice none 0 0] :: R) := hs2.fresh f3
  exact hs3.store (by simp) fun h4 hs4 => hK h4 S1 hS1 hs4.drop
theorem rfirst_torn {v : Sl} {t : List UInt8} (hs : Sat H S R) (hv : RdB S v t) (ht : Tail t)
    {K : Value → Heap → Prop} (hK : ∀ H', Sat H' S R → K (.tuple #[.int .u64 0, .bool false]) H') : CallsH Tryz.prog 109 #[.slice v.a v.l v.c] H K := by
  apply vc109
  obtain ⟨kind, body, q, h0, hb, hp, hq⟩ := ht
  exact rtake_torn hs hv hp hq h0 hb fun h1 hs1 => ⟨_, ⟨none, 0, 0⟩, _, _, rfl, CondP.of (fun _ => hK h1 hs1) fun hc => by cases hc⟩
def rfV (g : PL) (x : Sl) (n : Nat) : List Value := [.int .u64 (g.fi : Int), .int .u64 (g.ft : Int), .slice none 0 0, .slice x.a x.l x.c, .int .i64 (n : Int)]
theorem PL.last_at {g : PL} (h : 0 < g.es.length) : g.last = ((g.es[g.es.length - 1]'(by omega)).i, (g.es[g.es.length - 1]'(by omega)).t) := by
  unfold PL.last
  rw [List.getLast?_eq_getElem?, List.getElem?_eq_getElem (by omega)]
theorem PL.last_nil {g : PL} (h : g.es = []) : g.last = (g.fi, g.ft) := by
  unfold PL.last; rw [h]; rfl
theorem rlast_spec {g : PL} {x : Sl} {n : Nat} (hs : Sat H S R) (hx : EL S x g.es) (hlen : g.es.length < 100000000)
    {K : Value → Heap → Prop} (hK : ∀ (y : Sl) H', Sat H' S R → K (.agg #[.int .u64 (g.last.1 : Int), .int .u64 (g.last.2 : Int), .slice y.a y.l y.c]) H') : CallsH Tryz.prog 54 #[.agg (rfV g x n).toArray] H K := by
  refine vc54 (g.fi : Int) (g.ft : Int) ⟨none, 0, 0⟩ x (n : Int) H K ?_
  intro b1 h1 f1 b2 h2 f2
  have hs1 : Sat h1 S (lst b1 119 (rfV g x n) :: R) := hs.fresh f1
  have hs2 : Sat h2 S (lst b2 35 [.int .u64 0, .int .u64 0, .slice none 0 0] :: lst b1 119 (rfV g x n) :: R) := hs1.fresh f2
  have hc3 := hs2.swap.cell 3 (v := .slice x.a x.l x.c) rfl
  obtain ⟨hl, hlc⟩ := EL.len hx
  refine ⟨x, hc3, CondP.of (fun hc => ?_) (fun hc => ⟨x, hc3, x, hc3, ?_⟩)⟩
  · have h0 : g.es = [] := List.eq_nil_of_length_eq_zero (by simp at hc; omega)
    refine ⟨_, _, ⟨none, 0, 0⟩, hs2.swap.cells 0 rfl, ?_⟩
    refine hs2.store (by simp) fun h3 hs3 => ?_
    have hs3 : Sat h3 S (lst b2 35 [.int .u64 (g.fi : Int), .int .u64 (g.ft : Int), .slice none 0 0] :: lst b1 119 (rfV g x n) :: R) := hs3
    refine ⟨_, _, ⟨none, 0, 0⟩, hs3.cells 0 rfl, ?_⟩
    have := hK ⟨none, 0, 0⟩ h3 hs3.drop.drop
    rw [PL.last_nil h0] at this; exact this
  · have h0 : 0 < g.es.length := by simp at hc; omega
    have e : IntKind.i64.wrap (((x.l : Nat) : Int) - 1) = ((g.es.length - 1 : Nat) : Int) := by rw [i64_in (by omega) (by omega)]; omega
    rw [e]
    simp only [Int.toNat_natCast]
    obtain ⟨gb, go, y, ga, gc, _⟩ := hx.at hs2 (k := g.es.length - 1) (by omega)
    refine ⟨⟨by omega, by omega⟩, NilP.of ga ⟨_, _, y, gc, ?_⟩⟩
    refine hs2.store (by simp) fun h3 hs3 => ?_
    have hs3 : Sat h3 S (lst b2 35 (eV (g.es[g.es.length - 1], y)) :: lst b1 119 (rfV g x n) :: R) := hs3
    refine ⟨_, _, y, hs3.cells 0 rfl, ?_⟩
    have := hK y h3 hs3.drop.drop
    rw [PL.last_at h0] at this; exact this
theorem rto_spec {g g' : PL} {x z : Sl} {n i t : Nat} (hs : Sat H S R) (hx : EL S x g.es) (hlen : g.es.length < 100000000) (hto : g.to i t = some g')
    {K : Value → Heap → Prop} (hK : ∀ (y : Sl) H' S', PH.le S S' → EL S' y g'.es → Sat H' S' R → K (.tuple #[.agg (rfV g' y n).toArray, .bool true]) H') :
    CallsH Tryz.prog 153 #[.agg (rfV g x n).toArray, .agg #[.int .u64 (i : Int), .int .u64 (t : Int), .slice z.a z.l z.c]] H K := by
  refine vc153 (g.fi : Int) (g.ft : Int) ⟨none, 0, 0⟩ x (n : Int) (i : Int) (t : Int) z H K ?_
  intro b1 h1 f1 b2 h2 f2 b3 h3 f3
  have hs1 : Sat h1 S (lst b1 119 (rfV g x n) :: R) := hs.fresh f1
  have hs2 : Sat h2 S (lst b2 35 [.int .u64 (i : Int), .int .u64 (t : Int), .slice z.a z.l z.c] :: lst b1 119 (rfV g x n) :: R) := hs1.fresh f2
  have hs3 : Sat h3 S (lst b3 119 (rfV ⟨0, 0, []⟩ ⟨none, 0, 0⟩ 0) :: lst b2 35 [.int .u64 (i : Int), .int .u64 (t : Int), .slice z.a z.l z.c] :: lst b1 119 (rfV g x n) :: R) := hs2.fresh f3
  obtain ⟨hl, hlc⟩ := EL.len hx
  refine ⟨fun tt h => h = h3 ∧ tt = decide (i = g.fi ∧ t = g.ft), ?_, ?_⟩
  · rintro tt h4 ⟨rfl, rfl⟩ _
    refine CondP.of (fun hc => ?_) (fun hc => ?_)
    · have hc := of_decide_eq_true hc
      have hg' : g' = ⟨g.fi, g.ft, []⟩ := by
        unfold PL.to at hto
        rw [if_pos hc] at hto; cases hto; rfl
      refine (hs3.pick 2 rfl).store (by simp [rfV]) fun h5 hs4 => ?_
      have hs4 : Sat h5 S (lst b1 119 (rfV g' ⟨none, 0, 0⟩ n) :: lst b3 119 (rfV ⟨0, 0, []⟩ ⟨none, 0, 0⟩ 0) :: lst b2 35 [.int .u64 (i : Int), .int .u64 (t : Int), .slice z.a z.l z.c] :: R) := by rw [hg']; exact hs4
      refine ⟨_, _, ⟨none, 0, 0⟩, ⟨none, 0, 0⟩, _, hs4.cells 0 rfl, ?_⟩
      refine hs4.swap.store (by simp [rfV]) fun h6 hs5 => ?_
      have hs5 : Sat h6 S (lst b3 119 (rfV g' ⟨none, 0, 0⟩ n) :: lst b1 119 (rfV g' ⟨none, 0, 0⟩ n) :: lst b2 35 [.int .u64 (i : Int), .int .u64 (t : Int), .slice z.a z.l z.c] :: R) := hs5
      refine ⟨_, _, ⟨none, 0, 0⟩, ⟨none, 0, 0⟩, _, hs5.cells 0 rfl, ?_⟩
      exact hK ⟨none, 0, 0⟩ h6 S (PH.le.refl _) (by rw [hg']; exact EL.nil S) hs5.drop.drop.drop
    · have hc := of_decide_eq_false hc
      unfold PL.to at hto
      rw [if_neg hc] at hto
      cases hf : g.es.findIdx? (fun e => e.i == i && e.t == t) with
      | none => rw [hf] at hto; cases hto
      | some k =>
      rw [hf] at hto
      have hg' : g' = ⟨g.fi, g.ft, g.es.take (k + 1)⟩ := by cases hto; rfl
      obtain ⟨hk, hp, hn⟩ := List.findIdx?_eq_some_iff_getElem.1 hf
      refine ⟨fun m h => ∃ j : Nat, m = j ∧ j ≤ k ∧ h = h4, fun m _ => k + 1 - m.toNat, ⟨0, rfl, Nat.zero_le _, rfl⟩, ?_⟩
      rintro m h7 ⟨j, rfl, hj, rfl⟩ _
      have hb1 := hs3.pick 2 rfl
      have hc3 := hb1.cell 3 (v := .slice x.a x.l x.c) rfl
      refine ⟨x, hc3, CondP.of (fun _ => ⟨x, hc3, ⟨by omega, by omega⟩, ?_⟩) (fun hc => by simp at hc; omega)⟩
      obtain ⟨gb, go, y, ga, gc, _⟩ := hx.at hs3 (k := j) (by omega)
      have g0 := gc.get 0 _ rfl
      have g1 := gc.get 1 _ rfl
      rw [i64_succ (by omega)]
      simp only [Int.toNat_natCast]
      refine NilP.of ga ⟨_, g0, _, (hs3.pick 1 rfl).cell 0 rfl, ?_⟩
      rw [beq_nat_int]
      have hnext : ¬ ((g.es[j]).i == i && (g.es[j]).t == t) = true → (∃ j' : Nat, ((j + 1 : Nat) : Int) = j' ∧ j' ≤ k ∧ True) ∧ k + 1 - (j + 1) < k + 1 - j := by
        intro hne
        refine ⟨⟨j + 1, rfl, ?_, trivial⟩, by omega⟩
        rcases Nat.lt_or_ge j k with h | h
        · exact h
        · exfalso
          have : j = k := by omega
          subst this; exact hne hp
      refine CondP.of (fun hc1 => ⟨x, hc3, ⟨by omega, by omega⟩, NilP.of ga ⟨_, g1, _, (hs3.pick 1 rfl).cell 1 rfl, ?_⟩⟩) (fun hc1 => hnext (by rw [hc1]; simp))
      rw [beq_nat_int]
      refine CondP.of (fun hc2 => ?_) (fun hc2 => hnext (by rw [hc2]; simp))
      have hjk : j = k := by
        rcases Nat.lt_or_ge j k with h | h
        · exfalso
          have := hn j h
          simp only [hc1, hc2] at this; simp at this
        · omega
      subst hjk
      intro b6 h8 f8
      have hs6 := newL hs3 f8
      refine ⟨x, (hs6.pick 3 rfl).cell 3 rfl, ⟨by omega, by omega, by omega⟩, ?_⟩
      refine appL el36 hs6 (hx.take (k := j + 1) hk) (by rw [List.length_take]; simp; omega) fun v' h9 ys hy1 hy2 hs7 => ?_
      obtain ⟨S1, q1, q2, q3⟩ := sealL (us := ys) hs7 hy2
      rw [hy1] at q2
      refine (q3.pick 2 rfl).store (by simp [rfV]) fun h10 hs8 => ?_
      have hs8 : Sat h10 S1 (lst b1 119 (rfV g' v' n) :: lst b3 119 (rfV ⟨0, 0, []⟩ ⟨none, 0, 0⟩ 0) :: lst b2 35 [.int .u64 (i : Int), .int .u64 (t : Int), .slice z.a z.l z.c] :: R) := by rw [hg']; exact hs8
      refine ⟨_, _, ⟨none, 0, 0⟩, v', _, hs8.cells 0 rfl, ?_⟩
      refine hs8.swap.store (by simp [rfV]) fun h11 hs9 => ?_
      have hs9 : Sat h11 S1 (lst b3 119 (rfV g' v' n) :: lst b1 119 (rfV g' v' n) :: lst b2 35 [.int .u64 (i : Int), .int .u64 (t : Int), .slice z.a z.l z.c] :: R) := hs9
      refine ⟨_, _, ⟨none, 0, 0⟩, v', _, hs9.cells 0 rfl, ?_⟩
      exact hK v' h11 S1 q1 (by rw [hg']; exact q2) hs9.drop.drop.drop
  · refine ⟨_, (hs3.pick 1 rfl).cell 0 rfl, _, (hs3.pick 2 rfl).cell 0 rfl, ?_⟩
    rw [beq_nat_int]
    refine CondP.of (fun hc => ⟨_, (hs3.pick 1 rfl).cell 1 rfl, _, (hs3.pick 2 rfl).cell 1 rfl, ?_⟩) (fun hc => ?_)
    · rw [beq_nat_int]
      refine ⟨rfl, ?_⟩
      have hc : i = g.fi := by simpa using hc
      simp [hc, Bool.beq_eq_decide_eq]
    · have hc : ¬ i = g.fi := by simpa using hc
      exact ⟨rfl, by simp [hc]⟩
end
end Go.Sx.Tryz
namespace Go.Sx.Tryz
open Go Go.Sx Go.Proofs
set_option maxRecDepth 100000
set_option linter.unusedVariables false
noncomputable def c110 : Code := (Tryz.f110.body).getD .skip
def a110 : Ann := (.seq .leaf (.seq .leaf (.seq .leaf (.seq (.inn (.loop [(1, .one (.sl)), (10, .one (.b)), (11, .one (.i .u64))] (.seq (.seq .leaf (.br .leaf .leaf)) (.inn (.seq .leaf (.seq (.join [(40, .one (.b))] .leaf (.br (.seq .leaf .leaf) .leaf)) (.seq (.seq .leaf (.br (.seq .leaf .leaf) .leaf)) (.seq .leaf (.seq .leaf (.seq .leaf (.inn (.seq .leaf (.br (.seq .leaf (.seq (.join [(67, .one (.b))] .leaf (.br (.seq .leaf .leaf) .leaf)) (.seq .leaf (.seq .leaf (.seq (.join [(74, .one (.b))] .leaf (.br (.seq .leaf (.seq .leaf .leaf)) .leaf)) (.seq .leaf (.seq (.seq .leaf (.br (.seq .leaf .leaf) .leaf)) .leaf))))))) (.seq .leaf (.br (.seq .leaf (.seq .leaf (.seq .leaf (.seq .leaf (.seq .leaf (.seq (.join [(124, .one (.b))] .leaf (.br (.seq .leaf .leaf) .leaf)) (.reg (.q 1 (.q 2 (.q 4 (.m 0 (.m 3 (.m 5 (.m 6 (.q 7 (.m 8 (.fin) (.nil))) (.nil)) (.nil)) (.m 5 (.m 3 (.m 6 (.q 7 (.m 8 (.fin) (.nil))) (.nil)) (.nil)) (.nil))) (.m 5 (.m 0 (.m 3 (.m 6 (.q 7 (.m 8 (.fin) (.nil))) (.nil)) (.nil)) (.nil)) (.nil))))))))))))) (.seq .leaf (.br (.seq .leaf (.seq (.join [(153, .one (.b))] .leaf (.br (.seq .leaf .leaf) .leaf)) .leaf)) (.seq .leaf .leaf)))))))))))))))))) (.seq .leaf .leaf)))))
theorem ok110 : okC tab 168 true c110 a110 = true := by kernel_rfl
theorem vc110 (s_0 : Int) (s_1 : Int) (s_2 : Sl) (s_3 : Sl) (s_4 : Int) (b_ : Sl) (oldest_ : Bool) (newest_ : Bool) (h : Heap) (R : Value → Heap → Prop)
  (hv : ∀ b1 h1, Fresh h (.cells #[.int .u64 s_0, .int .u64 s_1, .slice s_2.a s_2.l s_2.c, .slice s_3.a s_3.l s_3.c, .int .i64 s_4] 119) b1 h1 →
   ∀ b2 h2, Fresh h1 (.cells #[.int .u64 0, .int .u64 0, .slice none 0 0, .slice none 0 0, .int .i64 0] 119) b2 h2 →
   ∃ (I1 : Sl → Bool → Int → Heap → Prop) (mu1 : Sl → Bool → Int → Heap → Nat), I1 b_ false 0 h2 ∧ (∀ x1 : Sl, ∀ t1 : Bool, ∀ n1 : Int, ∀ h3, I1 x1 t1 n1 h3 → ∀ _ : Env,
   CondP (decide ((((x1.l : Nat) : Int) : Int) > 0)) (
   CallsH Tryz.prog 151 #[.slice x1.a x1.l x1.c] h3 (fun r1 h4 => ∃ n2 : Int, ∃ x2 : Sl, ∃ n3 : Int, ∃ n4 : Int, r1 = .tuple #[.int .u8 n2, .slice x2.a x2.l x2.c, .int .i64 n3, .int .i64 n4] ∧
   ∃ J1 : Bool → Heap → Prop, (∀ t2 : Bool, ∀ h5, J1 t2 h5 → ∀ _ : Env,
   CondP t2 (
   ∃ n5 : Int, ∃ n6 : Int, ∃ x3 : Sl, ∃ x4 : Sl, ∃ n7 : Int, CellsAt h5 b1 0 [.int .u64 n5, .int .u64 n6, .slice x3.a x3.l x3.c, .slice x4.a x4.l x4.c, .int .i64 n7] ∧
   CanSt h5 b2 0 [.int .u64 n5, .int .u64 n6, .slice x3.a x3.l x3.c, .slice x4.a x4.l x4.c, .int .i64 n7] ∧ ∀ h6, Stored h5 b2 0 [.int .u64 n5, .int .u64 n6, .slice x3.a x3.l x3.c, .slice x4.a x4.l x4.c, .int .i64 n7] h6 →
   ∃ n8 : Int, ∃ n9 : Int, ∃ x5 : Sl, ∃ x6 : Sl, ∃ n10 : Int, CellsAt h6 b2 0 [.int .u64 n8, .int .u64 n9, .slice x5.a x5.l x5.c, .slice x6.a x6.l x6.c, .int .i64 n10] ∧
   R (.tuple #[.agg #[.int .u64 n8, .int .u64 n9, .slice x5.a x5.l x5.c, .slice x6.a x6.l x6.c, .int .i64 n10], .int .i64 0]) h6) (
   CondP ((n4 : Int) != 0) (
   ∃ n11 : Int, ∃ n12 : Int, ∃ x7 : Sl, ∃ x8 : Sl, ∃ n13 : Int, CellsAt h5 b1 0 [.int .u64 n11, .int .u64 n12, .slice x7.a x7.l x7.c, .slice x8.a x8.l x8.c, .int .i64 n13] ∧
   CanSt h5 b2 0 [.int .u64 n11, .int .u64 n12, .slice x7.a x7.l x7.c, .slice x8.a x8.l x8.c, .int .i64 n13] ∧ ∀ h7, Stored h5 b2 0 [.int .u64 n11, .int .u64 n12, .slice x7.a x7.l x7.c, .slice x8.a x8.l x8.c, .int .i64 n13] h7 →
   ∃ n14 : Int, ∃ n15 : Int, ∃ x9 : Sl, ∃ x10 : Sl, ∃ n16 : Int, CellsAt h7 b2 0 [.int .u64 n14, .int .u64 n15, .slice x9.a x9.l x9.c, .slice x10.a x10.l x10.c, .int .i64 n16] ∧
   R (.tuple #[.agg #[.int .u64 n14, .int .u64 n15, .slice x9.a x9.l x9.c, .slice x10.a x10.l x10.c, .int .i64 n16], .int .i64 20]) h7) (
   ((0 : Int) ≤ n3 ∧ n3 ≤ ((x1.l : Nat) : Int)) ∧
   ∀ b3 h8, Fresh h5 (.cells #[.slice x2.a x2.l x2.c, .bool false] 219) b3 h8 →
   CondP ((n2 : Int) == 1) (
   CallsH Tryz.prog 152 #[.int .u8 n2, .slice x2.a x2.l x2.c] h8 (fun r2 h9 => ∃ n17 : Int, ∃ t3 : Bool, ∃ n18 : Int, ∃ n19 : Int, ∃ x11 : Sl, ∃ t4 : Bool, r2 = .tuple #[.int .u64 n17, .bool t3, .agg #[.int .u64 n18, .int .u64 n19, .slice x11.a x11.l x11.c], .bool t4] ∧
   ∀ b4 h10, Fresh h9 (.cells #[.int .u64 0, .int .u64 0, .slice none 0 0] 35) b4 h10 →
   CanSt h10 b4 0 [.int .u64 n18, .int .u64 n19, .slice x11.a x11.l x11.c] ∧ ∀ h11, Stored h10 b4 0 [.int .u64 n18, .int .u64 n19, .slice x11.a x11.l x11.c] h11 →
   ∃ J2 : Bool → Heap → Prop, (∀ t5 : Bool, ∀ h12, J2 t5 h12 → ∀ _ : Env,
   CondP t5 (
   ∃ n20 : Int, ∃ n21 : Int, ∃ x12 : Sl, ∃ x13 : Sl, ∃ n22 : Int, CellsAt h12 b1 0 [.int .u64 n20, .int .u64 n21, .slice x12.a x12.l x12.c, .slice x13.a x13.l x13.c, .int .i64 n22] ∧
   CanSt h12 b2 0 [.int .u64 n20, .int .u64 n21, .slice x12.a x12.l x12.c, .slice x13.a x13.l x13.c, .int .i64 n22] ∧ ∀ h13, Stored h12 b2 0 [.int .u64 n20, .int .u64 n21, .slice x12.a x12.l x12.c, .slice x13.a x13.l x13.c, .int .i64 n22] h13 →
   ∃ n23 : Int, ∃ n24 : Int, ∃ x14 : Sl, ∃ x15 : Sl, ∃ n25 : Int, CellsAt h13 b2 0 [.int .u64 n23, .int .u64 n24, .slice x14.a x14.l x14.c, .slice x15.a x15.l x15.c, .int .i64 n25] ∧
   R (.tuple #[.agg #[.int .u64 n23, .int .u64 n24, .slice x14.a x14.l x14.c, .slice x15.a x15.l x15.c, .int .i64 n25], .int .i64 20]) h13) (
   ∃ n26 : Int, cellH h12 b4 0 = some (.int .u64 n26) ∧
   ∃ J3 : Bool → Heap → Prop, (∀ t6 : Bool, ∀ h14, J3 t6 h14 → ∀ _ : Env,
   CondP t6 (
   ∃ n27 : Int, ∃ n28 : Int, ∃ x16 : Sl, CellsAt h14 b4 0 [.int .u64 n27, .int .u64 n28, .slice x16.a x16.l x16.c] ∧
   CanSt h14 b1 0 [.int .u64 n27, .int .u64 n28, .slice x16.a x16.l x16.c] ∧ ∀ h15, Stored h14 b1 0 [.int .u64 n27, .int .u64 n28, .slice x16.a x16.l x16.c] h15 →
   CanSt h15 b1 3 [.slice none 0 0] ∧ ∀ h16, Stored h15 b1 3 [.slice none 0 0] h16 →
   I1 ⟨subA x1.a n3.toNat x1.c 1, x1.l - n3.toNat, x1.c - n3.toNat⟩ true n26 h16 ∧ mu1 ⟨subA x1.a n3.toNat x1.c 1, x1.l - n3.toNat, x1.c - n3.toNat⟩ true n26 h16 < mu1 x1 t1 n1 h3) (
   ∃ n29 : Int, ∃ n30 : Int, ∃ x17 : Sl, ∃ x18 : Sl, ∃ n31 : Int, CellsAt h14 b1 0 [.int .u64 n29, .int .u64 n30, .slice x17.a x17.l x17.c, .slice x18.a x18.l x18.c, .int .i64 n31] ∧
   ∃ n32 : Int, ∃ n33 : Int, ∃ x19 : Sl, CellsAt h14 b4 0 [.int .u64 n32, .int .u64 n33, .slice x19.a x19.l x19.c] ∧
   CallsH Tryz.prog 153 #[.agg #[.int .u64 n29, .int .u64 n30, .slice x17.a x17.l x17.c, .slice x18.a x18.l x18.c, .int .i64 n31], .agg #[.int .u64 n32, .int .u64 n33, .slice x19.a x19.l x19.c]] h14 (fun r3 h17 => ∃ n34 : Int, ∃ n35 : Int, ∃ x20 : Sl, ∃ x21 : Sl, ∃ n36 : Int, ∃ t7 : Bool, r3 = .tuple #[.agg #[.int .u64 n34, .int .u64 n35, .slice x20.a x20.l x20.c, .slice x21.a x21.l x21.c, .int .i64 n36], .bool t7] ∧
   ∀ b5 h18, Fresh h17 (.cells #[.int .u64 0, .int .u64 0, .slice none 0 0, .slice none 0 0, .int .i64 0] 119) b5 h18 →
   CanSt h18 b5 0 [.int .u64 n34, .int .u64 n35, .slice x20.a x20.l x20.c, .slice x21.a x21.l x21.c, .int .i64 n36] ∧ ∀ h19, Stored h18 b5 0 [.int .u64 n34, .int .u64 n35, .slice x20.a x20.l x20.c, .slice x21.a x21.l x21.c, .int .i64 n36] h19 →
   CondP (!t7) (
   ∃ n37 : Int, ∃ n38 : Int, ∃ x22 : Sl, ∃ x23 : Sl, ∃ n39 : Int, CellsAt h19 b1 0 [.int .u64 n37, .int .u64 n38, .slice x22.a x22.l x22.c, .slice x23.a x23.l x23.c, .int .i64 n39] ∧
   CanSt h19 b2 0 [.int .u64 n37, .int .u64 n38, .slice x22.a x22.l x22.c, .slice x23.a x23.l x23.c, .int .i64 n39] ∧ ∀ h20, Stored h19 b2 0 [.int .u64 n37, .int .u64 n38, .slice x22.a x22.l x22.c, .slice x23.a x23.l x23.c, .int .i64 n39] h20 →
   ∃ n40 : Int, ∃ n41 : Int, ∃ x24 : Sl, ∃ x25 : Sl, ∃ n42 : Int, CellsAt h20 b2 0 [.int .u64 n40, .int .u64 n41, .slice x24.a x24.l x24.c, .slice x25.a x25.l x25.c, .int .i64 n42] ∧
   R (.tuple #[.agg #[.int .u64 n40, .int .u64 n41, .slice x24.a x24.l x24.c, .slice x25.a x25.l x25.c, .int .i64 n42], .int .i64 20]) h20) (
   ∃ n43 : Int, ∃ n44 : Int, ∃ x26 : Sl, ∃ x27 : Sl, ∃ n45 : Int, CellsAt h19 b5 0 [.int .u64 n43, .int .u64 n44, .slice x26.a x26.l x26.c, .slice x27.a x27.l x27.c, .int .i64 n45] ∧
   CanSt h19 b1 0 [.int .u64 n43, .int .u64 n44, .slice x26.a x26.l x26.c, .slice x27.a x27.l x27.c, .int .i64 n45] ∧ ∀ h21, Stored h19 b1 0 [.int .u64 n43, .int .u64 n44, .slice x26.a x26.l x26.c, .slice x27.a x27.l x27.c, .int .i64 n45] h21 →
   I1 ⟨subA x1.a n3.toNat x1.c 1, x1.l - n3.toNat, x1.c - n3.toNat⟩ true n26 h21 ∧ mu1 ⟨subA x1.a n3.toNat x1.c 1, x1.l - n3.toNat, x1.c - n3.toNat⟩ true n26 h21 < mu1 x1 t1 n1 h3)))) ∧
   CondP oldest_ (
   J3 true h12) (
   J3 t3 h12))) ∧
   CondP (!t4) (
   J2 true h11) (
   J2 t1 h11))) (
   CondP ((n2 : Int) == 2) (
   ∀ b6 h22, Fresh h8 (.cells #[.int .u64 0, .int .u64 0, .slice none 0 0] 35) b6 h22 →
   CallsH Tryz.prog 154 #[.pointer (some ⟨b3, 0, none⟩), .int .u64 4611686018427387904] h22 (fun r4 h23 => ∃ n46 : Int, r4 = .int .u64 n46 ∧
   CanSt h23 b6 0 [.int .u64 n46] ∧ ∀ h24, Stored h23 b6 0 [.int .u64 n46] h24 →
   CallsH Tryz.prog 154 #[.pointer (some ⟨b3, 0, none⟩), .int .u64 4611686018427387904] h24 (fun r5 h25 => ∃ n47 : Int, r5 = .int .u64 n47 ∧
   CanSt h25 b6 1 [.int .u64 n47] ∧ ∀ h26, Stored h25 b6 1 [.int .u64 n47] h26 →
   CallsH Tryz.prog 155 #[.pointer (some ⟨b3, 0, none⟩), .int .i64 512] h26 (fun r6 h27 => ∃ s1 : ByteArray, r6 = .string s1 ∧
   RunK Tryz.prog (.sl) (convert 9 33 (.string s1)) h27 (fun x28 h28 =>
   CanSt h28 b6 2 [.slice x28.a x28.l x28.c] ∧ ∀ h29, Stored h28 b6 2 [.slice x28.a x28.l x28.c] h29 →
   ∃ n48 : Int, ∃ n49 : Int, ∃ x29 : Sl, ∃ x30 : Sl, ∃ n50 : Int, CellsAt h29 b1 0 [.int .u64 n48, .int .u64 n49, .slice x29.a x29.l x29.c, .slice x30.a x30.l x30.c, .int .i64 n50] ∧
   CallsH Tryz.prog 54 #[.agg #[.int .u64 n48, .int .u64 n49, .slice x29.a x29.l x29.c, .slice x30.a x30.l x30.c, .int .i64 n50]] h29 (fun r7 h30 => ∃ n51 : Int, ∃ n52 : Int, ∃ x31 : Sl, r7 = .agg #[.int .u64 n51, .int .u64 n52, .slice x31.a x31.l x31.c] ∧
   ∀ b7 h31, Fresh h30 (.cells #[.int .u64 0, .int .u64 0, .slice none 0 0] 35) b7 h31 →
   CanSt h31 b7 0 [.int .u64 n51, .int .u64 n52, .slice x31.a x31.l x31.c] ∧ ∀ h32, Stored h31 b7 0 [.int .u64 n51, .int .u64 n52, .slice x31.a x31.l x31.c] h32 →
   ∃ J4 : Bool → Heap → Prop, (∀ t8 : Bool, ∀ h33, J4 t8 h33 → ∀ _ : Env,
   CondP t8 (
   ∃ n53 : Int, ∃ n54 : Int, ∃ x32 : Sl, ∃ x33 : Sl, ∃ n55 : Int, CellsAt h33 b1 0 [.int .u64 n53, .int .u64 n54, .slice x32.a x32.l x32.c, .slice x33.a x33.l x33.c, .int .i64 n55] ∧
   CanSt h33 b2 0 [.int .u64 n53, .int .u64 n54, .slice x32.a x32.l x32.c, .slice x33.a x33.l x33.c, .int .i64 n55] ∧ ∀ h34, Stored h33 b2 0 [.int .u64 n53, .int .u64 n54, .slice x32.a x32.l x32.c, .slice x33.a x33.l x33.c, .int .i64 n55] h34 →
   ∃ n56 : Int, ∃ n57 : Int, ∃ x34 : Sl, ∃ x35 : Sl, ∃ n58 : Int, CellsAt h34 b2 0 [.int .u64 n56, .int .u64 n57, .slice x34.a x34.l x34.c, .slice x35.a x35.l x35.c, .int .i64 n58] ∧
   R (.tuple #[.agg #[.int .u64 n56, .int .u64 n57, .slice x34.a x34.l x34.c, .slice x35.a x35.l x35.c, .int .i64 n58], .int .i64 20]) h34) (
   ∃ x36 : Sl, cellH h33 b1 3 = some (.slice x36.a x36.l x36.c) ∧
   ∃ n59 : Int, ∃ n60 : Int, ∃ x37 : Sl, CellsAt h33 b6 0 [.int .u64 n59, .int .u64 n60, .slice x37.a x37.l x37.c] ∧
   (∀ b8 h35, Fresh h33 (.cells #[] 35) b8 h35 →
   CellsAt h35 b6 0 [.int .u64 n59, .int .u64 n60, .slice x37.a x37.l x37.c] ∧
   cellH h35 b1 3 = some (.slice x36.a x36.l x36.c) ∧
   (RunK Tryz.prog (.sl) (Builtin.append_ #[36, 36] 36 #[.slice (some ⟨b8, 0, none⟩) 0 0, .slice x36.a x36.l x36.c]) h35 (fun x38 h36 =>
   CellsAt h36 b6 0 [.int .u64 n59, .int .u64 n60, .slice x37.a x37.l x37.c] ∧
   ∀ b9 h37, Fresh h36 (.cells #[.int .u64 n59, .int .u64 n60, .slice x37.a x37.l x37.c] 35) b9 h37 →
   RunK Tryz.prog (.sl) (Builtin.append_ #[36, 36] 36 #[.slice x38.a x38.l x38.c, .slice (some ⟨b9, 0, none⟩) 1 1]) h37 (fun x39 h38 =>
   CanSt h38 b1 3 [.slice x39.a x39.l x39.c] ∧ ∀ h39, Stored h38 b1 3 [.slice x39.a x39.l x39.c] h39 →
   I1 ⟨subA x1.a n3.toNat x1.c 1, x1.l - n3.toNat, x1.c - n3.toNat⟩ t1 n1 h39 ∧ mu1 ⟨subA x1.a n3.toNat x1.c 1, x1.l - n3.toNat, x1.c - n3.toNat⟩ t1 n1 h39 < mu1 x1 t1 n1 h3))) ∧
   (∀ b10 h40, Fresh h35 (.cells #[.int .u64 n59, .int .u64 n60, .slice x37.a x37.l x37.c] 35) b10 h40 →
   cellH h40 b1 3 = some (.slice x36.a x36.l x36.c) ∧
   RunK Tryz.prog (.sl) (Builtin.append_ #[36, 36] 36 #[.slice (some ⟨b8, 0, none⟩) 0 0, .slice x36.a x36.l x36.c]) h40 (fun x40 h41 =>
   RunK Tryz.prog (.sl) (Builtin.append_ #[36, 36] 36 #[.slice x40.a x40.l x40.c, .slice (some ⟨b10, 0, none⟩) 1 1]) h41 (fun x41 h42 =>
   CanSt h42 b1 3 [.slice x41.a x41.l x41.c] ∧ ∀ h43, Stored h42 b1 3 [.slice x41.a x41.l x41.c] h43 →
   I1 ⟨subA x1.a n3.toNat x1.c 1, x1.l - n3.toNat, x1.c - n3.toNat⟩ t1 n1 h43 ∧ mu1 ⟨subA x1.a n3.toNat x1.c 1, x1.l - n3.toNat, x1.c - n3.toNat⟩ t1 n1 h43 < mu1 x1 t1 n1 h3)))) ∧
   (∀ b11 h44, Fresh h33 (.cells #[.int .u64 n59, .int .u64 n60, .slice x37.a x37.l x37.c] 35) b11 h44 →
   cellH h44 b1 3 = some (.slice x36.a x36.l x36.c) ∧
   ∀ b12 h45, Fresh h44 (.cells #[] 35) b12 h45 →
   cellH h45 b1 3 = some (.slice x36.a x36.l x36.c) ∧
   RunK Tryz.prog (.sl) (Builtin.append_ #[36, 36] 36 #[.slice (some ⟨b12, 0, none⟩) 0 0, .slice x36.a x36.l x36.c]) h45 (fun x42 h46 =>
   RunK Tryz.prog (.sl) (Builtin.append_ #[36, 36] 36 #[.slice x42.a x42.l x42.c, .slice (some ⟨b11, 0, none⟩) 1 1]) h46 (fun x43 h47 =>
   CanSt h47 b1 3 [.slice x43.a x43.l x43.c] ∧ ∀ h48, Stored h47 b1 3 [.slice x43.a x43.l x43.c] h48 →
   I1 ⟨subA x1.a n3.toNat x1.c 1, x1.l - n3.toNat, x1.c - n3.toNat⟩ t1 n1 h48 ∧ mu1 ⟨subA x1.a n3.toNat x1.c 1, x1.l - n3.toNat, x1.c - n3.toNat⟩ t1 n1 h48 < mu1 x1 t1 n1 h3))))) ∧
   CallsH Tryz.prog 156 #[.pointer (some ⟨b3, 0, none⟩)] h32 (fun r8 h49 => ∃ n61 : Int, r8 = .int .i64 n61 ∧
   CondP ((n61 : Int) != 0) (
   J4 true h49) (
   ∃ n62 : Int, cellH h49 b6 0 = some (.int .u64 n62) ∧
   CondP ((n62 : Int) == 0) (
   J4 true h49) (
   ∃ n63 : Int, cellH h49 b6 0 = some (.int .u64 n63) ∧
   ∃ n64 : Int, cellH h49 b7 0 = some (.int .u64 n64) ∧
   CondP ((IntKind.u64.wrap (n63 - 1) : Int) != n64) (
   J4 true h49) (
   ∃ n65 : Int, cellH h49 b6 1 = some (.int .u64 n65) ∧
   ∃ n66 : Int, cellH h49 b7 1 = some (.int .u64 n66) ∧
   J4 (decide ((n65 : Int) < n66)) h49)))))))))) (
   CondP ((n2 : Int) == 3) (
   CallsH Tryz.prog 154 #[.pointer (some ⟨b3, 0, none⟩), .int .u64 18446744073709551615] h8 (fun r9 h50 => ∃ n67 : Int, r9 = .int .u64 n67 ∧
   ∃ J5 : Bool → Heap → Prop, (∀ t9 : Bool, ∀ h51, J5 t9 h51 → ∀ _ : Env,
   CondP t9 (
   ∃ n68 : Int, ∃ n69 : Int, ∃ x44 : Sl, ∃ x45 : Sl, ∃ n70 : Int, CellsAt h51 b1 0 [.int .u64 n68, .int .u64 n69, .slice x44.a x44.l x44.c, .slice x45.a x45.l x45.c, .int .i64 n70] ∧
   CanSt h51 b2 0 [.int .u64 n68, .int .u64 n69, .slice x44.a x44.l x44.c, .slice x45.a x45.l x45.c, .int .i64 n70] ∧ ∀ h52, Stored h51 b2 0 [.int .u64 n68, .int .u64 n69, .slice x44.a x44.l x44.c, .slice x45.a x45.l x45.c, .int .i64 n70] h52 →
   ∃ n71 : Int, ∃ n72 : Int, ∃ x46 : Sl, ∃ x47 : Sl, ∃ n73 : Int, CellsAt h52 b2 0 [.int .u64 n71, .int .u64 n72, .slice x46.a x46.l x46.c, .slice x47.a x47.l x47.c, .int .i64 n73] ∧
   R (.tuple #[.agg #[.int .u64 n71, .int .u64 n72, .slice x46.a x46.l x46.c, .slice x47.a x47.l x47.c, .int .i64 n73], .int .i64 20]) h52) (
   ∀ b13 h53, Fresh h51 (.cells #[] 35) b13 h53 →
   ∃ x48 : Sl, cellH h53 b1 3 = some (.slice x48.a x48.l x48.c) ∧
   ∃ n74 : Int, cellH h53 b1 0 = some (.int .u64 n74) ∧
   ((0 : Int) ≤ (0 : Int) ∧ (0 : Int) ≤ IntKind.u64.wrap ((IntKind.u64.wrap (n67 - 1)) - n74) ∧ IntKind.u64.wrap ((IntKind.u64.wrap (n67 - 1)) - n74) ≤ ((x48.c : Nat) : Int)) ∧
   RunK Tryz.prog (.sl) (Builtin.append_ #[36, 36] 36 #[.slice (some ⟨b13, 0, none⟩) 0 0, .slice (subA x48.a 0 x48.c 3) ((IntKind.u64.wrap ((IntKind.u64.wrap (n67 - 1)) - n74)).toNat) x48.c]) h53 (fun x49 h54 =>
   CanSt h54 b1 3 [.slice x49.a x49.l x49.c] ∧ ∀ h55, Stored h54 b1 3 [.slice x49.a x49.l x49.c] h55 →
   I1 ⟨subA x1.a n3.toNat x1.c 1, x1.l - n3.toNat, x1.c - n3.toNat⟩ t1 n1 h55 ∧ mu1 ⟨subA x1.a n3.toNat x1.c 1, x1.l - n3.toNat, x1.c - n3.toNat⟩ t1 n1 h55 < mu1 x1 t1 n1 h3))) ∧
   CallsH Tryz.prog 156 #[.pointer (some ⟨b3, 0, none⟩)] h50 (fun r10 h56 => ∃ n75 : Int, r10 = .int .i64 n75 ∧
   CondP ((n75 : Int) != 0) (
   J5 true h56) (
   CondP (decide ((n67 : Int) ≤ n1)) (
   J5 true h56) (
   ∃ n76 : Int, ∃ n77 : Int, ∃ x50 : Sl, ∃ x51 : Sl, ∃ n78 : Int, CellsAt h56 b1 0 [.int .u64 n76, .int .u64 n77, .slice x50.a x50.l x50.c, .slice x51.a x51.l x51.c, .int .i64 n78] ∧
   CallsH Tryz.prog 54 #[.agg #[.int .u64 n76, .int .u64 n77, .slice x50.a x50.l x50.c, .slice x51.a x51.l x51.c, .int .i64 n78]] h56 (fun r11 h57 => ∃ n79 : Int, ∃ n80 : Int, ∃ x52 : Sl, r11 = .agg #[.int .u64 n79, .int .u64 n80, .slice x52.a x52.l x52.c] ∧
   J5 (decide ((IntKind.u64.wrap (n67 - 1) : Int) > n79)) h57)))))) (
   ∃ n81 : Int, ∃ n82 : Int, ∃ x53 : Sl, ∃ x54 : Sl, ∃ n83 : Int, CellsAt h8 b1 0 [.int .u64 n81, .int .u64 n82, .slice x53.a x53.l x53.c, .slice x54.a x54.l x54.c, .int .i64 n83] ∧
   CanSt h8 b2 0 [.int .u64 n81, .int .u64 n82, .slice x53.a x53.l x53.c, .slice x54.a x54.l x54.c, .int .i64 n83] ∧ ∀ h58, Stored h8 b2 0 [.int .u64 n81, .int .u64 n82, .slice x53.a x53.l x53.c, .slice x54.a x54.l x54.c, .int .i64 n83] h58 →
   ∃ n84 : Int, ∃ n85 : Int, ∃ x55 : Sl, ∃ x56 : Sl, ∃ n86 : Int, CellsAt h58 b2 0 [.int .u64 n84, .int .u64 n85, .slice x55.a x55.l x55.c, .slice x56.a x56.l x56.c, .int .i64 n86] ∧
   R (.tuple #[.agg #[.int .u64 n84, .int .u64 n85, .slice x55.a x55.l x55.c, .slice x56.a x56.l x56.c, .int .i64 n86], .int .i64 20]) h58)))))) ∧
   CondP ((n4 : Int) == 31) (
   J1 newest_ h4) (
   J1 false h4))) (
   ∃ n87 : Int, ∃ n88 : Int, ∃ x57 : Sl, ∃ x58 : Sl, ∃ n89 : Int, CellsAt h3 b1 0 [.int .u64 n87, .int .u64 n88, .slice x57.a x57.l x57.c, .slice x58.a x58.l x58.c, .int .i64 n89] ∧
   CanSt h3 b2 0 [.int .u64 n87, .int .u64 n88, .slice x57.a x57.l x57.c, .slice x58.a x58.l x58.c, .int .i64 n89] ∧ ∀ h59, Stored h3 b2 0 [.int .u64 n87, .int .u64 n88, .slice x57.a x57.l x57.c, .slice x58.a x58.l x58.c, .int .i64 n89] h59 →
   ∃ n90 : Int, ∃ n91 : Int, ∃ x59 : Sl, ∃ x60 : Sl, ∃ n92 : Int, CellsAt h59 b2 0 [.int .u64 n90, .int .u64 n91, .slice x59.a x59.l x59.c, .slice x60.a x60.l x60.c, .int .i64 n92] ∧
   R (.tuple #[.agg #[.int .u64 n90, .int .u64 n91, .slice x59.a x59.l x59.c, .slice x60.a x60.l x60.c, .int .i64 n92], .int .i64 0]) h59))) :
  CallsH Tryz.prog 110 #[.agg #[.int .u64 s_0, .int .u64 s_1, .slice s_2.a s_2.l s_2.c, .slice s_3.a s_3.l s_3.c, .int .i64 s_4], .slice b_.a b_.l b_.c, .bool oldest_, .bool newest_] h R :=
  calls_of_vc tabOk mixed Tryz.func110 (c := c110) (by kernel_rfl) (n := 168) rfl (rs := [.cell 8 119, .tmp 9]) (by kernel_rfl) ok110 (args := [.agg #[.int .u64 s_0, .int .u64 s_1, .slice s_2.a s_2.l s_2.c, .slice s_3.a s_3.l s_3.c, .int .i64 s_4], .slice b_.a b_.l b_.c, .bool oldest_, .bool newest_]) (Nat.le_of_ble_eq_true rfl) (Eq.mpr (by kernel_rfl) hv)
end Go.Sx.Tryz
