/-
  Part 4 of the proof: V173, V174, V151, R01, R02, V100, V130, V145, V166, V172, K07, V97, V39, V78, V88, V75, V181, V89, V167, V131, K11, V132, V133.
-/
import Derived.Test.YtegikhoholfcmaaGreatM03
namespace Go.Sx.Tryz
open Go Go.Sx Go.Proofs
set_option maxRecDepth 100000
set_option linter.unusedVariables false
noncomputable def c173 : Code := (Tryz.f173.body).getD .skip
def a173 : Ann := (.seq .leaf (.seq .leaf (.seq (.seq .leaf (.inn (.loop [(0, .one (.i .u32)), (3, .one (.sl)), (4, .one (.i .i64))] (.seq (.seq .leaf (.br .leaf .leaf)) (.seq (.inn (.seq .leaf .leaf)) .leaf))))) (.seq .leaf .leaf))))
theorem ok173 : okC tab 18 true c173 a173 = true := by kernel_rfl
theorem vc173 (n_ : Int) (h : Heap) (R : Value → Heap → Prop)
  (hv : ∃ (I1 : Int → Sl → Int → Heap → Prop) (mu1 : Int → Sl → Int → Heap → Nat), I1 n_ ⟨none, 0, 0⟩ 0 h ∧ (∀ n1 : Int, ∀ x1 : Sl, ∀ n2 : Int, ∀ h1, I1 n1 x1 n2 h1 → ∀ _ : Env,
   CondP (decide ((n2 : Int) < 4)) (
   (256 : Int) ≠ 0 ∧
   ∀ b1 h2, Fresh h1 (.cells #[.int .u8 (IntKind.u8.wrap (Int.tmod n1 256))] 5) b1 h2 →
   RunK Tryz.prog (.sl) (Builtin.append_ #[33, 33] 33 #[.slice x1.a x1.l x1.c, .slice (some ⟨b1, 0, none⟩) 1 1]) h2 (fun x2 h3 =>
   (256 : Int) ≠ 0 ∧
   I1 (IntKind.u32.wrap (Int.tdiv n1 256)) x2 (IntKind.i64.wrap (n2 + 1)) h3 ∧ mu1 (IntKind.u32.wrap (Int.tdiv n1 256)) x2 (IntKind.i64.wrap (n2 + 1)) h3 < mu1 n1 x1 n2 h1)) (
   R (.slice x1.a x1.l x1.c) h1))) :
  CallsH Tryz.prog 173 #[.int .u32 n_] h R :=
  calls_of_vc tabOk mixed Tryz.func173 (c := c173) (by kernel_rfl) (n := 18) rfl (rs := [.tmp 2]) (by kernel_rfl) ok173 (args := [.int .u32 n_]) (Nat.le_of_ble_eq_true rfl) (Eq.mpr (by kernel_rfl) hv)
end Go.Sx.Tryz
namespace Go.Sx.Tryz
open Go Go.Sx Go.Proofs
set_option maxRecDepth 100000
set_option linter.unusedVariables false
noncomputable def c174 : Code := (Tryz.f174.body).getD .skip
def a174 : Ann := (.seq .leaf (.seq .leaf (.seq (.seq .leaf (.inn (.loop [(3, .one (.i .u32)), (4, .one (.i .i64))] (.seq (.seq .leaf (.br .leaf .leaf)) (.seq (.inn (.seq .leaf (.seq .leaf (.inn (.loop [(3, .one (.i .u32)), (5, .one (.i .u8)), (6, .one (.i .i64))] (.seq (.seq .leaf (.br .leaf .leaf)) (.seq (.inn (.seq .leaf (.seq .leaf (.seq .leaf (.seq .leaf (.br .leaf .leaf)))))) .leaf))))))) .leaf))))) (.seq .leaf .leaf))))
theorem ok174 : okC tab 37 true c174 a174 = true := by kernel_rfl
theorem vc174 (b_ : Sl) (h : Heap) (R : Value → Heap → Prop)
  (hv : ∃ (I1 : Int → Int → Heap → Prop) (mu1 : Int → Int → Heap → Nat), I1 4294967295 0 h ∧ (∀ n1 : Int, ∀ n2 : Int, ∀ h1, I1 n1 n2 h1 → ∀ _ : Env,
   CondP (decide ((n2 : Int) < ((b_.l : Nat) : Int))) (
   ((0 : Int) ≤ n2 ∧ (n2 : Int) < ((b_.l : Nat) : Int)) ∧
   NilP b_.a (fun b1 o1 =>
   ∃ n3 : Int, cellH h1 b1 (o1 + n2.toNat) = some (.int .u8 n3) ∧
   ∃ (I2 : Int → Int → Int → Heap → Prop) (mu2 : Int → Int → Int → Heap → Nat), I2 n1 n3 0 h1 ∧ (∀ n4 : Int, ∀ n5 : Int, ∀ n6 : Int, ∀ h2, I2 n4 n5 n6 h2 → ∀ _ : Env,
   CondP (decide ((n6 : Int) < 8)) (
   (2 : Int) ≠ 0 ∧
   (2 : Int) ≠ 0 ∧
   (2 : Int) ≠ 0 ∧
   (2 : Int) ≠ 0 ∧
   CondP ((Int.tmod n4 2 : Int) != (IntKind.u32.wrap (Int.tmod n5 2))) (
   I2 (bXor .u32 (IntKind.u32.wrap (Int.tdiv n4 2)) 3988292384) (IntKind.u8.wrap (Int.tdiv n5 2)) (IntKind.i64.wrap (n6 + 1)) h2 ∧ mu2 (bXor .u32 (IntKind.u32.wrap (Int.tdiv n4 2)) 3988292384) (IntKind.u8.wrap (Int.tdiv n5 2)) (IntKind.i64.wrap (n6 + 1)) h2 < mu2 n4 n5 n6 h2) (
   I2 (IntKind.u32.wrap (Int.tdiv n4 2)) (IntKind.u8.wrap (Int.tdiv n5 2)) (IntKind.i64.wrap (n6 + 1)) h2 ∧ mu2 (IntKind.u32.wrap (Int.tdiv n4 2)) (IntKind.u8.wrap (Int.tdiv n5 2)) (IntKind.i64.wrap (n6 + 1)) h2 < mu2 n4 n5 n6 h2)) (
   I1 n4 (IntKind.i64.wrap (n2 + 1)) h2 ∧ mu1 n4 (IntKind.i64.wrap (n2 + 1)) h2 < mu1 n1 n2 h1)))) (
   R (.int .u32 (IntKind.u32.wrap (4294967295 - n1))) h1))) :
  CallsH Tryz.prog 174 #[.slice b_.a b_.l b_.c] h R :=
  calls_of_vc tabOk mixed Tryz.func174 (c := c174) (by kernel_rfl) (n := 37) rfl (rs := [.tmp 2]) (by kernel_rfl) ok174 (args := [.slice b_.a b_.l b_.c]) (Nat.le_of_ble_eq_true rfl) (Eq.mpr (by kernel_rfl) hv)
end Go.Sx.Tryz
namespace Go.Sx.Tryz
open Go Go.Sx Go.Proofs
set_option maxRecDepth 100000
set_option linter.unusedVariables false
noncomputable def c151 : Code := (Tryz.f151.body).getD .skip
def a151 : Ann := (.seq .leaf (.seq (.seq .leaf (.br (.seq .leaf .leaf) .leaf)) (.seq (.seq .leaf (.br (.seq .leaf .leaf) .leaf)) (.seq .leaf (.seq (.seq .leaf (.inn (.loop [(6, .one (.b)), (7, .one (.i .i64))] (.seq (.seq .leaf (.br .leaf .leaf)) (.seq (.inn .leaf) .leaf))))) (.seq (.seq .leaf (.br (.seq .leaf .leaf) .leaf)) (.seq .leaf (.seq .leaf (.seq (.seq .leaf (.br (.seq .leaf .leaf) .leaf)) (.seq (.seq .leaf (.br (.seq .leaf .leaf) .leaf)) (.seq (.seq .leaf (.br (.seq .leaf .leaf) .leaf)) (.seq .leaf (.seq (.seq (.reg (.q 0 (.q 1 (.q 2 (.q 3 (.q 7 (.q 8 (.q 9 (.q 10 (.q 11 (.q 12 (.m 4 (.m 5 (.q 6 (.q 13 (.fin))) (.nil)) (.nil))))))))))))) (.br (.seq .leaf .leaf) .leaf)) (.seq (.reg (.q 0 (.q 1 (.q 2 (.q 4 (.q 5 (.q 6 (.q 7 (.q 8 (.q 9 (.q 11 (.m 3 (.m 10 (.q 12 (.q 13 (.q 14 (.q 15 (.fin))))) (.nil)) (.nil))))))))))))) .leaf))))))))))))))
theorem ok151 : okC tab 95 true c151 a151 = true := by kernel_rfl
theorem vc151 (b_ : Sl) (h : Heap) (R : Value → Heap → Prop)
  (hv : CondP ((((b_.l : Nat) : Int) : Int) == 0) (
   R (.tuple #[.int .u8 0, .slice none 0 0, .int .i64 0, .int .i64 31]) h) (
   ((0 : Int) ≤ 0 ∧ (0 : Int) < ((b_.l : Nat) : Int)) ∧
   NilP b_.a (fun b1 o1 =>
   ∃ n1 : Int, cellH h b1 o1 = some (.int .u8 n1) ∧
   CondP ((n1 : Int) == 0) (
   R (.tuple #[.int .u8 0, .slice none 0 0, .int .i64 0, .int .i64 20]) h) (
   ∃ (I1 : Bool → Int → Heap → Prop) (mu1 : Bool → Int → Heap → Nat), I1 (decide ((((b_.l : Nat) : Int) : Int) < 11)) 1 h ∧ (∀ t1 : Bool, ∀ n2 : Int, ∀ h1, I1 t1 n2 h1 → ∀ _ : Env,
   CondP (decide ((n2 : Int) < ((b_.l : Nat) : Int))) (
   CondP t1 (
   ((0 : Int) ≤ n2 ∧ (n2 : Int) < ((b_.l : Nat) : Int)) ∧
   NilP b_.a (fun b2 o2 =>
   ∃ n3 : Int, cellH h1 b2 (o2 + n2.toNat) = some (.int .u8 n3) ∧
   I1 (decide ((n3 : Int) ≥ 128)) (IntKind.i64.wrap (n2 + 1)) h1 ∧ mu1 (decide ((n3 : Int) ≥ 128)) (IntKind.i64.wrap (n2 + 1)) h1 < mu1 t1 n2 h1)) (
   I1 false (IntKind.i64.wrap (n2 + 1)) h1 ∧ mu1 false (IntKind.i64.wrap (n2 + 1)) h1 < mu1 t1 n2 h1)) (
   CondP t1 (
   R (.tuple #[.int .u8 0, .slice none 0 0, .int .i64 0, .int .i64 31]) h1) (
   ((0 : Int) ≤ 1 ∧ 1 ≤ ((b_.l : Nat) : Int)) ∧
   ∀ b3 h2, Fresh h1 (.cells #[.slice (subA b_.a 1 b_.c 1) (b_.l - 1) (b_.c - 1), .bool false] 219) b3 h2 →
   CallsH Tryz.prog 154 #[.pointer (some ⟨b3, 0, none⟩), .int .u64 18446744073709551615] h2 (fun r1 h3 => ∃ n4 : Int, r1 = .int .u64 n4 ∧
   ∃ t2 : Bool, cellH h3 b3 1 = some (.bool t2) ∧
   CondP t2 (
   R (.tuple #[.int .u8 0, .slice none 0 0, .int .i64 0, .int .i64 20]) h3) (
   CondP (decide ((n4 : Int) > 65536)) (
   R (.tuple #[.int .u8 0, .slice none 0 0, .int .i64 0, .int .i64 21]) h3) (
   ∃ x1 : Sl, cellH h3 b3 0 = some (.slice x1.a x1.l x1.c) ∧
   CondP (decide ((((x1.l : Nat) : Int) : Int) < (IntKind.i64.wrap ((IntKind.i64.wrap n4) + 4)))) (
   R (.tuple #[.int .u8 0, .slice none 0 0, .int .i64 0, .int .i64 31]) h3) (
   ∃ x2 : Sl, cellH h3 b3 0 = some (.slice x2.a x2.l x2.c) ∧
   ((0 : Int) ≤ (0 : Int) ∧ (0 : Int) ≤ IntKind.i64.wrap ((IntKind.i64.wrap ((IntKind.i64.wrap ((IntKind.i64.wrap (((b_.l : Nat) : Int) - ((x2.l : Nat) : Int))) + (IntKind.i64.wrap n4))) + 4)) - 4) ∧ IntKind.i64.wrap ((IntKind.i64.wrap ((IntKind.i64.wrap ((IntKind.i64.wrap (((b_.l : Nat) : Int) - ((x2.l : Nat) : Int))) + (IntKind.i64.wrap n4))) + 4)) - 4) ≤ ((b_.c : Nat) : Int)) ∧
   ((0 : Int) ≤ IntKind.i64.wrap ((IntKind.i64.wrap ((IntKind.i64.wrap ((IntKind.i64.wrap (((b_.l : Nat) : Int) - ((x2.l : Nat) : Int))) + (IntKind.i64.wrap n4))) + 4)) - 4) ∧ IntKind.i64.wrap ((IntKind.i64.wrap ((IntKind.i64.wrap ((IntKind.i64.wrap (((b_.l : Nat) : Int) - ((x2.l : Nat) : Int))) + (IntKind.i64.wrap n4))) + 4)) - 4) ≤ IntKind.i64.wrap ((IntKind.i64.wrap ((IntKind.i64.wrap (((b_.l : Nat) : Int) - ((x2.l : Nat) : Int))) + (IntKind.i64.wrap n4))) + 4) ∧ IntKind.i64.wrap ((IntKind.i64.wrap ((IntKind.i64.wrap (((b_.l : Nat) : Int) - ((x2.l : Nat) : Int))) + (IntKind.i64.wrap n4))) + 4) ≤ ((b_.c : Nat) : Int)) ∧
   ∃ s1 : ByteArray, StrOf h3 (subA b_.a ((IntKind.i64.wrap ((IntKind.i64.wrap ((IntKind.i64.wrap ((IntKind.i64.wrap (((b_.l : Nat) : Int) - ((x2.l : Nat) : Int))) + (IntKind.i64.wrap n4))) + 4)) - 4)).toNat) b_.c 1) (((IntKind.i64.wrap ((IntKind.i64.wrap ((IntKind.i64.wrap (((b_.l : Nat) : Int) - ((x2.l : Nat) : Int))) + (IntKind.i64.wrap n4))) + 4)).toNat) - ((IntKind.i64.wrap ((IntKind.i64.wrap ((IntKind.i64.wrap ((IntKind.i64.wrap (((b_.l : Nat) : Int) - ((x2.l : Nat) : Int))) + (IntKind.i64.wrap n4))) + 4)) - 4)).toNat)) s1 ∧
   CallsH Tryz.prog 174 #[.slice (subA b_.a 0 b_.c 1) ((IntKind.i64.wrap ((IntKind.i64.wrap ((IntKind.i64.wrap ((IntKind.i64.wrap (((b_.l : Nat) : Int) - ((x2.l : Nat) : Int))) + (IntKind.i64.wrap n4))) + 4)) - 4)).toNat) b_.c] h3 (fun r2 h4 => ∃ n5 : Int, r2 = .int .u32 n5 ∧
   StrOf h4 (subA b_.a ((IntKind.i64.wrap ((IntKind.i64.wrap ((IntKind.i64.wrap ((IntKind.i64.wrap (((b_.l : Nat) : Int) - ((x2.l : Nat) : Int))) + (IntKind.i64.wrap n4))) + 4)) - 4)).toNat) b_.c 1) (((IntKind.i64.wrap ((IntKind.i64.wrap ((IntKind.i64.wrap (((b_.l : Nat) : Int) - ((x2.l : Nat) : Int))) + (IntKind.i64.wrap n4))) + 4)).toNat) - ((IntKind.i64.wrap ((IntKind.i64.wrap ((IntKind.i64.wrap ((IntKind.i64.wrap (((b_.l : Nat) : Int) - ((x2.l : Nat) : Int))) + (IntKind.i64.wrap n4))) + 4)) - 4)).toNat)) s1 ∧
   CallsH Tryz.prog 173 #[.int .u32 n5] h4 (fun r3 h5 => ∃ x3 : Sl, r3 = .slice x3.a x3.l x3.c ∧
   StrOf h5 (subA b_.a ((IntKind.i64.wrap ((IntKind.i64.wrap ((IntKind.i64.wrap ((IntKind.i64.wrap (((b_.l : Nat) : Int) - ((x2.l : Nat) : Int))) + (IntKind.i64.wrap n4))) + 4)) - 4)).toNat) b_.c 1) (((IntKind.i64.wrap ((IntKind.i64.wrap ((IntKind.i64.wrap (((b_.l : Nat) : Int) - ((x2.l : Nat) : Int))) + (IntKind.i64.wrap n4))) + 4)).toNat) - ((IntKind.i64.wrap ((IntKind.i64.wrap ((IntKind.i64.wrap ((IntKind.i64.wrap (((b_.l : Nat) : Int) - ((x2.l : Nat) : Int))) + (IntKind.i64.wrap n4))) + 4)) - 4)).toNat)) s1 ∧
   ∃ s2 : ByteArray, StrOf h5 x3.a x3.l s2 ∧
   CondP (!((s2 : ByteArray).toList == (s1 : ByteArray).toList)) (
   R (.tuple #[.int .u8 0, .slice none 0 0, .int .i64 0, .int .i64 30]) h5) (
   ((0 : Int) ≤ 0 ∧ (0 : Int) < ((b_.l : Nat) : Int)) ∧
   NilP b_.a (fun b4 o3 =>
   ∃ n6 : Int, cellH h5 b4 o3 = some (.int .u8 n6) ∧
   ∃ x4 : Sl, cellH h5 b3 0 = some (.slice x4.a x4.l x4.c) ∧
   ((0 : Int) ≤ (0 : Int) ∧ (0 : Int) ≤ n4 ∧ n4 ≤ ((x4.c : Nat) : Int)) ∧
   ∀ b5 h6, Fresh h5 (.cells #[] 5) b5 h6 →
   cellH h6 b3 0 = some (.slice x4.a x4.l x4.c) ∧
   cellH h6 b4 o3 = some (.int .u8 n6) ∧
   RunK Tryz.prog (.sl) (Builtin.append_ #[33, 33] 33 #[.slice (some ⟨b5, 0, none⟩) 0 0, .slice (subA x4.a 0 x4.c 1) n4.toNat x4.c]) h6 (fun x5 h7 =>
   cellH h7 b4 o3 = some (.int .u8 n6) ∧
   R (.tuple #[.int .u8 n6, .slice x5.a x5.l x5.c, .int .i64 (IntKind.i64.wrap ((IntKind.i64.wrap ((IntKind.i64.wrap (((b_.l : Nat) : Int) - ((x2.l : Nat) : Int))) + (IntKind.i64.wrap n4))) + 4)), .int .i64 0]) h7)))))))))))))))) :
  CallsH Tryz.prog 151 #[.slice b_.a b_.l b_.c] h R :=
  calls_of_vc tabOk mixed Tryz.func151 (c := c151) (by kernel_rfl) (n := 95) rfl (rs := [.tmp 2, .tmp 3, .tmp 4, .tmp 5]) (by kernel_rfl) ok151 (args := [.slice b_.a b_.l b_.c]) (Nat.le_of_ble_eq_true rfl) (Eq.mpr (by kernel_rfl) hv)
end Go.Sx.Tryz
namespace Go.Sx.Tryz
open Go Go.Sx Go.Proofs
set_option linter.unusedVariables false
set_option maxRecDepth 20000
section
variable {H H' : Heap} {S : PH} {R : List Asn}
def rdr2 (b : Nat) (v : Sl) (t : Bool) : Asn := lst b 219 [.slice v.a v.l v.c, .bool t]
theorem tmod_nat (a b : Nat) : Int.tmod (a : Int) (b : Int) = ((a % b : Nat) : Int) := rfl
theorem tdiv_nat (a b : Nat) : Int.tdiv (a : Int) (b : Int) = ((a / b : Nat) : Int) := rfl
theorem rn_spec {b : Nat} {v : Sl} {n most : Nat} {rest : List UInt8} (hs : Sat H S (rdr2 b v false :: R)) (hv : RdB S v (natB n ++ rest)) (hn : n < 18446744073709551616) (hm : n ≤ most) (hlen : rest.length < 1000000000000)
    {K : Value → Heap → Prop} (hk : ∀ v' H', RdB S v' rest → Sat H' S (rdr2 b v' false :: R) → K (.int .u64 (n : Int)) H') :
    CallsH Tryz.prog 154 #[.pointer (some ⟨b, 0, none⟩), .int .u64 (most : Int)] H K := by
  apply vc154
  have hl := RdB.len hv
  have h10 := natB_le hn
  rw [List.length_append] at hl
  refine ⟨fun n1 n2 n3 h => ∃ acc i m : Nat, n1 = acc ∧ n2 = ((2 ^ (7 * i) : Nat) : Int) ∧ n3 = i ∧ Sat h S (rdr2 b v false :: R) ∧ (natB n ++ rest).drop i = natB m ++ rest ∧ acc < 2 ^ (7 * i) ∧ n = acc + m * 2 ^ (7 * i) ∧ i ≤ 9 ∧ (0 < i → 0 < m), fun _ _ n3 _ => v.l - n3.toNat, ⟨0, 0, n, rfl, rfl, rfl, hs, by simp, by simp, by simp, by simp, by simp⟩, ?_⟩
  rintro n1 n2 n3 h1 ⟨acc, i, m, rfl, rfl, rfl, hs, hd, ha, hnm, hi9, hpos⟩ _
  obtain ⟨c, r, hc1, hc2, hc3⟩ := natB_cons m
  have hget : (natB n ++ rest)[i]? = some c := by
    have : ((natB n ++ rest).drop i)[0]? = some c := by rw [hd, hc1]; rfl
    rw [List.getElem?_drop] at this
    simpa using this
  have hilt : i < v.l := by
    have := (List.getElem?_eq_some_iff.1 hget).1
    rw [List.length_append] at this
    omega
  refine ⟨fun t h => t = true ∧ h = h1, ?_, ?_⟩
  rotate_left
  · refine ⟨v, hs.cell 0 rfl, CondP.of (fun _ => ⟨by simp; omega, rfl⟩) (fun hc => by simp at hc; omega)⟩
  rintro t h2 ⟨rfl, rfl⟩ _
  refine CondP.of (fun _ => ?_) (fun hc => by cases hc)
  refine ⟨v, hs.cell 0 rfl, ⟨by omega, by omega⟩, ?_⟩
  obtain ⟨gb, go, ga, gc⟩ := hv.get hs hget
  refine NilP.of ga ⟨(c.toNat : Int), by simpa using gc, by decide, ?_⟩
  have hc256 := c.toNat_lt
  have hgm : c.toNat % 128 = m % 128 := by
    rw [hc2]; split <;> omega
  have eg : IntKind.u64.wrap (Int.tmod (c.toNat : Int) 128) = ((m % 128 : Nat) : Int) := by
    rw [show Int.tmod (c.toNat : Int) 128 = ((c.toNat % 128 : Nat) : Int) from tmod_nat _ 128, hgm, u64_nat (by omega)]
  have hp7 : (2 : Nat) ^ (7 * i) * 2 ^ 7 = 2 ^ (7 * (i + 1)) := by rw [← Nat.pow_add]; rfl
  have hmlt : m * 2 ^ (7 * i) < 18446744073709551616 := by omega
  have hgl : m % 128 * 2 ^ (7 * i) ≤ m * 2 ^ (7 * i) := Nat.mul_le_mul_right _ (Nat.mod_le _ _)
  have em : IntKind.u64.wrap (((m % 128 : Nat) : Int) * ((2 ^ (7 * i) : Nat) : Int)) = ((m % 128 * 2 ^ (7 * i) : Nat) : Int) := by
    rw [← Int.natCast_mul, u64_nat (by omega)]
  have ea : IntKind.u64.wrap ((acc : Int) + ((m % 128 * 2 ^ (7 * i) : Nat) : Int)) = ((acc + m % 128 * 2 ^ (7 * i) : Nat) : Int) := u64_add (by omega)
  have ei : IntKind.i64.wrap ((i : Int) + 1) = ((i + 1 : Nat) : Int) := i64_succ (by omega)
  have h9 : i = 9 → m < 2 := by
    intro h; subst h
    have e : (2 : Nat) ^ (7 * 9) = 9223372036854775808 := by decide
    rw [e] at hmlt; omega
  rw [eg, em, ea, ei]
  simp only [Int.toNat_natCast]
  have hleft : m < 128 → ∀ H', Sat H' S (rdr2 b ⟨subA v.a (i + 1) v.c 1, v.l - (i + 1), v.c - (i + 1)⟩ false :: R) → K (.int .u64 ((acc + m % 128 * 2 ^ (7 * i) : Nat) : Int)) H' := by
    intro hbig H' hs'
    rw [if_pos hbig] at hc3
    rw [Nat.mod_eq_of_lt hbig, ← hnm]
    refine hk _ H' ?_ hs'
    have := hv.drop (k := i + 1) (by omega)
    have e : (natB n ++ rest).drop (i + 1) = rest := by
      rw [← List.drop_drop, hd, hc1, hc3]; rfl
    rwa [e] at this
  have fin : m < 128 → ∃ x : Sl, cellH h2 b 0 = some (.slice x.a x.l x.c) ∧ ((0 : Int) ≤ ((i + 1 : Nat) : Int) ∧ ((i + 1 : Nat) : Int) ≤ ((x.l : Nat) : Int)) ∧
      CanSt h2 b 0 [.slice (subA x.a (i + 1) x.c 1) (x.l - (i + 1)) (x.c - (i + 1))] ∧
      ∀ h6, Stored h2 b 0 [.slice (subA x.a (i + 1) x.c 1) (x.l - (i + 1)) (x.c - (i + 1))] h6 → K (.int .u64 ((acc + m % 128 * 2 ^ (7 * i) : Nat) : Int)) h6 := by
    intro hbig
    refine ⟨v, hs.cell 0 rfl, ⟨by omega, by omega⟩, ?_⟩
    exact hs.store (by simp) fun H' hs' => hleft hbig H' hs'
  have hmost : ((acc + m % 128 * 2 ^ (7 * i) : Nat) : Int) ≤ (most : Int) := by omega
  have rest1 : ∀ (P1 P2 P3 P4 : Prop), (m < 128 → P4) → (¬ m < 128 → P3) → CondP (decide ((c.toNat : Int) < 128)) (CondP (decide ((i : Int) > 0)) (CondP ((c.toNat : Int) == 0) P1 (CondP (decide (((acc + m % 128 * 2 ^ (7 * i) : Nat) : Int) > (most : Int))) P1 P4)) (CondP (decide (((acc + m % 128 * 2 ^ (7 * i) : Nat) : Int) > (most : Int))) P2 P4)) P3 := by
    intro P1 P2 P3 P4 h4 h3
    rcases Nat.lt_or_ge m 128 with hbig | hbig
    · rw [if_pos hbig] at hc2
      refine CondP.of (fun _ => CondP.of (fun hi => CondP.of (fun hc0 => ?_) (fun _ => CondP.of (fun hc => absurd (of_decide_eq_true hc) (Int.not_lt.2 hmost)) fun _ => h4 hbig)) (fun _ => CondP.of (fun hc => absurd (of_decide_eq_true hc) (Int.not_lt.2 hmost)) fun _ => h4 hbig)) (fun hc => by simp at hc; omega)
      exfalso
      have := hpos (by simpa using hi)
      simp at hc0; omega
    · have hbig : ¬ m < 128 := Nat.not_lt.2 hbig
      rw [if_neg hbig] at hc2
      exact CondP.of (fun hc => by simp at hc; omega) fun _ => h3 hbig
  have more : ¬ m < 128 → i ≠ 9 → (∃ acc' i' m' : Nat, ((acc + m % 128 * 2 ^ (7 * i) : Nat) : Int) = acc' ∧ IntKind.u64.wrap (((2 ^ (7 * i) : Nat) : Int) * 128) = ((2 ^ (7 * i') : Nat) : Int) ∧ ((i + 1 : Nat) : Int) = i' ∧ Sat h2 S (rdr2 b v false :: R) ∧ (natB n ++ rest).drop i' = natB m' ++ rest ∧ acc' < 2 ^ (7 * i') ∧ n = acc' + m' * 2 ^ (7 * i') ∧ i' ≤ 9 ∧ (0 < i' → 0 < m')) ∧
      v.l - (i + 1) < v.l - i := by
    intro hbig hi
    rw [if_neg hbig] at hc3
    refine ⟨⟨_, i + 1, m / 128, rfl, ?_, rfl, hs, ?_, ?_, ?_, by omega, by omega⟩, by omega⟩
    · have h1 : (2 : Nat) ^ (7 * (i + 1)) ≤ 2 ^ 63 := Nat.pow_le_pow_right (by decide) (by omega)
      rw [show ((2 ^ (7 * i) : Nat) : Int) * 128 = ((2 ^ (7 * i) * 128 : Nat) : Int) from (Int.natCast_mul _ 128).symm, show 2 ^ (7 * i) * 128 = 2 ^ (7 * (i + 1)) from hp7, u64_nat (Nat.lt_of_le_of_lt h1 (by decide))]
    · rw [← List.drop_drop, hd, hc1, hc3]; rfl
    · have : m % 128 * 2 ^ (7 * i) ≤ 127 * 2 ^ (7 * i) := Nat.mul_le_mul_right _ (by omega)
      rw [← hp7]; omega
    · rw [hnm, ← hp7]
      have h3 : m = 128 * (m / 128) + m % 128 := (Nat.div_add_mod m 128).symm
      generalize hP : (2 : Nat) ^ (7 * i) = P at *
      have h4 : m * P = m % 128 * P + m / 128 * (P * 2 ^ 7) := by
        conv => lhs; rw [h3]
        rw [Nat.add_mul, Nat.mul_comm 128 (m / 128), Nat.mul_assoc, Nat.mul_comm 128 P, Nat.add_comm]
      rw [h4, Nat.add_assoc]
  refine CondP.of (fun hi => ?_) (fun hi => ?_)
  · have hi : i = 9 := by
      have : (i : Int) = 9 := by simpa using hi
      omega
    have hm2 := h9 hi
    refine CondP.of (fun hc => by simp at hc; omega) fun _ => ?_
    exact rest1 _ _ _ _ fin (fun h => by omega)
  · have hi : i ≠ 9 := by intro h; rw [h] at hi; simp at hi
    exact rest1 _ _ _ _ fin (fun h => more h hi)
theorem rf_spec {b : Nat} {v : Sl} {t : Bool} {rest : List UInt8} (hs : Sat H S (rdr2 b v false :: R)) (hv : RdB S v (flagB t ++ rest)) (hlen : rest.length < 1000000000000)
    {K : Value → Heap → Prop} (hk : ∀ v' H', RdB S v' rest → Sat H' S (rdr2 b v' false :: R) → K (.bool t) H') : CallsH Tryz.prog 175 #[.pointer (some ⟨b, 0, none⟩)] H K := by
  apply vc175
  refine rn_spec (n := if t then 1 else 0) (most := 1) hs hv (by split <;> omega) (by split <;> omega) hlen fun v' h1 hv' hs' => ⟨_, rfl, ?_⟩
  have := hk v' h1 hv' hs'
  cases t <;> exact this
theorem re_spec {b : Nat} {v : Sl} (hs : Sat H S (rdr2 b v false :: R)) (h0 : v.l = 0) {K : Value → Heap → Prop} (hk : K (.int .i64 0) H) : CallsH Tryz.prog 156 #[.pointer (some ⟨b, 0, none⟩)] H K := by
  apply vc156
  exact ⟨_, hs.cell 1 rfl, CondP.of (fun hc => by cases hc) fun _ => ⟨v, hs.cell 0 rfl, CondP.of (fun hc => by simp at hc; omega) fun _ => hk⟩⟩
theorem rt_spec {b : Nat} {v : Sl} {most : Nat} {s rest : List UInt8} (hs : Sat H S (rdr2 b v false :: R)) (hv : RdB S v (textB s ++ rest)) (hm : s.length ≤ most) (hm2 : most < 9223372036854775808) (hlen : s.length + rest.length < 1000000000000)
    {K : Value → Heap → Prop} (hk : ∀ v' H', RdB S v' rest → Sat H' S (rdr2 b v' false :: R) → K (.string ⟨s.toArray⟩) H') :
    CallsH Tryz.prog 155 #[.pointer (some ⟨b, 0, none⟩), .int .i64 (most : Int)] H K := by
  apply vc155
  refine CondP.of (fun hc => by simp at hc; omega) fun _ => ?_
  rw [u64_nat (by omega)]
  have hv' : RdB S v (natB s.length ++ (s ++ rest)) := by rw [← List.append_assoc]; exact hv
  refine rn_spec hs hv' (by omega) hm (by rw [List.length_append]; omega) fun v2 H2 hv2 hs2 => ⟨_, rfl, ?_⟩
  have hl2 := RdB.len hv2
  rw [List.length_append] at hl2
  refine ⟨v2, hs2.cell 0 rfl, ?_⟩
  rw [u64_nat (by omega)]
  refine CondP.of (fun hc => by simp at hc; omega) fun _ => ⟨v2, hs2.cell 0 rfl, ⟨by omega, by omega, by have := hv2.2.1; omega⟩, ⟨s.toArray⟩, ?_, ?_⟩
  · simp only [Int.toNat_natCast]
    rcases Nat.eq_zero_or_pos s.length with h0 | h0
    · exact ⟨rfl, .inl h0⟩
    · rw [subA_zero (hv2.spot (by omega))]
      have := StrOf.ofRd (hv2.take (k := s.length) (m := v2.c) (by omega) (by have := hv2.2.1; omega)) hs2
      rwa [List.take_left] at this
  · simp only [Int.toNat_natCast]
    refine ⟨v2, hs2.cell 0 rfl, ⟨by omega, by omega⟩, ?_⟩
    refine hs2.store (by simp) fun h6 hs6 => hk ⟨subA v2.a s.length v2.c 1, v2.l - s.length, v2.c - s.length⟩ h6 ?_ hs6
    have := hv2.drop (k := s.length) (by omega)
    rwa [List.drop_left] at this
theorem rsum_spec {v : Sl} {xs : List UInt8} (hv : v.l = xs.length ∧ (v.l = 0 ∨ ∃ b o, v.a = some ⟨b, o, none⟩ ∧ CellsAt H b o (bv xs))) (hlen : xs.length < 10000000000) {K : Value → Heap → Prop}
    (hk : K (.int .u32 ((4294967295 - crc xs : Nat) : Int)) H) : CallsH Tryz.prog 174 #[.slice v.a v.l v.c] H K := by
  apply vc174
  obtain ⟨hl, hr⟩ := hv
  refine ⟨fun n1 n2 h => ∃ i : Nat, n1 = (crc (xs.take i) : Nat) ∧ n2 = i ∧ i ≤ xs.length ∧ h = H, fun _ n2 _ => xs.length - n2.toNat, ⟨0, rfl, rfl, Nat.zero_le _, rfl⟩, ?_⟩
  rintro n1 n2 h1 ⟨i, rfl, rfl, hi, rfl⟩ _
  refine CondP.of (fun hc => ?_) (fun hc => ?_)
  · have hc : i < xs.length := by simp at hc; omega
    obtain ⟨gb, go, ga, gc⟩ := hr.resolve_left (by omega)
    have hget := gc.get i _ (bv_get (List.getElem?_eq_getElem hc))
    refine ⟨⟨by omega, by omega⟩, NilP.of ga ⟨((xs[i]).toNat : Int), by simpa using hget, ?_⟩⟩
    have hclt := crc_lt (xs.take i)
    have hc256 := (xs[i]).toNat_lt
    have hsn : crc (xs.take (i + 1)) = csteps 8 (crc (xs.take i) ^^^ (xs[i]).toNat) := by
      rw [List.take_succ_eq_append_getElem hc, crc_snoc]; rfl
    generalize hcr : crc (xs.take i) = cr at *
    generalize hxc : (xs[i]).toNat = c at *
    refine ⟨fun n4 n5 n6 h => ∃ k a : Nat, n4 = a ∧ n5 = ((c / 2 ^ k : Nat) : Int) ∧ n6 = k ∧ k ≤ 8 ∧ a < 4294967296 ∧ a ^^^ (c / 2 ^ k) = csteps k (cr ^^^ c) ∧ h = h1, fun _ _ n6 _ => 8 - n6.toNat, ⟨0, cr, rfl, by simp, rfl, by omega, hclt, by simp [csteps], rfl⟩, ?_⟩
    rintro n4 n5 n6 h2 ⟨k, a, rfl, rfl, rfl, hk8, ha, hax, rfl⟩ _
    have hck : c / 2 ^ k < 256 := Nat.lt_of_le_of_lt (Nat.div_le_self _ _) hc256
    have hcs : ∀ (j n : Nat), csteps (j + 1) n = cstep (csteps j n) := by
      intro j n
      rw [csteps_add j 1 n]; rfl
    refine CondP.of (fun hc2 => ?_) (fun hc2 => ?_)
    · have hk7 : k < 8 := by simp at hc2; omega
      have e1 : IntKind.u32.wrap (Int.tmod ((c / 2 ^ k : Nat) : Int) 2) = ((c / 2 ^ k % 2 : Nat) : Int) := by
        rw [show Int.tmod ((c / 2 ^ k : Nat) : Int) 2 = ((c / 2 ^ k % 2 : Nat) : Int) from tmod_nat _ 2, u32_in (by omega) (by omega)]
      have e2 : IntKind.u32.wrap (Int.tdiv (a : Int) 2) = ((a / 2 : Nat) : Int) := by
        rw [show Int.tdiv (a : Int) 2 = ((a / 2 : Nat) : Int) from tdiv_nat _ 2, u32_in (by omega) (by omega)]
      have e3 : IntKind.u8.wrap (Int.tdiv ((c / 2 ^ k : Nat) : Int) 2) = ((c / 2 ^ (k + 1) : Nat) : Int) := by
        rw [show Int.tdiv ((c / 2 ^ k : Nat) : Int) 2 = ((c / 2 ^ k / 2 : Nat) : Int) from tdiv_nat _ 2, Nat.div_div_eq_div_mul, ← Nat.pow_succ, u8_in (Int.natCast_nonneg _) (by have := Nat.div_le_self c (2 ^ (k.succ)); omega)]
      have e4 : Int.tmod (a : Int) 2 = ((a % 2 : Nat) : Int) := tmod_nat _ 2
      have hdd : c / 2 ^ k / 2 = c / 2 ^ (k + 1) := by rw [Nat.div_div_eq_div_mul, ← Nat.pow_succ]
      have hbes := cstep_beside a (c / 2 ^ k)
      rw [hax, ← hcs, hdd] at hbes
      rw [e1, e2, e3, e4, i64_succ (by omega)]
      refine ⟨by decide, by decide, by decide, by decide, CondP.of (fun hc3 => ?_) (fun hc3 => ?_)⟩
      · have hne : a % 2 ≠ c / 2 ^ k % 2 := by intro h; rw [h] at hc3; simp at hc3
        rw [if_pos hne] at hbes
        have ex : bXor .u32 ((a / 2 : Nat) : Int) 3988292384 = ((a / 2 ^^^ poly : Nat) : Int) := bXor_u32 (b := poly) (by omega) (by decide)
        rw [ex]
        exact ⟨⟨k + 1, _, rfl, rfl, rfl, hk7, Nat.xor_lt_two_pow (n := 32) (by omega) (by decide), hbes, rfl⟩, by simp only [Int.toNat_natCast]; omega⟩
      · have heq : ¬ a % 2 ≠ c / 2 ^ k % 2 := by
          intro h; apply h
          have : ((a % 2 : Nat) : Int) = ((c / 2 ^ k % 2 : Nat) : Int) := by simpa using hc3
          omega
        rw [if_neg heq, Nat.xor_zero] at hbes
        exact ⟨⟨k + 1, _, rfl, rfl, rfl, hk7, by omega, hbes, rfl⟩, by simp only [Int.toNat_natCast]; omega⟩
    · have hk8' : k = 8 := by simp at hc2; omega
      subst hk8'
      have h0 : c / 2 ^ 8 = 0 := Nat.div_eq_of_lt (by omega)
      rw [h0, Nat.xor_zero] at hax
      rw [i64_succ (by omega)]
      refine ⟨⟨i + 1, by rw [hax, hsn], rfl, hc, rfl⟩, by simp only [Int.toNat_natCast]; omega⟩
  · have hc : i = xs.length := by simp at hc; omega
    subst hc
    rw [List.take_length]
    have := crc_lt xs
    rw [u32_in (by omega) (by omega)]
    have e : (4294967295 : Int) - (crc xs : Int) = ((4294967295 - crc xs : Nat) : Int) := by omega
    rw [e]; exact hk
theorem rfour_spec {n : Nat} (hs : Sat H S R) (hn : n < 4294967296) {K : Value → Heap → Prop} (hk : ∀ (v' : Sl) H', Sat H' S (own 5 1 v' (bv (four n)) :: R) → K (.slice v'.a v'.l v'.c) H') : CallsH Tryz.prog 173 #[.int .u32 (n : Int)] H K := by
  apply vc173
  have h4 : ∀ i, i < 4 → (four n).take (i + 1) = (four n).take i ++ [UInt8.ofNat (n / 256 ^ i)] := by
    intro i hi
    rcases (by omega : i = 0 ∨ i = 1 ∨ i = 2 ∨ i = 3) with rfl | rfl | rfl | rfl <;> simp [four]
  refine ⟨fun n1 x n2 h => ∃ i : Nat, n1 = ((n / 256 ^ i : Nat) : Int) ∧ n2 = i ∧ i ≤ 4 ∧ Sat h S (own 5 1 x (bv ((four n).take i)) :: R), fun _ _ n2 _ => 4 - n2.toNat, ⟨0, by simp, rfl, by omega, own.new 5 1 hs⟩, ?_⟩
  rintro n1 x n2 h1 ⟨i, rfl, rfl, hi, hs1⟩ _
  have hxl := (own.len hs1).1
  rw [bv_len, List.length_take, Nat.mul_one] at hxl
  have hf4 : (four n).length = 4 := rfl
  refine CondP.of (fun hc => ?_) (fun hc => ?_)
  · have hc : i < 4 := by simp at hc; omega
    refine ⟨by decide, ?_⟩
    have e1 : IntKind.u8.wrap (Int.tmod ((n / 256 ^ i : Nat) : Int) 256) = (((UInt8.ofNat (n / 256 ^ i)).toNat : Nat) : Int) := by
      rw [show Int.tmod ((n / 256 ^ i : Nat) : Int) 256 = ((n / 256 ^ i % 256 : Nat) : Int) from tmod_nat _ 256, u8_in (by omega) (by omega)]
      simp
    rw [e1]
    intro b1 h2 f2
    have hs2 : Sat h2 S (lst b1 5 (bv [UInt8.ofNat (n / 256 ^ i)]) :: own 5 1 x (bv ((four n).take i)) :: R) := hs1.fresh f2
    refine append_one el33 (v := x) hs2 rfl (bv_one _) (by omega) (by unfold maxLen; omega) fun v' h3 hv' hs3 => ⟨by decide, ?_⟩
    rw [← bv_append, ← h4 i hc] at hs3
    have hle := Nat.div_le_self n (256 ^ i)
    have e2 : IntKind.u32.wrap (Int.tdiv ((n / 256 ^ i : Nat) : Int) 256) = ((n / 256 ^ (i + 1) : Nat) : Int) := by
      rw [show Int.tdiv ((n / 256 ^ i : Nat) : Int) 256 = ((n / 256 ^ i / 256 : Nat) : Int) from tdiv_nat _ 256, Nat.div_div_eq_div_mul, ← Nat.pow_succ, u32_in (Int.natCast_nonneg _) (by have := Nat.div_le_self n (256 ^ (i.succ)); omega)]
    rw [e2, i64_succ (by omega)]
    exact ⟨⟨i + 1, rfl, rfl, hc, hs3⟩, by simp only [Int.toNat_natCast]; omega⟩
  · have hc : i = 4 := by simp at hc; omega
    subst hc
    exact hk x h1 hs1
end
end Go.Sx.Tryz
namespace Go.Sx.Tryz
open Go Go.Sx Go.Proofs
set_option linter.unusedVariables false
set_option maxRecDepth 20000
section
variable {H H' : Heap} {S : PH} {R : List Asn}
theorem ropen_loop {v : Sl} {kind : UInt8} {p' : List UInt8} (hs : Sat H S R) (hv : RdB S v (kind :: p')) (hlen : p'.length < 1000000000000) {Q Q2 : Heap → Prop} (hq : openB p' = true → Q H) (hq2 : openB p' = false → Q2 H) :
    ∃ (I1 : Bool → Int → Heap → Prop) (mu1 : Bool → Int → Heap → Nat), I1 (decide ((((v.l : Nat) : Int) : Int) < 11)) 1 H ∧ (∀ t1 : Bool, ∀ n2 : Int, ∀ h1, I1 t1 n2 h1 → ∀ _ : Env,
     CondP (decide ((n2 : Int) < ((v.l : Nat) : Int))) (
     CondP t1 (
     ((0 : Int) ≤ n2 ∧ (n2 : Int) < ((v.l : Nat) : Int)) ∧
     NilP v.a (fun b2 o2 =>
     ∃ n3 : Int, cellH h1 b2 (o2 + n2.toNat) = some (.int .u8 n3) ∧
     I1 (decide ((n3 : Int) ≥ 128)) (IntKind.i64.wrap (n2 + 1)) h1 ∧ mu1 (decide ((n3 : Int) ≥ 128)) (IntKind.i64.wrap (n2 + 1)) h1 < mu1 t1 n2 h1)) (
     I1 false (IntKind.i64.wrap (n2 + 1)) h1 ∧ mu1 false (IntKind.i64.wrap (n2 + 1)) h1 < mu1 t1 n2 h1)) (CondP t1 (Q h1) (Q2 h1))) := by
  have hl := RdB.len hv
  simp only [List.length_cons] at hl
  refine ⟨fun t n h => ∃ i : Nat, n = ((1 + i : Nat) : Int) ∧ i ≤ p'.length ∧ h = H ∧ t = ((p'.take i).all (fun c => decide (128 ≤ c.toNat)) && decide (p'.length < 10)), fun _ n _ => p'.length + 1 - n.toNat, ⟨0, rfl, Nat.zero_le _, rfl, by simp; omega⟩, ?_⟩
  rintro t n h1 ⟨i, rfl, hi, rfl, rfl⟩ _
  refine CondP.of (fun hc => ?_) (fun hc => ?_)
  · have hc : i < p'.length := by simp at hc; omega
    have e1 : IntKind.i64.wrap (((1 + i : Nat) : Int) + 1) = ((1 + (i + 1) : Nat) : Int) := by rw [i64_succ (by omega)]; rfl
    have hst : (p'.take (i + 1)).all (fun c => decide (128 ≤ c.toNat)) = ((p'.take i).all (fun c => decide (128 ≤ c.toNat)) && decide (128 ≤ (p'[i]).toNat)) := by
      rw [List.take_succ_eq_append_getElem hc, List.all_append]; simp
    rw [e1]
    refine CondP.of (fun ht => ?_) (fun ht => ?_)
    · rw [Bool.and_eq_true] at ht
      obtain ⟨gb, go, ga, gc⟩ := hv.get hs (k := 1 + i) (c := p'[i]) (by rw [Nat.add_comm, List.getElem?_cons_succ, List.getElem?_eq_getElem hc])
      refine ⟨⟨by omega, by omega⟩, NilP.of ga ⟨_, by rw [Int.toNat_natCast]; exact gc, ⟨i + 1, rfl, hc, rfl, ?_⟩, by simp only [Int.toNat_natCast]; omega⟩⟩
      rw [hst, ht.1, ht.2, Bool.true_and, Bool.and_true]
      exact decide_eq_decide.2 (by omega)
    · refine ⟨⟨i + 1, rfl, hc, rfl, ?_⟩, by simp only [Int.toNat_natCast]; omega⟩
      rw [hst]
      rw [Bool.and_right_comm, ht, Bool.false_and]
  · have hc : i = p'.length := by simp at hc; omega
    subst hc
    rw [List.take_length]
    exact CondP.of hq hq2
set_option maxHeartbeats 1000000 in
theorem rtake_ok {kind : UInt8} {v : Sl} {body rest : List UInt8} (hs : Sat H S R) (hv : RdB S v (parcelB kind body ++ rest)) (h0 : kind ≠ 0) (hb : body.length ≤ 65536) (hlen : rest.length < 1000000000)
    {K : Value → Heap → Prop} (hk : ∀ (v' : Sl) H' S', PH.le S S' → RdB S' v' body → Sat H' S' R → K (.tuple #[.int .u8 (kind.toNat : Int), .slice v'.a v'.l v'.c, .int .i64 ((parcelB kind body).length : Int), .int .i64 0]) H') :
    CallsH Tryz.prog 151 #[.slice v.a v.l v.c] H K := by
  apply vc151
  have hl := RdB.len hv
  have hn10 := natB_le (n := body.length) (by omega)
  rw [List.length_append, parcelB_len] at hl
  have hspot := hv.spot (by omega)
  generalize hL : (natB body.length).length = L at *
  refine CondP.of (fun hc => by simp at hc; omega) (fun _ => ⟨⟨by omega, by omega⟩, ?_⟩)
  have hx : parcelB kind body ++ rest = kind :: (natB body.length ++ (body ++ (sumB (parcelH kind body) ++ rest))) := by simp [parcelB, parcelH, textB]
  obtain ⟨gb, go, ga, gc⟩ := hv.get hs (k := 0) (c := kind) (by rw [hx]; rfl)
  refine NilP.of ga ⟨(kind.toNat : Int), by simpa using gc, CondP.of (fun hc => ?_) (fun _ => ?_)⟩
  · exfalso; apply h0
    have : kind.toNat = 0 := by simpa using hc
    exact UInt8.toNat_inj.1 this
  have hlr : (body ++ (sumB (parcelH kind body) ++ rest)).length = body.length + (4 + rest.length) := by simp [sumB_len]
  have hvx := hv
  rw [hx] at hvx
  have hvc := hv.2.1
  refine ropen_loop hs hvx (by rw [List.length_append, hlr]; omega) (fun h => by rw [openB_nat] at h; cases h) (fun _ => ⟨⟨by omega, by omega⟩, ?_⟩)
  intro b3 h2 f2
  have hs2 : Sat h2 S (rdr2 b3 ⟨subA v.a 1 v.c 1, v.l - 1, v.c - 1⟩ false :: R) := hs.fresh f2
  have hv1 := hv.drop (k := 1) (by omega)
  rw [hx, List.drop_one, List.tail_cons] at hv1
  refine rn_spec (most := 18446744073709551615) (n := body.length) hs2 hv1 (by omega) (by omega) (by rw [hlr]; omega) fun v2 h3 hv2 hs3 => ⟨_, rfl, _, hs3.cell 1 rfl, CondP.of (fun hc => by cases hc) fun _ => CondP.of (fun hc => by simp at hc; omega) fun _ => ⟨v2, hs3.cell 0 rfl, ?_⟩⟩
  have hl2 := RdB.len hv2
  rw [hlr] at hl2
  have e2 : IntKind.i64.wrap (body.length : Int) = (body.length : Int) := i64_nat (by omega)
  have e0 : IntKind.i64.wrap ((body.length : Int) + 4) = ((body.length + 4 : Nat) : Int) := i64_add (j := 4) (by omega)
  have e1 : IntKind.i64.wrap ((v.l : Int) - (v2.l : Int)) = ((1 + L : Nat) : Int) := by rw [i64_sub (by omega) (by omega)]; omega
  have e3 : IntKind.i64.wrap (((1 + L : Nat) : Int) + (body.length : Int)) = ((1 + L + body.length : Nat) : Int) := i64_add (by omega)
  have e4 : IntKind.i64.wrap (((1 + L + body.length : Nat) : Int) + 4) = ((1 + L + body.length + 4 : Nat) : Int) := i64_add (j := 4) (by omega)
  have e5 : IntKind.i64.wrap (((1 + L + body.length + 4 : Nat) : Int) - 4) = ((1 + L + body.length : Nat) : Int) := i64_sub (i := 1 + L + body.length + 4) (j := 4) (by omega) (by omega)
  rw [e2, e0]
  refine CondP.of (fun hc => by simp at hc; omega) fun _ => ⟨v2, hs3.cell 0 rfl, ?_⟩
  simp only [e1, e3, e4, e5, Int.toNat_natCast, subA_zero hspot]
  refine ⟨⟨by omega, by omega, by omega⟩, ⟨by omega, by omega, by omega⟩, ?_⟩
  have hpl : (parcelH kind body).length = 1 + L + body.length := by rw [parcelH_len, hL]
  have hwhole : (parcelB kind body ++ rest).take (1 + L + body.length) = parcelH kind body := by
    rw [parcelB, List.append_assoc, ← hpl, List.take_left]
  have hall : (parcelB kind body ++ rest).take (1 + L + body.length + 4) = parcelB kind body := by
    have : (parcelB kind body).length = 1 + L + body.length + 4 := by rw [parcelB_len, hL]; omega
    rw [← this, List.take_left]
  have hsum : RdB S ⟨subA v.a (1 + L + body.length) v.c 1, 1 + L + body.length + 4 - (1 + L + body.length), v.c - (1 + L + body.length)⟩ (sumB (parcelH kind body)) := by
    have := (hv.take (k := 1 + L + body.length + 4) (m := v.c) (by omega) (by omega)).drop (k := 1 + L + body.length) (by show _ ≤ 1 + L + body.length + 4; omega)
    rw [hall, parcelB, ← hpl, List.drop_left, hpl] at this
    exact this
  have hst : ∀ (h : Heap) (L' : List Asn), Sat h S L' → StrOf h (subA v.a (1 + L + body.length) v.c 1) (1 + L + body.length + 4 - (1 + L + body.length)) ⟨(sumB (parcelH kind body)).toArray⟩ := fun h L' hh => StrOf.ofRd hsum hh
  refine ⟨_, hst _ _ hs3, ?_⟩
  have hr1 := (hv.take (k := 1 + L + body.length) (m := v.c) (by omega) (by omega)).reads hs3
  rw [hwhole] at hr1
  refine rsum_spec (v := ⟨v.a, 1 + L + body.length, v.c⟩) hr1 (by omega) ⟨_, rfl, hst _ _ hs3, ?_⟩
  have hcl := crc_lt (parcelH kind body)
  refine rfour_spec hs3 (by omega) fun x3 h5 hs5 => ⟨x3, rfl, hst _ _ hs5, ⟨(sumB (parcelH kind body)).toArray⟩, StrOf.ofCells (own.reads hs5).1 (own.reads hs5).2, CondP.of (fun hc => ?_) (fun _ => ⟨⟨by omega, by omega⟩, ?_⟩)⟩
  · simp at hc
  obtain ⟨gb5, go5, ga5, gc5⟩ := hv.get hs5 (k := 0) (c := kind) (by rw [hx]; rfl)
  refine NilP.of ga5 ⟨(kind.toNat : Int), by simpa using gc5, v2, hs5.swap.cell 0 rfl, ⟨by omega, by omega, by have := hv2.2.1; omega⟩, ?_⟩
  intro b5 h6 f6
  have hs6 : Sat h6 S (lst b5 5 [] :: own 5 1 x3 (bv (four (4294967295 - crc (parcelH kind body)))) :: rdr2 b3 v2 false :: R) := hs5.fresh f6
  obtain ⟨gb6, go6, ga6, gc6⟩ := hv.get hs6 (k := 0) (c := kind) (by rw [hx]; rfl)
  rw [ga5] at ga6
  cases ga6
  refine ⟨(hs6.pick 2 rfl).cell 0 rfl, by simpa using gc6, ?_⟩
  have hs7 := own.ofLst (sz := 1) (n := 0) (c := 0) (xs := bv []) hs6 rfl (Nat.le_refl _) (by decide) rfl
  have hr3 := (hv2.take (k := body.length) (m := v2.c) (by omega) (by have := hv2.2.1; omega)).reads hs7
  rw [List.take_left] at hr3
  have hsub : ∀ (hh : 0 < body.length), subA v2.a 0 v2.c 1 = v2.a := fun hh => subA_zero (hv2.spot (by omega))
  refine append_own el33 (v := ⟨some ⟨b5, 0, none⟩, 0, 0⟩) (xs := bv []) hs7 (m := body.length) (c := v2.c) (news := bv body) (by rw [bv_len, Nat.mul_one]) ?_ (bv_one _) (by show (0 + body.length) * 1 ≤ _; omega) (by show 0 + body.length ≤ maxLen; unfold maxLen; omega) fun x5 h8 hx5 hs8 => ?_
  · rcases Nat.eq_zero_or_pos body.length with h | h
    · exact .inl h
    · right
      rw [hsub h]
      exact hr3.2.resolve_left (by show ¬ body.length = 0; omega)
  · have hs8 : Sat h8 S (own 5 1 x5 (bv body) :: own 5 1 x3 (bv (four (4294967295 - crc (parcelH kind body)))) :: rdr2 b3 v2 false :: R) := hs8
    obtain ⟨S', q1, q2, q3⟩ := own.fixd hs8
    obtain ⟨gb8, go8, ga8, gc8⟩ := (hv.mono q1).get q3 (k := 0) (c := kind) (by rw [hx]; rfl)
    rw [ga5] at ga8
    cases ga8
    refine ⟨by simpa using gc8, ?_⟩
    have := hk x5 h8 S' q1 q2 (q3.drop.drop)
    rw [parcelB_len, hL] at this
    rw [show 1 + L + body.length + 4 = 5 + L + body.length by omega]
    exact this
theorem rtake_torn {kind : UInt8} {v : Sl} {body p q : List UInt8} (hs : Sat H S R) (hv : RdB S v p) (hp : parcelB kind body = p ++ q) (hq : q ≠ []) (h0 : kind ≠ 0) (hb : body.length ≤ 65536)
    {K : Value → Heap → Prop} (hk : ∀ H', Sat H' S R → K (.tuple #[.int .u8 0, .slice none 0 0, .int .i64 0, .int .i64 31]) H') :
    CallsH Tryz.prog 151 #[.slice v.a v.l v.c] H K := by
  apply vc151
  have hl := RdB.len hv
  have hn10 := natB_le (n := body.length) (by omega)
  have hpl := congrArg List.length hp
  rw [parcelB_len, List.length_append] at hpl
  have hql : 0 < q.length := List.length_pos_iff.2 hq
  refine CondP.of (fun hc => hk H hs) (fun hc => ⟨⟨by omega, by simp at hc; omega⟩, ?_⟩)
  have hc : 0 < p.length := by simp at hc; omega
  obtain ⟨k', p', rfl⟩ : ∃ k' p', p = k' :: p' := by
    cases p with
    | nil => simp at hc
    | cons a p => exact ⟨a, p, rfl⟩
  have hx : parcelB kind body = kind :: (natB body.length ++ (body ++ sumB (parcelH kind body))) := by simp [parcelB, parcelH, textB]
  rw [hx] at hp
  obtain ⟨rfl, hp'⟩ := List.cons.inj hp
  obtain ⟨gb, go, ga, gc⟩ := hv.get hs (k := 0) (c := kind) rfl
  refine NilP.of ga ⟨(kind.toNat : Int), by simpa using gc, CondP.of (fun hc => ?_) (fun _ => ?_)⟩
  · exfalso; apply h0
    have : kind.toNat = 0 := by simpa using hc
    exact UInt8.toNat_inj.1 this
  have hp'l : p'.length < 1000000 := by simp only [List.length_cons] at hpl; omega
  refine ropen_loop hs hv (by omega) (fun _ => hk H hs) (fun hop => ⟨⟨by omega, by omega⟩, ?_⟩)
  have hv1 := hv.drop (k := 1) (by omega)
  rw [List.drop_one, List.tail_cons] at hv1
  obtain ⟨r, hr, hrl⟩ : ∃ r, p' = natB body.length ++ r ∧ r.length < body.length + 4 := by
    rcases Nat.lt_or_ge p'.length (natB body.length).length with h | h
    · exfalso
      have h1 : natB body.length = p' ++ (natB body.length).drop p'.length := by
        have h2 : (natB body.length).take p'.length = p' := by
          have := congrArg (List.take p'.length) hp'
          rw [List.cons_append] at hp
          rw [List.take_append_of_le_length (by omega)] at this
          rw [this]; exact List.take_left
        conv => lhs; rw [← List.take_append_drop p'.length (natB body.length), h2]
      have := openB_begin (n := body.length) (by omega) h1 (by intro e; have := congrArg List.length e; rw [List.length_drop, List.length_nil] at this; omega)
      rw [this] at hop; cases hop
    · refine ⟨p'.drop (natB body.length).length, ?_, ?_⟩
      · have h2 : p'.take (natB body.length).length = natB body.length := by
          have := congrArg (List.take (natB body.length).length) hp'
          rw [List.take_left, show List.append p' q = p' ++ q from rfl, List.take_append_of_le_length h] at this
          exact this.symm
        conv => lhs; rw [← List.take_append_drop (natB body.length).length p', h2]
      · rw [List.length_drop]; simp only [List.length_cons] at hpl; omega
  subst hr
  intro b3 h2 f2
  have hs2 : Sat h2 S (rdr2 b3 ⟨subA v.a 1 v.c 1, v.l - 1, v.c - 1⟩ false :: R) := hs.fresh f2
  refine rn_spec (most := 18446744073709551615) (n := body.length) hs2 hv1 (by omega) (by omega) (by omega) fun v2 h3 hv2 hs3 => ⟨_, rfl, _, hs3.cell 1 rfl, CondP.of (fun hc => by cases hc) fun _ => CondP.of (fun hc => by simp at hc; omega) fun _ => ⟨v2, hs3.cell 0 rfl, CondP.of (fun _ => hk h3 hs3.drop) (fun hc => ?_)⟩⟩
  exfalso
  have hl2 := RdB.len hv2
  rw [i64_nat (i := body.length) (by omega), show IntKind.i64.wrap ((body.length : Int) + 4) = ((body.length + 4 : Nat) : Int) from i64_add (j := 4) (by omega)] at hc
  simp at hc; omega
end
end Go.Sx.Tryz
namespace Go.Sx.Tryz
open Go Go.Sx Go.Proofs
set_option maxRecDepth 100000
set_option linter.unusedVariables false
noncomputable def c100 : Code := (Tryz.f100.body).getD .skip
def a100 : Ann := (.seq .leaf (.seq .leaf (.seq (.seq .leaf (.inn (.range [.one (.i .i64)] false [] .leaf (.inn .leaf)))) (.seq (.seq .leaf (.br (.seq .leaf .leaf) .leaf)) (.seq .leaf (.seq .leaf .leaf))))))
theorem ok100 : okC tab 30 true c100 a100 = true := by kernel_rfl
theorem vc100 (b_ : Sl) (h : Heap) (R : Value → Heap → Prop)
  (hv : ∀ b1 h1, Fresh h (.cells #[.int .i64 0] 3) b1 h1 →
   CanSt h1 b1 0 [.int .i64 0] ∧ ∀ h2, Stored h1 b1 0 [.int .i64 0] h2 →
   CallsH Tryz.prog 145 #[.slice b_.a b_.l b_.c] h2 (fun r1 h3 => ∃ v1 : Value, r1 = v1 ∧
   ∃ g1 cap1, v1 = .func (.func g1) #[] cap1 ∧ Callable Tryz.prog g1 ∧ ∀ D1 l1 rc1 h4, LoopStart h3 D1 l1 rc1 h4 →
   (∀ n1 : Int, ∀ (h5 : Heap) (R1 : Value → Heap → Prop), h5[l1]? = some (rc1 .ready none) →
   (h5[l1]? = some (rc1 .ready none) ∧
   CanSt (setB h5 l1 (rc1 .busy none)) b1 0 [.int .i64 n1] ∧ ∀ h6, Stored (setB h5 l1 (rc1 .busy none)) b1 0 [.int .i64 n1] h6 →
   h6[l1]? = some (rc1 .busy none) ∧ R1 (.bool true) (setB h6 l1 (rc1 .ready none))) → CallV Tryz.prog (.func (.yield l1) #[] #[]) [.int .i64 n1] h5 R1) →
   CallsH Tryz.prog g1 (.func (.yield l1) #[] #[] :: cap1.toList).toArray h4 (fun _ h7 =>
   (h7[l1]? = some (rc1 .ready none) ∧ ∃ n2 : Int, cellH (setB h7 l1 (rc1 .exhausted none)) b1 0 = some (.int .i64 n2) ∧
   CondP ((n2 : Int) == ((b_.l : Nat) : Int)) (
   ∃ n3 : Int, cellH (setB h7 l1 (rc1 .exhausted none)) b1 0 = some (.int .i64 n3) ∧
   (setB h7 l1 (rc1 .exhausted none))[D1]? = some (.deferred (some [])) ∧
   R (.tuple #[.int .i64 n3, .int .i64 0]) (setB (setB h7 l1 (rc1 .exhausted none)) D1 (.deferred none))) (
   ∃ n4 : Int, cellH (setB h7 l1 (rc1 .exhausted none)) b1 0 = some (.int .i64 n4) ∧
   ((0 : Int) ≤ n4 ∧ n4 ≤ ((b_.l : Nat) : Int)) ∧
   CallsH Tryz.prog 96 #[.slice (subA b_.a n4.toNat b_.c 1) (b_.l - n4.toNat) (b_.c - n4.toNat)] (setB h7 l1 (rc1 .exhausted none)) (fun r2 h8 => ∃ n5 : Int, ∃ x1 : Sl, ∃ n6 : Int, ∃ n7 : Int, r2 = .tuple #[.int .u8 n5, .slice x1.a x1.l x1.c, .int .i64 n6, .int .i64 n7] ∧
   ∃ n8 : Int, cellH h8 b1 0 = some (.int .i64 n8) ∧
   h8[D1]? = some (.deferred (some [])) ∧
   R (.tuple #[.int .i64 n8, .int .i64 n7]) (setB h8 D1 (.deferred none)))))))) :
  CallsH Tryz.prog 100 #[.slice b_.a b_.l b_.c] h R :=
  calls_of_vc tabOk mixed Tryz.func100 (c := c100) (by kernel_rfl) (n := 30) rfl (rs := [.tmp 2, .tmp 3]) (by kernel_rfl) ok100 (args := [.slice b_.a b_.l b_.c]) (Nat.le_of_ble_eq_true rfl) (Eq.mpr (by kernel_rfl) hv)
end Go.Sx.Tryz
namespace Go.Sx.Tryz
open Go Go.Sx Go.Proofs
set_option maxRecDepth 100000
set_option linter.unusedVariables false
noncomputable def c130 : Code := (Tryz.f130.body).getD .skip
def a130 : Ann := (.seq .leaf (.seq .leaf .leaf))
theorem ok130 : okC tab 4 true c130 a130 = true := by kernel_rfl
theorem vc130 (b_ : Sl) (h : Heap) (R : Value → Heap → Prop)
  (hv : ∀ b1 h1, Fresh h (.cells #[.slice b_.a b_.l b_.c] 33) b1 h1 →
   R (.func (.func 166) #[] #[.pointer (some ⟨b1, 0, none⟩)]) h1) :
  CallsH Tryz.prog 130 #[.slice b_.a b_.l b_.c] h R :=
  calls_of_vc tabOk mixed Tryz.func130 (c := c130) (by kernel_rfl) (n := 4) rfl (rs := [.tmp 2]) (by kernel_rfl) ok130 (args := [.slice b_.a b_.l b_.c]) (Nat.le_of_ble_eq_true rfl) (Eq.mpr (by kernel_rfl) hv)
end Go.Sx.Tryz
namespace Go.Sx.Tryz
open Go Go.Sx Go.Proofs
set_option maxRecDepth 100000
set_option linter.unusedVariables false
noncomputable def c145 : Code := (Tryz.f145.body).getD .skip
def a145 : Ann := (.seq .leaf (.seq .leaf .leaf))
theorem ok145 : okC tab 4 true c145 a145 = true := by kernel_rfl
theorem vc145 (b_ : Sl) (h : Heap) (R : Value → Heap → Prop)
  (hv : ∀ b1 h1, Fresh h (.cells #[.slice b_.a b_.l b_.c] 33) b1 h1 →
   R (.func (.func 172) #[] #[.pointer (some ⟨b1, 0, none⟩)]) h1) :
  CallsH Tryz.prog 145 #[.slice b_.a b_.l b_.c] h R :=
  calls_of_vc tabOk mixed Tryz.func145 (c := c145) (by kernel_rfl) (n := 4) rfl (rs := [.tmp 2]) (by kernel_rfl) ok145 (args := [.slice b_.a b_.l b_.c]) (Nat.le_of_ble_eq_true rfl) (Eq.mpr (by kernel_rfl) hv)
end Go.Sx.Tryz
namespace Go.Sx.Tryz
open Go Go.Sx Go.Proofs
set_option maxRecDepth 100000
set_option linter.unusedVariables false
noncomputable def c166 : Code := (Tryz.f166.body).getD .skip
def a166 : Ann := (.seq .leaf (.inn (.loop [(3, .one (.sl))] (.inn (.seq .leaf (.seq (.seq .leaf (.br .leaf .leaf)) .leaf))))))
theorem ok166 : okC tab 28 true c166 a166 = true := by kernel_rfl
theorem vc166 (yield_ : Value) (c0_b c0_o : Nat) (h : Heap) (R : Value → Heap → Prop)
  (hv : ∃ x1 : Sl, cellH h c0_b c0_o = some (.slice x1.a x1.l x1.c) ∧
   ∃ (I1 : Sl → Heap → Prop) (mu1 : Sl → Heap → Nat), I1 x1 h ∧ (∀ x2 : Sl, ∀ h1, I1 x2 h1 → ∀ _ : Env,
   CallsH Tryz.prog 96 #[.slice x2.a x2.l x2.c] h1 (fun r1 h2 => ∃ n1 : Int, ∃ x3 : Sl, ∃ n2 : Int, ∃ n3 : Int, r1 = .tuple #[.int .u8 n1, .slice x3.a x3.l x3.c, .int .i64 n2, .int .i64 n3] ∧
   CondP ((n3 : Int) != 0) (
   R (.tuple #[]) h2) (
   CallV Tryz.prog yield_ [.int .u8 n1, .slice x3.a x3.l x3.c] h2 (fun r2 h3 => ∃ t1 : Bool, r2 = .bool t1 ∧
   CondP (!t1) (
   R (.tuple #[]) h3) (
   ((0 : Int) ≤ n2 ∧ n2 ≤ ((x2.l : Nat) : Int)) ∧
   I1 ⟨subA x2.a n2.toNat x2.c 1, x2.l - n2.toNat, x2.c - n2.toNat⟩ h3 ∧ mu1 ⟨subA x2.a n2.toNat x2.c 1, x2.l - n2.toNat, x2.c - n2.toNat⟩ h3 < mu1 x2 h1)))))) :
  CallsH Tryz.prog 166 #[yield_, .pointer (some ⟨c0_b, c0_o, none⟩)] h R :=
  calls_of_vc tabOk mixed Tryz.func166 (c := c166) (by kernel_rfl) (n := 28) rfl (rs := []) (by kernel_rfl) ok166 (args := [yield_, .pointer (some ⟨c0_b, c0_o, none⟩)]) (Nat.le_of_ble_eq_true rfl) (Eq.mpr (by kernel_rfl) hv)
end Go.Sx.Tryz
namespace Go.Sx.Tryz
open Go Go.Sx Go.Proofs
set_option maxRecDepth 100000
set_option linter.unusedVariables false
noncomputable def c172 : Code := (Tryz.f172.body).getD .skip
def a172 : Ann := (.seq .leaf (.inn (.loop [(3, .one (.i .i64))] (.inn (.seq .leaf (.seq .leaf (.seq .leaf (.br .leaf .leaf))))))))
theorem ok172 : okC tab 28 true c172 a172 = true := by kernel_rfl
theorem vc172 (yield_ : Value) (c0_b c0_o : Nat) (h : Heap) (R : Value → Heap → Prop)
  (hv : ∃ (I1 : Int → Heap → Prop) (mu1 : Int → Heap → Nat), I1 0 h ∧ (∀ n1 : Int, ∀ h1, I1 n1 h1 → ∀ _ : Env,
   ∃ x1 : Sl, cellH h1 c0_b c0_o = some (.slice x1.a x1.l x1.c) ∧
   ((0 : Int) ≤ n1 ∧ n1 ≤ ((x1.l : Nat) : Int)) ∧
   CallsH Tryz.prog 96 #[.slice (subA x1.a n1.toNat x1.c 1) (x1.l - n1.toNat) (x1.c - n1.toNat)] h1 (fun r1 h2 => ∃ n2 : Int, ∃ x2 : Sl, ∃ n3 : Int, ∃ n4 : Int, r1 = .tuple #[.int .u8 n2, .slice x2.a x2.l x2.c, .int .i64 n3, .int .i64 n4] ∧
   CondP ((n4 : Int) != 0) (
   R (.tuple #[]) h2) (
   CallV Tryz.prog yield_ [.int .i64 (IntKind.i64.wrap (n1 + n3))] h2 (fun r2 h3 => ∃ t1 : Bool, r2 = .bool t1 ∧
   CondP (!t1) (
   R (.tuple #[]) h3) (
   I1 (IntKind.i64.wrap (n1 + n3)) h3 ∧ mu1 (IntKind.i64.wrap (n1 + n3)) h3 < mu1 n1 h1)))))) :
  CallsH Tryz.prog 172 #[yield_, .pointer (some ⟨c0_b, c0_o, none⟩)] h R :=
  calls_of_vc tabOk mixed Tryz.func172 (c := c172) (by kernel_rfl) (n := 28) rfl (rs := []) (by kernel_rfl) ok172 (args := [yield_, .pointer (some ⟨c0_b, c0_o, none⟩)]) (Nat.le_of_ble_eq_true rfl) (Eq.mpr (by kernel_rfl) hv)
end Go.Sx.Tryz
namespace Go.Sx.Tryz
open Go Go.Sx Go.Proofs
set_option linter.unusedVariables false
abbrev Par := UInt8 × List UInt8
def pbs (ps : List Par) : List UInt8 := ps.flatMap fun p => parcelB p.1 p.2
def Pok (p : Par) : Prop := p.1 ≠ 0 ∧ p.2.length ≤ 65536
def Tail (t : List UInt8) : Prop := ∃ kind body q, kind ≠ 0 ∧ body.length ≤ 65536 ∧ parcelB kind body = t ++ q ∧ q ≠ []
theorem Tail.nil : Tail [] := ⟨1, [], parcelB 1 [], by decide, by simp, rfl, by intro h; have := congrArg List.length h; rw [parcelB_len] at this; simp at this⟩
def off (ps : List Par) (i : Nat) : Nat := (pbs (ps.take i)).length
theorem pbs_append (a b : List Par) : pbs (a ++ b) = pbs a ++ pbs b := by simp [pbs]
theorem pbs_cons (p : Par) (b : List Par) : pbs (p :: b) = parcelB p.1 p.2 ++ pbs b := by simp [pbs]
theorem off_succ {ps : List Par} {i : Nat} (h : i < ps.length) : off ps (i + 1) = off ps i + (parcelB ps[i].1 ps[i].2).length := by
  rw [off, List.take_succ_eq_append_getElem h, pbs_append, List.length_append]; simp [off, pbs]
theorem off_le {ps : List Par} {i : Nat} : off ps i ≤ (pbs ps).length := by
  conv => rhs; rw [← List.take_append_drop i ps, pbs_append, List.length_append]
  exact Nat.le_add_right _ _
theorem off_len (ps : List Par) : off ps ps.length = (pbs ps).length := by rw [off, List.take_length]
theorem off_drop (ps : List Par) (t : List UInt8) (i : Nat) : (pbs ps ++ t).drop (off ps i) = pbs (ps.drop i) ++ t := by
  conv => lhs; rw [← List.take_append_drop i ps, pbs_append, List.append_assoc, off]
  rw [List.take_append_drop, List.drop_left]
theorem drop_cons {ps : List Par} {i : Nat} (h : i < ps.length) : pbs (ps.drop i) = parcelB ps[i].1 ps[i].2 ++ pbs (ps.drop (i + 1)) := by
  rw [List.drop_eq_getElem_cons h, pbs_cons]
theorem ends1_spec {H : Heap} {S : PH} {cb : Nat} {v : Sl} {ps : List Par} {t : List UInt8} {y : Value} {G : Nat → List Asn} (hs : Sat H S (lst cb 33 [.slice v.a v.l v.c] :: G 0)) (hv : RdB S v (pbs ps ++ t)) (hps : ∀ p ∈ ps, Pok p) (ht : Tail t) (hlen : v.l < 1000000000)
    (hy : ∀ i, i < ps.length → ∀ S' h (K : Value → Heap → Prop), PH.le S S' → Sat h S' (lst cb 33 [.slice v.a v.l v.c] :: G i) → (∀ h' S'', PH.le S' S'' → Sat h' S'' (lst cb 33 [.slice v.a v.l v.c] :: G (i + 1)) → K (.bool true) h') → CallV Tryz.prog y [.int .i64 (off ps (i + 1) : Int)] h K)
    {K : Value → Heap → Prop} (hk : ∀ h' S', PH.le S S' → Sat h' S' (lst cb 33 [.slice v.a v.l v.c] :: G ps.length) → K (.tuple #[]) h') : CallsH Tryz.prog 172 #[y, .pointer (some ⟨cb, 0, none⟩)] H K := by
  apply vc172
  have hl := RdB.len hv
  rw [List.length_append] at hl
  refine ⟨fun n1 h => ∃ i, i ≤ ps.length ∧ n1 = (off ps i : Int) ∧ ∃ S', PH.le S S' ∧ Sat h S' (lst cb 33 [.slice v.a v.l v.c] :: G i), fun n1 _ => (pbs ps).length - n1.toNat, ⟨0, Nat.zero_le _, rfl, S, PH.le.refl _, hs⟩, ?_⟩
  rintro n1 h1 ⟨i, hi, rfl, S1, hS1, hs1⟩ _
  have ho := off_le (ps := ps) (i := i)
  refine ⟨v, hs1.cell 0 rfl, ⟨by omega, by omega⟩, ?_⟩
  simp only [Int.toNat_natCast]
  have hv1 := (hv.mono hS1).drop (k := off ps i) (by omega)
  rw [off_drop] at hv1
  rcases Nat.lt_or_ge i ps.length with hlt | hge
  · rw [drop_cons hlt, List.append_assoc] at hv1
    have hp := hps ps[i] (List.getElem_mem hlt)
    have hos := off_succ hlt
    have ho2 := off_le (ps := ps) (i := i + 1)
    refine take_ok (v := ⟨subA v.a (off ps i) v.c 1, v.l - off ps i, v.c - off ps i⟩) hs1 hv1 hp.1 hp.2 (by have := RdB.len hv1; rw [List.length_append] at this; simp only at this; omega) fun v' h2 S2 hS2 hv2 hs2 => ⟨_, v', _, _, rfl, CondP.of (fun hc => by simp at hc) fun _ => ?_⟩
    rw [i64_add (by omega), ← hos]
    refine hy i hlt S2 h2 _ (hS1.trans hS2) hs2 fun h3 S3 hS3 hs3 => ⟨true, rfl, CondP.of (fun hc => by cases hc) fun _ => ⟨⟨i + 1, hlt, rfl, S3, (hS1.trans hS2).trans hS3, hs3⟩, ?_⟩⟩
    show (pbs ps).length - off ps (i + 1) < (pbs ps).length - off ps i
    have := parcelB_len ps[i].1 ps[i].2
    omega
  · have hi : i = ps.length := by omega
    subst hi
    rw [List.drop_length] at hv1
    obtain ⟨kind, body, q, t1, t2, t3, t4⟩ := ht
    refine take_torn (v := ⟨subA v.a (off ps ps.length) v.c 1, v.l - off ps ps.length, v.c - off ps ps.length⟩) hs1 hv1 t3 t4 t1 t2 fun h2 hs2 => ⟨_, ⟨none, 0, 0⟩, _, _, rfl, CondP.of (fun _ => hk h2 S1 hS1 hs2) fun hc => by simp at hc⟩
theorem each1_spec {α : Type} {F : Nat → α → PH → Prop} (hF : ∀ i x S S', PH.le S S' → F i x S → F i x S') {H : Heap} {S : PH} {cb : Nat} {v : Sl} {ps : List Par} {t : List UInt8} {y : Value} {G : Nat → α → List Asn} {x0 : α} (hs : Sat H S (lst cb 33 [.slice v.a v.l v.c] :: G 0 x0)) (hx0 : F 0 x0 S) (hv : RdB S v (pbs ps ++ t)) (hps : ∀ p ∈ ps, Pok p) (ht : Tail t) (hlen : v.l < 1000000000)
    (hy : ∀ i (hi : i < ps.length), ∀ S' h v' x (K : Value → Heap → Prop), PH.le S S' → RdB S' v' (ps[i]).2 → F i x S' → Sat h S' (lst cb 33 [.slice v.a v.l v.c] :: G i x) → (∀ h' S'' x', PH.le S' S'' → F (i + 1) x' S'' → Sat h' S'' (lst cb 33 [.slice v.a v.l v.c] :: G (i + 1) x') → K (.bool true) h') → CallV Tryz.prog y [.int .u8 ((ps[i]).1.toNat : Int), .slice v'.a v'.l v'.c] h K)
    {K : Value → Heap → Prop} (hk : ∀ h' S' x, PH.le S S' → F ps.length x S' → Sat h' S' (lst cb 33 [.slice v.a v.l v.c] :: G ps.length x) → K (.tuple #[]) h') : CallsH Tryz.prog 166 #[y, .pointer (some ⟨cb, 0, none⟩)] H K := by
  apply vc166
  refine ⟨v, hs.cell 0 rfl, ?_⟩
  have hl := RdB.len hv
  rw [List.length_append] at hl
  refine ⟨fun x h => ∃ i, i ≤ ps.length ∧ ∃ S' z, PH.le S S' ∧ F i z S' ∧ RdB S' x (pbs (ps.drop i) ++ t) ∧ x.l ≤ v.l ∧ Sat h S' (lst cb 33 [.slice v.a v.l v.c] :: G i z), fun x _ => x.l, ⟨0, Nat.zero_le _, S, x0, PH.le.refl _, hx0, by simpa using hv, Nat.le_refl _, hs⟩, ?_⟩
  rintro x h1 ⟨i, hi, S1, z, hS1, hz, hv1, hxl, hs1⟩ _
  rcases Nat.lt_or_ge i ps.length with hlt | hge
  · rw [drop_cons hlt, List.append_assoc] at hv1
    have hp := hps ps[i] (List.getElem_mem hlt)
    have hl1 := RdB.len hv1
    rw [List.length_append] at hl1
    have h5 := parcelB_len ps[i].1 ps[i].2
    refine take_ok hs1 hv1 hp.1 hp.2 (by omega) fun v' h2 S2 hS2 hv2 hs2 => ⟨_, v', _, _, rfl, CondP.of (fun hc => by simp at hc) fun _ => ?_⟩
    refine hy i hlt S2 h2 v' z _ (hS1.trans hS2) hv2 (hF _ _ _ _ hS2 hz) hs2 fun h3 S3 z3 hS3 hz3 hs3 => ⟨true, rfl, CondP.of (fun hc => by cases hc) fun _ => ⟨⟨by omega, by omega⟩, ?_⟩⟩
    simp only [Int.toNat_natCast]
    have hv3 := (hv1.mono (hS2.trans hS3)).drop (k := (parcelB ps[i].1 ps[i].2).length) (by omega)
    rw [List.drop_left] at hv3
    refine ⟨⟨i + 1, hlt, S3, z3, (hS1.trans hS2).trans hS3, hz3, hv3, ?_, hs3⟩, ?_⟩
    · show x.l - _ ≤ v.l; omega
    · show x.l - _ < x.l; omega
  · have hi : i = ps.length := by omega
    subst hi
    rw [List.drop_length] at hv1
    obtain ⟨kind, body, q, t1, t2, t3, t4⟩ := ht
    refine take_torn hs1 hv1 t3 t4 t1 t2 fun h2 hs2 => ⟨_, ⟨none, 0, 0⟩, _, _, rfl, CondP.of (fun _ => hk h2 S1 z hS1 hz hs2) fun hc => by simp at hc⟩
theorem end_spec {H : Heap} {S : PH} {R : List Asn} {v : Sl} {ps : List Par} {t : List UInt8} (hs : Sat H S R) (hv : RdB S v (pbs ps ++ t)) (hps : ∀ p ∈ ps, Pok p) (ht : Tail t) (hlen : v.l < 1000000000)
    {K : Value → Heap → Prop} (hk : ∀ h' S', PH.le S S' → Sat h' S' R → K (.tuple #[.int .i64 ((pbs ps).length : Int), .int .i64 (if t = [] then 0 else 31)]) h') : CallsH Tryz.prog 100 #[.slice v.a v.l v.c] H K := by
  apply vc100
  intro b1 h1 hf
  have hs1 : Sat h1 S (lst b1 3 [.int .i64 0] :: R) := hs.fresh hf
  refine hs1.store (Nat.le_refl _) fun h2 hs2 => ?_
  have hs2 : Sat h2 S (lst b1 3 [.int .i64 0] :: R) := hs2
  apply vc145
  intro b2 h3 hf3
  have hs3 : Sat h3 S (lst b2 33 [.slice v.a v.l v.c] :: lst b1 3 [.int .i64 0] :: R) := hs2.fresh hf3
  refine ⟨_, rfl, 172, _, rfl, call172, fun D l rc h4 hL hround => ?_⟩
  have hs4 := hL.sat hs3
  have hl := RdB.len hv
  rw [List.length_append] at hl
  refine ends1_spec (G := fun i => lst b1 3 [.int .i64 (off ps i : Int)] :: blk l (rc .ready none) :: blk D (.deferred (some [])) :: R) (hs4.sel [2, 2]) hv hps ht hlen (fun i hi S' h K hS hs hK => ?_) (fun h7 S7 hS7 hs7 => ?_)
  · have hl1 := Sat.blk (hs.pick 2 rfl)
    refine hround _ h K hl1 ⟨hl1, ?_⟩
    have hb := (hs.pick 2 rfl).setB (o' := rc .busy none)
    refine (hb.pick 2 rfl).store (Nat.le_refl _) fun h6 hs6 => ?_
    have hs6' := hs6.pick 1 rfl
    exact ⟨Sat.blk hs6', hK _ S' (PH.le.refl _) ((hs6'.setB (o' := rc .ready none)).sel [2, 1])⟩
  · have hs8 := (hs7.pick 2 rfl).setB (o' := rc .exhausted none)
    have hs9 : Sat _ S7 (lst b1 3 [.int .i64 (off ps ps.length : Int)] :: blk D (.deferred (some [])) :: R) := (hs8.sel [2, 2]).del 2 |>.del 2
    rw [off_len] at hs9
    refine ⟨Sat.blk (hs7.pick 2 rfl), _, hs9.cell 0 rfl, CondP.of (fun hc => ?_) (fun hc => ?_)⟩
    · have ht0 : t = [] := by
        have : (pbs ps).length = v.l := by simp at hc; omega
        exact List.eq_nil_of_length_eq_zero (by omega)
      have hD := (hs9.pick 1 rfl)
      refine ⟨_, hs9.cell 0 rfl, Sat.blk hD, ?_⟩
      have := hk _ S7 hS7 ((hD.setB (o' := .deferred none)).del 0 |>.del 0)
      rw [if_pos ht0] at this
      exact this
    · have ht0 : t ≠ [] := by
        rintro rfl
        have : ¬ (pbs ps).length = v.l := by
          intro h; rw [h] at hc; simp at hc
        simp at hl; omega
      refine ⟨_, hs9.cell 0 rfl, ⟨by omega, by omega⟩, ?_⟩
      simp only [Int.toNat_natCast]
      have hv1 := (hv.mono hS7).drop (k := (pbs ps).length) (by omega)
      rw [List.drop_left] at hv1
      obtain ⟨kind, body, q, t1, t2, t3, t4⟩ := ht
      refine take_torn (v := ⟨subA v.a (pbs ps).length v.c 1, v.l - (pbs ps).length, v.c - (pbs ps).length⟩) hs9 hv1 t3 t4 t1 t2 fun h8 hs10 => ⟨_, ⟨none, 0, 0⟩, _, _, rfl, _, hs10.cell 0 rfl, ?_⟩
      have hD := (hs10.pick 1 rfl)
      refine ⟨Sat.blk hD, ?_⟩
      have := hk _ S7 hS7 ((hD.setB (o' := .deferred none)).del 0 |>.del 0)
      rw [if_neg ht0] at this
      exact this
end Go.Sx.Tryz
namespace Go.Sx.Tryz
open Go Go.Sx Go.Proofs
set_option maxRecDepth 100000
set_option linter.unusedVariables false
noncomputable def c97 : Code := (Tryz.f97.body).getD .skip
def a97 : Ann := (.seq .leaf (.seq .leaf (.seq .leaf (.seq (.reg (.q 0 (.q 1 (.q 2 (.q 3 (.q 4 (.m 5 (.q 6 (.q 7 (.m 8 (.q 9 (.fin)) (.nil)))) (.nil)))))))) .leaf))))
theorem ok97 : okC tab 26 true c97 a97 = true := by kernel_rfl
theorem vc97 (kind_ : Int) (body_ : Sl) (h : Heap) (R : Value → Heap → Prop)
  (hv : ∀ b1 h1, Fresh h (.cells #[.int .u64 0, .bool false, .int .u64 0, .int .u64 0] 103) b1 h1 →
   CallsH Tryz.prog 135 #[.slice body_.a body_.l body_.c] h1 (fun r1 h2 => ∃ p1 : Option Addr, r1 = .pointer p1 ∧
   CallsH Tryz.prog 136 #[.pointer p1, .int .u64 4611686018427387904] h2 (fun r2 h3 => ∃ n1 : Int, r2 = .int .u64 n1 ∧
   CallsH Tryz.prog 140 #[.pointer p1] h3 (fun r3 h4 => ∃ t1 : Bool, r3 = .bool t1 ∧
   CallsH Tryz.prog 136 #[.pointer p1, .int .u64 4611686018427387904] h4 (fun r4 h5 => ∃ n2 : Int, r4 = .int .u64 n2 ∧
   CallsH Tryz.prog 136 #[.pointer p1, .int .u64 4611686018427387904] h5 (fun r5 h6 => ∃ n3 : Int, r5 = .int .u64 n3 ∧
   CanSt h6 b1 0 [.int .u64 n1, .bool t1, .int .u64 n2, .int .u64 n3] ∧ ∀ h7, Stored h6 b1 0 [.int .u64 n1, .bool t1, .int .u64 n2, .int .u64 n3] h7 →
   ∃ n4 : Int, ∃ t2 : Bool, ∃ n5 : Int, ∃ n6 : Int, CellsAt h7 b1 0 [.int .u64 n4, .bool t2, .int .u64 n5, .int .u64 n6] ∧
   CondP ((kind_ : Int) == 1) (
   CallsH Tryz.prog 141 #[.pointer p1] h7 (fun r6 h8 => ∃ n7 : Int, r6 = .int .i64 n7 ∧
   CellsAt h8 b1 0 [.int .u64 n4, .bool t2, .int .u64 n5, .int .u64 n6] ∧
   CanSt h8 b1 0 [.int .u64 n4, .bool t2, .int .u64 n5, .int .u64 n6] ∧ ∀ h9, Stored h8 b1 0 [.int .u64 n4, .bool t2, .int .u64 n5, .int .u64 n6] h9 →
   ∃ n8 : Int, ∃ t3 : Bool, ∃ n9 : Int, ∃ n10 : Int, CellsAt h9 b1 0 [.int .u64 n8, .bool t3, .int .u64 n9, .int .u64 n10] ∧
   R (.tuple #[.agg #[.int .u64 n8, .bool t3, .int .u64 n9, .int .u64 n10], .bool ((n7 : Int) == 0)]) h9)) (
   CanSt h7 b1 0 [.int .u64 n4, .bool t2, .int .u64 n5, .int .u64 n6] ∧ ∀ h10, Stored h7 b1 0 [.int .u64 n4, .bool t2, .int .u64 n5, .int .u64 n6] h10 →
   ∃ n11 : Int, ∃ t4 : Bool, ∃ n12 : Int, ∃ n13 : Int, CellsAt h10 b1 0 [.int .u64 n11, .bool t4, .int .u64 n12, .int .u64 n13] ∧
   R (.tuple #[.agg #[.int .u64 n11, .bool t4, .int .u64 n12, .int .u64 n13], .bool false]) h10))))))) :
  CallsH Tryz.prog 97 #[.int .u8 kind_, .slice body_.a body_.l body_.c] h R :=
  calls_of_vc tabOk mixed Tryz.func97 (c := c97) (by kernel_rfl) (n := 26) rfl (rs := [.cell 4 103, .tmp 5]) (by kernel_rfl) ok97 (args := [.int .u8 kind_, .slice body_.a body_.l body_.c]) (Nat.le_of_ble_eq_true rfl) (Eq.mpr (by kernel_rfl) hv)
end Go.Sx.Tryz
namespace Go.Sx.Tryz
open Go Go.Sx Go.Proofs
set_option maxRecDepth 100000
set_option linter.unusedVariables false
noncomputable def c39 : Code := (Tryz.f39.body).getD .skip
def a39 : Ann := (.seq .leaf (.seq .leaf (.seq (.seq .leaf (.br (.seq .leaf .leaf) .leaf)) (.seq .leaf .leaf))))
theorem ok39 : okC tab 23 true c39 a39 = true := by kernel_rfl
theorem vc39 (b_ : Sl) (h : Heap) (R : Value → Heap → Prop)
  (hv : ∀ b1 h1, Fresh h (.cells #[.int .u64 0, .bool false, .int .u64 0, .int .u64 0] 103) b1 h1 →
   CallsH Tryz.prog 96 #[.slice b_.a b_.l b_.c] h1 (fun r1 h2 => ∃ n1 : Int, ∃ x1 : Sl, ∃ n2 : Int, ∃ n3 : Int, r1 = .tuple #[.int .u8 n1, .slice x1.a x1.l x1.c, .int .i64 n2, .int .i64 n3] ∧
   CondP ((n3 : Int) != 0) (
   CanSt h2 b1 0 [.int .u64 0, .bool false, .int .u64 0, .int .u64 0] ∧ ∀ h3, Stored h2 b1 0 [.int .u64 0, .bool false, .int .u64 0, .int .u64 0] h3 →
   ∃ n4 : Int, ∃ t1 : Bool, ∃ n5 : Int, ∃ n6 : Int, CellsAt h3 b1 0 [.int .u64 n4, .bool t1, .int .u64 n5, .int .u64 n6] ∧
   R (.tuple #[.agg #[.int .u64 n4, .bool t1, .int .u64 n5, .int .u64 n6], .bool false]) h3) (
   CallsH Tryz.prog 97 #[.int .u8 n1, .slice x1.a x1.l x1.c] h2 (fun r2 h4 => ∃ n7 : Int, ∃ t2 : Bool, ∃ n8 : Int, ∃ n9 : Int, ∃ t3 : Bool, r2 = .tuple #[.agg #[.int .u64 n7, .bool t2, .int .u64 n8, .int .u64 n9], .bool t3] ∧
   CanSt h4 b1 0 [.int .u64 n7, .bool t2, .int .u64 n8, .int .u64 n9] ∧ ∀ h5, Stored h4 b1 0 [.int .u64 n7, .bool t2, .int .u64 n8, .int .u64 n9] h5 →
   ∃ n10 : Int, ∃ t4 : Bool, ∃ n11 : Int, ∃ n12 : Int, CellsAt h5 b1 0 [.int .u64 n10, .bool t4, .int .u64 n11, .int .u64 n12] ∧
   R (.tuple #[.agg #[.int .u64 n10, .bool t4, .int .u64 n11, .int .u64 n12], .bool t3]) h5)))) :
  CallsH Tryz.prog 39 #[.slice b_.a b_.l b_.c] h R :=
  calls_of_vc tabOk mixed Tryz.func39 (c := c39) (by kernel_rfl) (n := 23) rfl (rs := [.cell 2 103, .tmp 3]) (by kernel_rfl) ok39 (args := [.slice b_.a b_.l b_.c]) (Nat.le_of_ble_eq_true rfl) (Eq.mpr (by kernel_rfl) hv)
end Go.Sx.Tryz
namespace Go.Sx.Tryz
open Go Go.Sx Go.Proofs
set_option maxRecDepth 100000
set_option linter.unusedVariables false
noncomputable def c78 : Code := (Tryz.f78.body).getD .skip
def a78 : Ann := (.seq .leaf (.seq (.seq .leaf (.br (.seq .leaf .leaf) .leaf)) (.seq (.reg (.q 0 (.q 1 (.q 2 (.q 3 (.q 4 (.q 5 (.q 6 (.q 7 (.q 8 (.q 9 (.q 10 (.q 11 (.m 12 (.fin) (.nil))))))))))))))) .leaf)))
theorem ok78 : okC tab 25 true c78 a78 = true := by kernel_rfl
theorem vc78 (g_b g_o : Nat) (h : Heap) (R : Value → Heap → Prop)
  (hv : ∀ b1 h1, Fresh h (.cells #[.int .u64 0, .int .u64 0, .slice none 0 0] 85) b1 h1 →
   ∃ x1 : Sl, cellH h1 g_b (g_o + 3) = some (.slice x1.a x1.l x1.c) ∧
   CondP ((((x1.l : Nat) : Int) : Int) == 0) (
   ∃ n1 : Int, ∃ n2 : Int, ∃ x2 : Sl, CellsAt h1 g_b g_o [.int .u64 n1, .int .u64 n2, .slice x2.a x2.l x2.c] ∧
   CanSt h1 b1 0 [.int .u64 n1, .int .u64 n2, .slice x2.a x2.l x2.c] ∧ ∀ h2, Stored h1 b1 0 [.int .u64 n1, .int .u64 n2, .slice x2.a x2.l x2.c] h2 →
   ∃ n3 : Int, ∃ n4 : Int, ∃ x3 : Sl, CellsAt h2 b1 0 [.int .u64 n3, .int .u64 n4, .slice x3.a x3.l x3.c] ∧
   R (.agg #[.int .u64 n3, .int .u64 n4, .slice x3.a x3.l x3.c]) h2) (
   ∃ x4 : Sl, cellH h1 g_b (g_o + 3) = some (.slice x4.a x4.l x4.c) ∧
   ∃ x5 : Sl, cellH h1 g_b (g_o + 3) = some (.slice x5.a x5.l x5.c) ∧
   ((0 : Int) ≤ IntKind.i64.wrap (((x5.l : Nat) : Int) - 1) ∧ (IntKind.i64.wrap (((x5.l : Nat) : Int) - 1) : Int) < ((x4.l : Nat) : Int)) ∧
   NilP x4.a (fun b2 o1 =>
   ∃ n5 : Int, ∃ n6 : Int, ∃ x6 : Sl, CellsAt h1 b2 (o1 + ((IntKind.i64.wrap (((x5.l : Nat) : Int) - 1)).toNat) * 3) [.int .u64 n5, .int .u64 n6, .slice x6.a x6.l x6.c] ∧
   CanSt h1 b1 0 [.int .u64 n5, .int .u64 n6, .slice x6.a x6.l x6.c] ∧ ∀ h3, Stored h1 b1 0 [.int .u64 n5, .int .u64 n6, .slice x6.a x6.l x6.c] h3 →
   ∃ n7 : Int, ∃ n8 : Int, ∃ x7 : Sl, CellsAt h3 b1 0 [.int .u64 n7, .int .u64 n8, .slice x7.a x7.l x7.c] ∧
   R (.agg #[.int .u64 n7, .int .u64 n8, .slice x7.a x7.l x7.c]) h3))) :
  CallsH Tryz.prog 78 #[.pointer (some ⟨g_b, g_o, none⟩)] h R :=
  calls_of_vc tabOk mixed Tryz.func78 (c := c78) (by kernel_rfl) (n := 25) rfl (rs := [.cell 2 85]) (by kernel_rfl) ok78 (args := [.pointer (some ⟨g_b, g_o, none⟩)]) (Nat.le_of_ble_eq_true rfl) (Eq.mpr (by kernel_rfl) hv)
end Go.Sx.Tryz
namespace Go.Sx.Tryz
open Go Go.Sx Go.Proofs
set_option maxRecDepth 100000
set_option linter.unusedVariables false
noncomputable def c88 : Code := (Tryz.f88.body).getD .skip
def a88 : Ann := (.seq .leaf (.seq .leaf .leaf))
theorem ok88 : okC tab 20 true c88 a88 = true := by kernel_rfl
theorem vc88 (g_b g_o : Nat) (from_ : Int) (h : Heap) (R : Value → Heap → Prop)
  (hv : ∃ n1 : Int, cellH h g_b g_o = some (.int .u64 n1) ∧
   CondP (decide ((from_ : Int) > n1)) (
   CallsH Tryz.prog 78 #[.pointer (some ⟨g_b, g_o, none⟩)] h (fun r1 h1 => ∃ n2 : Int, ∃ n3 : Int, ∃ x1 : Sl, r1 = .agg #[.int .u64 n2, .int .u64 n3, .slice x1.a x1.l x1.c] ∧
   R (.bool (decide ((IntKind.u64.wrap (from_ - 1) : Int) ≤ n2))) h1)) (
   R (.bool false) h)) :
  CallsH Tryz.prog 88 #[.pointer (some ⟨g_b, g_o, none⟩), .int .u64 from_] h R :=
  calls_of_vc tabOk mixed Tryz.func88 (c := c88) (by kernel_rfl) (n := 20) rfl (rs := [.tmp 4]) (by kernel_rfl) ok88 (args := [.pointer (some ⟨g_b, g_o, none⟩), .int .u64 from_]) (Nat.le_of_ble_eq_true rfl) (Eq.mpr (by kernel_rfl) hv)
end Go.Sx.Tryz
namespace Go.Sx.Tryz
open Go Go.Sx Go.Proofs
set_option maxRecDepth 100000
set_option linter.unusedVariables false
noncomputable def c75 : Code := (Tryz.f75.body).getD .skip
def a75 : Ann := (.seq .leaf (.seq (.seq .leaf (.inn (.loop [(8, .one (.i .i64))] (.seq .leaf (.seq (.br .leaf .leaf) (.seq (.inn (.seq .leaf (.seq .leaf (.br (.seq .leaf .leaf) .leaf)))) .leaf)))))) (.seq .leaf .leaf)))
theorem ok75 : okC tab 19 true c75 a75 = true := by kernel_rfl
theorem vc75 (s_ : Sl) (f_ : Value) (h : Heap) (R : Value → Heap → Prop)
  (hv : ∃ (I1 : Int → Heap → Prop) (mu1 : Int → Heap → Nat), I1 0 h ∧ (∀ n1 : Int, ∀ h1, I1 n1 h1 → ∀ _ : Env,
   CondP (decide ((n1 : Int) < ((s_.l : Nat) : Int))) (
   ((0 : Int) ≤ n1 ∧ (n1 : Int) < ((s_.l : Nat) : Int)) ∧
   NilP s_.a (fun b1 o1 =>
   ∃ n2 : Int, ∃ n3 : Int, ∃ x1 : Sl, CellsAt h1 b1 (o1 + n1.toNat * 3) [.int .u64 n2, .int .u64 n3, .slice x1.a x1.l x1.c] ∧
   CallV Tryz.prog f_ [.agg #[.int .u64 n2, .int .u64 n3, .slice x1.a x1.l x1.c]] h1 (fun r1 h2 => ∃ t1 : Bool, r1 = .bool t1 ∧
   CondP t1 (
   R (.int .i64 n1) h2) (
   I1 (IntKind.i64.wrap (n1 + 1)) h2 ∧ mu1 (IntKind.i64.wrap (n1 + 1)) h2 < mu1 n1 h1)))) (
   R (.int .i64 (-1)) h1))) :
  CallsH Tryz.prog 75 #[.slice s_.a s_.l s_.c, f_] h R :=
  calls_of_vc tabOk mixed Tryz.func75 (c := c75) (by kernel_rfl) (n := 19) rfl (rs := [.tmp 4]) (by kernel_rfl) ok75 (args := [.slice s_.a s_.l s_.c, f_]) (Nat.le_of_ble_eq_true rfl) (Eq.mpr (by kernel_rfl) hv)
end Go.Sx.Tryz
namespace Go.Sx.Tryz
open Go Go.Sx Go.Proofs
set_option maxRecDepth 100000
set_option linter.unusedVariables false
noncomputable def c181 : Code := (Tryz.f181.body).getD .skip
def a181 : Ann := (.seq .leaf (.seq .leaf .leaf))
theorem ok181 : okC tab 15 true c181 a181 = true := by kernel_rfl
theorem vc181 (x_0 : Int) (x_1 : Int) (x_2 : Sl) (c0_b c0_o : Nat) (c1_b c1_o : Nat) (h : Heap) (R : Value → Heap → Prop)
  (hv : ∀ b1 h1, Fresh h (.cells #[.int .u64 x_0, .int .u64 x_1, .slice x_2.a x_2.l x_2.c] 85) b1 h1 →
   ∃ n1 : Int, cellH h1 b1 0 = some (.int .u64 n1) ∧
   ∃ n2 : Int, cellH h1 c0_b c0_o = some (.int .u64 n2) ∧
   CondP ((n1 : Int) == n2) (
   ∃ n3 : Int, cellH h1 b1 1 = some (.int .u64 n3) ∧
   ∃ n4 : Int, cellH h1 c1_b c1_o = some (.int .u64 n4) ∧
   R (.bool ((n3 : Int) == n4)) h1) (
   R (.bool false) h1)) :
  CallsH Tryz.prog 181 #[.agg #[.int .u64 x_0, .int .u64 x_1, .slice x_2.a x_2.l x_2.c], .pointer (some ⟨c0_b, c0_o, none⟩), .pointer (some ⟨c1_b, c1_o, none⟩)] h R :=
  calls_of_vc tabOk mixed Tryz.func181 (c := c181) (by kernel_rfl) (n := 15) rfl (rs := [.tmp 4]) (by kernel_rfl) ok181 (args := [.agg #[.int .u64 x_0, .int .u64 x_1, .slice x_2.a x_2.l x_2.c], .pointer (some ⟨c0_b, c0_o, none⟩), .pointer (some ⟨c1_b, c1_o, none⟩)]) (Nat.le_of_ble_eq_true rfl) (Eq.mpr (by kernel_rfl) hv)
end Go.Sx.Tryz
namespace Go.Sx.Tryz
open Go Go.Sx Go.Proofs
set_option maxRecDepth 100000
set_option linter.unusedVariables false
noncomputable def c89 : Code := (Tryz.f89.body).getD .skip
def a89 : Ann := (.seq .leaf (.seq (.seq .leaf (.br (.seq .leaf .leaf) .leaf)) (.seq .leaf .leaf)))
theorem ok89 : okC tab 8 true c89 a89 = true := by kernel_rfl
theorem vc89 (s_ : Sl) (h : Heap) (R : Value → Heap → Prop)
  (hv : CondP s_.a.isNone (
   R (.slice none 0 0) h) (
   ∀ b1 h1, Fresh h (.cells #[] 85) b1 h1 →
   RunK Tryz.prog (.sl) (Builtin.append_ #[81, 81] 81 #[.slice (some ⟨b1, 0, none⟩) 0 0, .slice s_.a s_.l s_.c]) h1 (fun x1 h2 =>
   R (.slice x1.a x1.l x1.c) h2))) :
  CallsH Tryz.prog 89 #[.slice s_.a s_.l s_.c] h R :=
  calls_of_vc tabOk mixed Tryz.func89 (c := c89) (by kernel_rfl) (n := 8) rfl (rs := [.tmp 2]) (by kernel_rfl) ok89 (args := [.slice s_.a s_.l s_.c]) (Nat.le_of_ble_eq_true rfl) (Eq.mpr (by kernel_rfl) hv)
end Go.Sx.Tryz
namespace Go.Sx.Tryz
open Go Go.Sx Go.Proofs
set_option maxRecDepth 100000
set_option linter.unusedVariables false
noncomputable def c167 : Code := (Tryz.f167.body).getD .skip
def a167 : Ann := (.seq .leaf (.seq (.seq (.reg (.q 0 (.q 1 (.q 2 (.q 3 (.q 4 (.q 5 (.q 6 (.q 7 (.q 8 (.q 9 (.q 10 (.q 11 (.q 12 (.q 13 (.q 14 (.q 15 (.fin)))))))))))))))))) (.br (.seq .leaf (.seq .leaf .leaf)) .leaf)) (.seq .leaf (.seq (.seq .leaf (.br (.seq .leaf .leaf) .leaf)) (.seq .leaf (.seq .leaf .leaf))))))
theorem ok167 : okC tab 46 true c167 a167 = true := by kernel_rfl
theorem vc167 (g_b g_o : Nat) (index_ : Int) (term_ : Int) (h : Heap) (R : Value → Heap → Prop)
  (hv : ∀ b1 h1, Fresh h (.cells #[.int .u64 index_] 32) b1 h1 →
   ∀ b2 h2, Fresh h1 (.cells #[.int .u64 term_] 32) b2 h2 →
   ∃ n1 : Int, cellH h2 b1 0 = some (.int .u64 n1) ∧
   ∃ n2 : Int, cellH h2 g_b g_o = some (.int .u64 n2) ∧
   CondP ((n1 : Int) == n2) (
   ∃ n3 : Int, cellH h2 b2 0 = some (.int .u64 n3) ∧
   ∃ n4 : Int, cellH h2 g_b (g_o + 1) = some (.int .u64 n4) ∧
   CondP ((n3 : Int) == n4) (
   CanSt h2 g_b (g_o + 3) [.slice none 0 0] ∧ ∀ h3, Stored h2 g_b (g_o + 3) [.slice none 0 0] h3 →
   R (.bool true) h3) (
   ∃ x1 : Sl, cellH h2 g_b (g_o + 3) = some (.slice x1.a x1.l x1.c) ∧
   CallsH Tryz.prog 75 #[.slice x1.a x1.l x1.c, .func (.func 181) #[] #[.pointer (some ⟨b1, 0, none⟩), .pointer (some ⟨b2, 0, none⟩)]] h2 (fun r1 h4 => ∃ n5 : Int, r1 = .int .i64 n5 ∧
   CondP (decide ((n5 : Int) < 0)) (
   R (.bool false) h4) (
   ∃ x2 : Sl, cellH h4 g_b (g_o + 3) = some (.slice x2.a x2.l x2.c) ∧
   ((0 : Int) ≤ (0 : Int) ∧ (0 : Int) ≤ IntKind.i64.wrap (n5 + 1) ∧ IntKind.i64.wrap (n5 + 1) ≤ ((x2.c : Nat) : Int)) ∧
   CallsH Tryz.prog 89 #[.slice (subA x2.a 0 x2.c 3) ((IntKind.i64.wrap (n5 + 1)).toNat) x2.c] h4 (fun r2 h5 => ∃ x3 : Sl, r2 = .slice x3.a x3.l x3.c ∧
   CanSt h5 g_b (g_o + 3) [.slice x3.a x3.l x3.c] ∧ ∀ h6, Stored h5 g_b (g_o + 3) [.slice x3.a x3.l x3.c] h6 →
   R (.bool true) h6))))) (
   ∃ x4 : Sl, cellH h2 g_b (g_o + 3) = some (.slice x4.a x4.l x4.c) ∧
   CallsH Tryz.prog 75 #[.slice x4.a x4.l x4.c, .func (.func 181) #[] #[.pointer (some ⟨b1, 0, none⟩), .pointer (some ⟨b2, 0, none⟩)]] h2 (fun r3 h7 => ∃ n6 : Int, r3 = .int .i64 n6 ∧
   CondP (decide ((n6 : Int) < 0)) (
   R (.bool false) h7) (
   ∃ x5 : Sl, cellH h7 g_b (g_o + 3) = some (.slice x5.a x5.l x5.c) ∧
   ((0 : Int) ≤ (0 : Int) ∧ (0 : Int) ≤ IntKind.i64.wrap (n6 + 1) ∧ IntKind.i64.wrap (n6 + 1) ≤ ((x5.c : Nat) : Int)) ∧
   CallsH Tryz.prog 89 #[.slice (subA x5.a 0 x5.c 3) ((IntKind.i64.wrap (n6 + 1)).toNat) x5.c] h7 (fun r4 h8 => ∃ x6 : Sl, r4 = .slice x6.a x6.l x6.c ∧
   CanSt h8 g_b (g_o + 3) [.slice x6.a x6.l x6.c] ∧ ∀ h9, Stored h8 g_b (g_o + 3) [.slice x6.a x6.l x6.c] h9 →
   R (.bool true) h9))))) :
  CallsH Tryz.prog 167 #[.pointer (some ⟨g_b, g_o, none⟩), .int .u64 index_, .int .u64 term_] h R :=
  calls_of_vc tabOk mixed Tryz.func167 (c := c167) (by kernel_rfl) (n := 46) rfl (rs := [.tmp 6]) (by kernel_rfl) ok167 (args := [.pointer (some ⟨g_b, g_o, none⟩), .int .u64 index_, .int .u64 term_]) (Nat.le_of_ble_eq_true rfl) (Eq.mpr (by kernel_rfl) hv)
end Go.Sx.Tryz
namespace Go.Sx.Tryz
open Go Go.Sx Go.Proofs
set_option maxRecDepth 100000
set_option linter.unusedVariables false
noncomputable def c131 : Code := (Tryz.f131.body).getD .skip
def a131 : Ann := (.seq .leaf (.seq (.seq .leaf (.br (.seq .leaf (.seq .leaf .leaf)) .leaf)) (.seq .leaf .leaf)))
theorem ok131 : okC tab 26 true c131 a131 = true := by kernel_rfl
theorem vc131 (g_b g_o : Nat) (h_0 : Int) (h_1 : Bool) (h_2 : Int) (h_3 : Int) (anew_ : Bool) (h : Heap) (R : Value → Heap → Prop)
  (hv : ∀ b1 h1, Fresh h (.cells #[.int .u64 h_0, .bool h_1, .int .u64 h_2, .int .u64 h_3] 103) b1 h1 →
   CondP anew_ (
   ∃ n1 : Int, cellH h1 b1 2 = some (.int .u64 n1) ∧
   ∃ n2 : Int, cellH h1 b1 3 = some (.int .u64 n2) ∧
   CanSt h1 g_b g_o [.int .u64 n1, .int .u64 n2, .slice none 0 0, .slice none 0 0] ∧ ∀ h2, Stored h1 g_b g_o [.int .u64 n1, .int .u64 n2, .slice none 0 0, .slice none 0 0] h2 →
   R (.bool true) h2) (
   ∃ t1 : Bool, cellH h1 b1 1 = some (.bool t1) ∧
   CondP t1 (
   ∃ n3 : Int, cellH h1 b1 2 = some (.int .u64 n3) ∧
   ∃ n4 : Int, cellH h1 b1 3 = some (.int .u64 n4) ∧
   CanSt h1 g_b g_o [.int .u64 n3, .int .u64 n4, .slice none 0 0, .slice none 0 0] ∧ ∀ h3, Stored h1 g_b g_o [.int .u64 n3, .int .u64 n4, .slice none 0 0, .slice none 0 0] h3 →
   R (.bool true) h3) (
   ∃ n5 : Int, cellH h1 b1 2 = some (.int .u64 n5) ∧
   ∃ n6 : Int, cellH h1 b1 3 = some (.int .u64 n6) ∧
   CallsH Tryz.prog 167 #[.pointer (some ⟨g_b, g_o, none⟩), .int .u64 n5, .int .u64 n6] h1 (fun r1 h4 => ∃ t2 : Bool, r1 = .bool t2 ∧
   R (.bool t2) h4)))) :
  CallsH Tryz.prog 131 #[.pointer (some ⟨g_b, g_o, none⟩), .agg #[.int .u64 h_0, .bool h_1, .int .u64 h_2, .int .u64 h_3], .bool anew_] h R :=
  calls_of_vc tabOk mixed Tryz.func131 (c := c131) (by kernel_rfl) (n := 26) rfl (rs := [.tmp 6]) (by kernel_rfl) ok131 (args := [.pointer (some ⟨g_b, g_o, none⟩), .agg #[.int .u64 h_0, .bool h_1, .int .u64 h_2, .int .u64 h_3], .bool anew_]) (Nat.le_of_ble_eq_true rfl) (Eq.mpr (by kernel_rfl) hv)
end Go.Sx.Tryz
namespace Go.Sx.Tryz
open Go Go.Sx Go.Proofs
set_option linter.unusedVariables false
abbrev MaxI : Nat := 4611686018427387904
structure Ent where
  i : Nat
  t : Nat
  b : List UInt8
structure Hd where
  serial : Nat
  anew : Bool
  i : Nat
  t : Nat
def Hd.body (h : Hd) : List UInt8 := natB h.serial ++ flagB h.anew ++ (natB h.i ++ natB h.t)
def Hd.ok (h : Hd) : Prop := h.serial ≤ MaxI ∧ h.i ≤ MaxI ∧ h.t ≤ MaxI
def hdV (h : Hd) : List Value := [.int .u64 (h.serial : Int), .bool h.anew, .int .u64 (h.i : Int), .int .u64 (h.t : Int)]
theorem Hd.body_len (h : Hd) (hk : h.ok) : h.body.length ≤ 40 := by
  obtain ⟨h1, h2, h3⟩ := hk
  have a := natB_le (n := h.serial) (by unfold MaxI at *; omega)
  have b := natB_le (n := h.i) (by unfold MaxI at *; omega)
  have c := natB_le (n := h.t) (by unfold MaxI at *; omega)
  have e := natB_le (n := if h.anew = true then 1 else 0) (by split <;> omega)
  simp only [Hd.body, flagB, List.length_append]; omega
theorem readHead_ok {H : Heap} {S : PH} {R : List Asn} {v : Sl} {hd : Hd} (hs : Sat H S R) (hv : RdB S v hd.body) (hk : hd.ok)
    {K : Value → Heap → Prop} (hK : ∀ H', Sat H' S R → K (.tuple #[.agg (hdV hd).toArray, .bool true]) H') : CallsH Tryz.prog 97 #[.int .u8 1, .slice v.a v.l v.c] H K := by
  apply vc97
  obtain ⟨k1, k2, k3⟩ := hk
  unfold MaxI at *
  intro b1 h1 hf
  have hs1 : Sat h1 S (lst b1 103 [.int .u64 0, .bool false, .int .u64 0, .int .u64 0] :: R) := hs.fresh hf
  refine ropen_spec hs1 fun p h2 hs2 => ⟨_, rfl, ?_⟩
  have hv0 : RdB S v (natB hd.serial ++ (flagB hd.anew ++ (natB hd.i ++ (natB hd.t ++ [])))) := by
    have := hv; simp only [Hd.body, List.append_assoc] at this; simpa using this
  have hb : ∀ n, n ≤ 4611686018427387904 → (natB n).length ≤ 10 := fun n hn => natB_le (by omega)
  have f1 : (flagB hd.anew).length ≤ 10 := natB_le (by split <;> omega)
  have l1 := hb _ k2
  have l2 := hb _ k3
  refine rnat_spec (most := 4611686018427387904) hs2 hv0 (by omega) k1 (by decide) (by simp; omega) fun v1 h3 hv1 hs3 => ⟨_, rfl, ?_⟩
  refine rflag_spec hs3 hv1 (by simp; omega) fun v2 h4 hv2 hs4 => ⟨_, rfl, ?_⟩
  refine rnat_spec (most := 4611686018427387904) hs4 hv2 (by omega) k2 (by decide) (by simp; omega) fun v3 h5 hv3 hs5 => ⟨_, rfl, ?_⟩
  refine rnat_spec (most := 4611686018427387904) hs5 hv3 (by omega) k3 (by decide) (by simp) fun v4 h6 hv4 hs6 => ⟨_, rfl, ?_⟩
  refine hs6.swap.store (Nat.le_refl _) fun h7 hs7 => ?_
  have hs7 : Sat h7 S (lst b1 103 (hdV hd) :: rdr p v4 false :: R) := hs7
  refine ⟨_, _, _, _, hs7.cells 0 rfl, CondP.of (fun _ => ?_) fun hc => by simp at hc⟩
  refine rend_spec hs7.swap (RdB.len hv4) ⟨_, rfl, hs7.cells 0 rfl, ?_⟩
  refine hs7.store (Nat.le_refl _) fun h8 hs8 => ?_
  have hs8 : Sat h8 S (lst b1 103 (hdV hd) :: rdr p v4 false :: R) := hs8
  exact ⟨_, _, _, _, hs8.cells 0 rfl, hK h8 (hs8.drop.drop)⟩
theorem headOf_ok {H : Heap} {S : PH} {R : List Asn} {v : Sl} {hd : Hd} {rest : List UInt8} (hs : Sat H S R) (hv : RdB S v (parcelB 1 hd.body ++ rest)) (hk : hd.ok) (hlen : rest.length < 1000000000)
    {K : Value → Heap → Prop} (hK : ∀ H' S', PH.le S S' → Sat H' S' R → K (.tuple #[.agg (hdV hd).toArray, .bool true]) H') : CallsH Tryz.prog 39 #[.slice v.a v.l v.c] H K := by
  apply vc39
  intro b1 h1 hf
  have hs1 : Sat h1 S (lst b1 103 [.int .u64 0, .bool false, .int .u64 0, .int .u64 0] :: R) := hs.fresh hf
  have hbl := hd.body_len hk
  refine take_ok hs1 hv (by decide) (by omega) hlen fun v' h2 S2 hS hv' hs2 => ⟨_, v', _, _, rfl, CondP.of (fun hc => by simp at hc) fun _ => ?_⟩
  refine readHead_ok hs2 hv' hk fun h4 hs4 => ⟨_, _, _, _, _, rfl, ?_⟩
  refine hs4.store (Nat.le_refl _) fun h5 hs5 => ?_
  have hs5 : Sat h5 S2 (lst b1 103 (hdV hd) :: R) := hs5
  exact ⟨_, _, _, _, hs5.cells 0 rfl, hK h5 S2 hS hs5.drop⟩
theorem headOf_torn {H : Heap} {S : PH} {R : List Asn} {v : Sl} {t : List UInt8} (hs : Sat H S R) (hv : RdB S v t) (ht : Tail t)
    {K : Value → Heap → Prop} (hK : ∀ H', Sat H' S R → ∀ hd : Hd, K (.tuple #[.agg (hdV hd).toArray, .bool false]) H') : CallsH Tryz.prog 39 #[.slice v.a v.l v.c] H K := by
  apply vc39
  intro b1 h1 hf
  have hs1 : Sat h1 S (lst b1 103 [.int .u64 0, .bool false, .int .u64 0, .int .u64 0] :: R) := hs.fresh hf
  obtain ⟨kind, body, q, t1, t2, t3, t4⟩ := ht
  refine take_torn hs1 hv t3 t4 t1 t2 fun h2 hs2 => ⟨_, ⟨none, 0, 0⟩, _, _, rfl, CondP.of (fun _ => ?_) fun hc => by simp at hc⟩
  refine hs2.store (Nat.le_refl _) fun h5 hs5 => ?_
  have hs5 : Sat h5 S (lst b1 103 (hdV ⟨0, false, 0, 0⟩) :: R) := hs5
  exact ⟨_, _, _, _, hs5.cells 0 rfl, hK h5 hs5.drop ⟨0, false, 0, 0⟩⟩
theorem flat_drop {α β : Type} {f : α → List β} {m : Nat} (hf : ∀ x, (f x).length = m) : ∀ (l : List α) (k : Nat), (l.flatMap f).drop (k * m) = (l.drop k).flatMap f
  | l, 0 => by simp
  | [], k + 1 => by simp
  | x :: l, k + 1 => by
    rw [List.flatMap_cons, List.drop_succ_cons, ← flat_drop hf l k, Nat.add_mul, Nat.one_mul, Nat.add_comm, ← List.drop_drop, ← hf x, List.drop_left]
theorem flat_take {α β : Type} {f : α → List β} {m : Nat} (hf : ∀ x, (f x).length = m) : ∀ (l : List α) (k : Nat), (l.flatMap f).take (k * m) = (l.take k).flatMap f
  | l, 0 => by simp
  | [], k + 1 => by simp
  | x :: l, k + 1 => by
    rw [List.flatMap_cons, List.take_succ_cons, List.flatMap_cons, ← flat_take hf l k, Nat.add_mul, Nat.one_mul, Nat.add_comm, ← hf x, List.take_append, List.take_of_length_le (by omega), Nat.add_sub_cancel_left]
theorem flat_len {α β : Type} {f : α → List β} {m : Nat} (hf : ∀ x, (f x).length = m) (l : List α) : (l.flatMap f).length = l.length * m := by
  induction l with
  | nil => simp
  | cons x l ih => rw [List.flatMap_cons, List.length_append, ih, hf, List.length_cons, Nat.add_mul, Nat.one_mul, Nat.add_comm]
theorem flat_at {α β : Type} {f : α → List β} {m : Nat} (hf : ∀ x, (f x).length = m) {l : List α} {k : Nat} (hk : k < l.length) : ((l.flatMap f).drop (k * m)).take m = f l[k] := by
  rw [flat_drop hf, List.drop_eq_getElem_cons hk, List.flatMap_cons, ← hf l[k], List.take_left]
theorem cells_sub {h : Heap} {b o : Nat} {vs : List Value} (hc : CellsAt h b o vs) (k m : Nat) : CellsAt h b (o + k) ((vs.drop k).take m) := by
  refine CellsAt.of fun j v hj => ?_
  rw [List.getElem?_take] at hj
  split at hj
  · rw [List.getElem?_drop] at hj
    have := hc.get _ _ hj
    rwa [Nat.add_assoc]
  · cases hj
abbrev EB := Ent × Sl
def eV (x : EB) : List Value := [.int .u64 (x.1.i : Int), .int .u64 (x.1.t : Int), .slice x.2.a x.2.l x.2.c]
def entV (es : List EB) : List Value := es.flatMap eV
theorem eV_len (x : EB) : (eV x).length = 3 := rfl
theorem entV_len (es : List EB) : (entV es).length = es.length * 3 := flat_len eV_len es
theorem entV_one (es : List EB) : ∀ u ∈ entV es, u.oneCell' = true := by
  intro u hu
  obtain ⟨x, _, hx⟩ := List.mem_flatMap.1 hu
  simp only [eV, List.mem_cons, List.not_mem_nil, or_false] at hx
  rcases hx with rfl | rfl | rfl <;> rfl
theorem el81 : ElemOk Tryz.prog 81 85 3 40 := ElemOk.mk' (z := .agg #[.int .u64 0, .int .u64 0, .slice none 0 0]) Tryz.underlying81 (by kernel_rfl) rfl (by decide)
def eok (S : PH) (es : List EB) : Prop := ∀ x ∈ es, RdB S x.2 x.1.b ∧ x.1.b.length ≤ 512
theorem eok.mono {S S' : PH} {es : List EB} (h : eok S es) (hs : PH.le S S') : eok S' es := fun x hx => ⟨(h x hx).1.mono hs, (h x hx).2⟩
def ownE (v : Sl) (es : List EB) : Asn := own 85 3 v (entV es)
section
variable {H H' : Heap} {S : PH} {R : List Asn}
theorem ownE.len {v : Sl} {es : List EB} (h : Sat H S (ownE v es :: R)) : v.l = es.length ∧ v.l ≤ v.c := by
  obtain ⟨h1, h2⟩ := own.len h
  rw [entV_len] at h1
  exact ⟨by omega, h2⟩
theorem ownE.at {v : Sl} {es : List EB} (h : Sat H S (ownE v es :: R)) {k : Nat} (hk : k < es.length) : ∃ g, v.a = some ⟨g, 0, none⟩ ∧ CellsAt H g (0 + k * 3) (eV es[k]) := by
  obtain ⟨g, h1, h2⟩ := own.cells h (by rw [entV_len]; omega)
  have := cells_sub h2 (k * 3) 3
  rw [entV, flat_at eV_len hk] at this
  exact ⟨g, h1, this⟩
def lgV (fi ft : Nat) (v : Sl) : List Value := [.int .u64 (fi : Int), .int .u64 (ft : Int), .slice none 0 0, .slice v.a v.l v.c]
theorem mid_get {pre l post : List Value} {k : Nat} (hk : k < l.length) : (pre ++ l ++ post)[pre.length + k]? = l[k]? := by
  rw [List.append_assoc, List.getElem?_append_right (by omega), Nat.add_sub_cancel_left, List.getElem?_append_left hk]
theorem mid_put {pre l post : List Value} {k : Nat} {vs : List Value} (hk : k + vs.length ≤ l.length) : putL (pre ++ l ++ post) (pre.length + k) vs = pre ++ putL l k vs ++ post := by
  unfold putL
  rw [List.append_assoc pre l post, List.take_append, List.drop_append, List.take_append_of_le_length (by omega), List.drop_append_of_le_length (by omega)]
  have e1 : pre.length + k - pre.length = k := by omega
  have e2 : pre.length + k + vs.length - pre.length = k + vs.length := by omega
  rw [List.take_of_length_le (by omega), List.drop_of_length_le (by omega), e1, e2]
  simp
def lastE (fi ft : Nat) (es : List EB) : EB := match es.getLast? with | some x => x | none => (⟨fi, ft, []⟩, ⟨none, 0, 0⟩)
theorem mid_cells {pre post : List Value} {fi ft : Nat} {v : Sl} {T : TypeId} {gb : Nat} (hs : Sat H S (lst gb T (pre ++ lgV fi ft v ++ post) :: R)) : CellsAt H gb pre.length [.int .u64 (fi : Int), .int .u64 (ft : Int), .slice none 0 0] :=
  hs.cells pre.length (by rw [List.append_assoc, List.drop_left]; rfl)
theorem last_spec {pre post : List Value} {fi ft : Nat} {v : Sl} {es : List EB} {T : TypeId} {gb : Nat} (hs : Sat H S (lst gb T (pre ++ lgV fi ft v ++ post) :: ownE v es :: R)) (hlen : es.length < 1000000000)
    {K : Value → Heap → Prop} (hK : ∀ H', Sat H' S (lst gb T (pre ++ lgV fi ft v ++ post) :: ownE v es :: R) → K (.agg (eV (lastE fi ft es)).toArray) H') : CallsH Tryz.prog 78 #[.pointer (some ⟨gb, pre.length, none⟩)] H K := by
  apply vc78
  intro b1 h1 hf
  have hs1 : Sat h1 S (lst b1 85 [.int .u64 0, .int .u64 0, .slice none 0 0] :: lst gb T (pre ++ lgV fi ft v ++ post) :: ownE v es :: R) := hs.fresh hf
  obtain ⟨hl, hlc⟩ := ownE.len hs.swap
  have hc3 : cellH h1 gb (pre.length + 3) = some (.slice v.a v.l v.c) := hs1.swap.cell _ (by rw [mid_get (by simp [lgV])]; rfl)
  refine ⟨v, hc3, CondP.of (fun hc => ?_) (fun hc => ⟨v, hc3, v, hc3, ?_⟩)⟩
  · have h0 : es = [] := List.eq_nil_of_length_eq_zero (by simp at hc; omega)
    subst h0
    refine ⟨_, _, ⟨none, 0, 0⟩, mid_cells hs1.swap, ?_⟩
    refine hs1.store (Nat.le_refl _) fun h2 hs2 => ?_
    have hs2 : Sat h2 S (lst b1 85 (eV (lastE fi ft [])) :: lst gb T (pre ++ lgV fi ft v ++ post) :: ownE v [] :: R) := hs2
    exact ⟨_, _, _, hs2.cells 0 rfl, hK h2 hs2.drop⟩
  · have h0 : 0 < es.length := by simp at hc; omega
    rw [i64_in (by omega) (by omega)]
    have e : (((v.l : Nat) : Int) - 1).toNat = es.length - 1 := by omega
    refine ⟨⟨by omega, by omega⟩, ?_⟩
    obtain ⟨g, ga, gc⟩ := ownE.at (hs1.pick 2 rfl) (k := es.length - 1) (by omega)
    have hla : lastE fi ft es = es[es.length - 1] := by
      unfold lastE
      rw [List.getLast?_eq_getElem?, List.getElem?_eq_getElem (by omega)]
    refine NilP.of ga ?_
    rw [e]
    refine ⟨_, _, _, gc, ?_⟩
    refine hs1.store (Nat.le_refl _) fun h2 hs2 => ?_
    have hs2 : Sat h2 S (lst b1 85 (eV es[es.length - 1]) :: lst gb T (pre ++ lgV fi ft v ++ post) :: ownE v es :: R) := hs2
    refine ⟨_, _, _, hs2.cells 0 rfl, ?_⟩
    have := hK h2 hs2.drop
    rw [hla] at this
    exact this
def mayB (fi li from_ : Nat) : Bool := decide (fi < from_) && decide (from_ - 1 ≤ li)
theorem may_spec {pre post : List Value} {fi ft fr : Nat} {v : Sl} {es : List EB} {T : TypeId} {gb : Nat} (hs : Sat H S (lst gb T (pre ++ lgV fi ft v ++ post) :: ownE v es :: R)) (hlen : es.length < 1000000000) (hfr : fr < 18446744073709551616)
    {K : Value → Heap → Prop} (hK : ∀ H', Sat H' S (lst gb T (pre ++ lgV fi ft v ++ post) :: ownE v es :: R) → K (.bool (mayB fi (lastE fi ft es).1.i fr)) H') : CallsH Tryz.prog 88 #[.pointer (some ⟨gb, pre.length, none⟩), .int .u64 (fr : Int)] H K := by
  apply vc88
  have hc0 : cellH H gb pre.length = some (.int .u64 (fi : Int)) := by
    have := hs.cell (pre.length + 0) (v := .int .u64 (fi : Int)) (by rw [mid_get (by simp [lgV])]; rfl)
    exact this
  refine ⟨_, hc0, CondP.of (fun hc => ?_) (fun hc => ?_)⟩
  · have hlt : fi < fr := by simp at hc; omega
    refine last_spec hs hlen fun h1 hs1 => ⟨_, _, _, rfl, ?_⟩
    rw [u64_in (by omega) (by omega)]
    have e : decide ((fr : Int) - 1 ≤ ((lastE fi ft es).1.i : Int)) = mayB fi (lastE fi ft es).1.i fr := by
      unfold mayB
      rw [decide_eq_true hlt, Bool.true_and]
      exact decide_eq_decide.2 (by omega)
    rw [e]; exact hK h1 hs1
  · have e : mayB fi (lastE fi ft es).1.i fr = false := by
      have : ¬ fi < fr := by simp at hc; omega
      unfold mayB; rw [decide_eq_false this, Bool.false_and]
    have := hK H hs
    rw [e] at this; exact this
end
end Go.Sx.Tryz
namespace Go.Sx.Tryz
open Go Go.Sx Go.Proofs
set_option maxRecDepth 100000
set_option linter.unusedVariables false
noncomputable def c132 : Code := (Tryz.f132.body).getD .skip
def a132 : Ann := (.seq .leaf (.seq .leaf (.seq .leaf (.seq .leaf (.seq (.join [(42, .one (.b))] .leaf (.br (.seq .leaf .leaf) .leaf)) (.seq (.reg (.q 0 (.q 1 (.q 2 (.q 3 (.q 4 (.q 5 (.m 6 (.m 7 (.q 8 (.q 9 (.m 10 (.fin) (.nil)))) (.nil)) (.nil))))))))) (.seq .leaf .leaf)))))))
theorem ok132 : okC tab 53 true c132 a132 = true := by kernel_rfl
theorem vc132 (g_b g_o : Nat) (body_ : Sl) (h : Heap) (R : Value → Heap → Prop)
  (hv : CallsH Tryz.prog 135 #[.slice body_.a body_.l body_.c] h (fun r1 h1 => ∃ p1 : Option Addr, r1 = .pointer p1 ∧
   CallsH Tryz.prog 136 #[.pointer p1, .int .u64 4611686018427387904] h1 (fun r2 h2 => ∃ n1 : Int, r2 = .int .u64 n1 ∧
   CallsH Tryz.prog 136 #[.pointer p1, .int .u64 4611686018427387904] h2 (fun r3 h3 => ∃ n2 : Int, r3 = .int .u64 n2 ∧
   CallsH Tryz.prog 168 #[.pointer p1, .int .i64 512] h3 (fun r4 h4 => ∃ s1 : ByteArray, r4 = .string s1 ∧
   RunK Tryz.prog (.sl) (convert 9 33 (.string s1)) h4 (fun x1 h5 =>
   ∀ b1 h6, Fresh h5 (.cells #[.int .u64 0, .int .u64 0, .slice none 0 0] 85) b1 h6 →
   CanSt h6 b1 0 [.int .u64 n1, .int .u64 n2, .slice x1.a x1.l x1.c] ∧ ∀ h7, Stored h6 b1 0 [.int .u64 n1, .int .u64 n2, .slice x1.a x1.l x1.c] h7 →
   CallsH Tryz.prog 78 #[.pointer (some ⟨g_b, g_o, none⟩)] h7 (fun r5 h8 => ∃ n3 : Int, ∃ n4 : Int, ∃ x2 : Sl, r5 = .agg #[.int .u64 n3, .int .u64 n4, .slice x2.a x2.l x2.c] ∧
   ∀ b2 h9, Fresh h8 (.cells #[.int .u64 0, .int .u64 0, .slice none 0 0] 85) b2 h9 →
   CanSt h9 b2 0 [.int .u64 n3, .int .u64 n4, .slice x2.a x2.l x2.c] ∧ ∀ h10, Stored h9 b2 0 [.int .u64 n3, .int .u64 n4, .slice x2.a x2.l x2.c] h10 →
   ∃ J1 : Bool → Heap → Prop, (∀ t1 : Bool, ∀ h11, J1 t1 h11 → ∀ _ : Env,
   CondP t1 (
   R (.bool false) h11) (
   ∃ x3 : Sl, cellH h11 g_b (g_o + 3) = some (.slice x3.a x3.l x3.c) ∧
   ∃ n5 : Int, ∃ n6 : Int, ∃ x4 : Sl, CellsAt h11 b1 0 [.int .u64 n5, .int .u64 n6, .slice x4.a x4.l x4.c] ∧
   ∀ b3 h12, Fresh h11 (.cells #[.int .u64 n5, .int .u64 n6, .slice x4.a x4.l x4.c] 85) b3 h12 →
   cellH h12 g_b (g_o + 3) = some (.slice x3.a x3.l x3.c) ∧
   RunK Tryz.prog (.sl) (Builtin.append_ #[81, 81] 81 #[.slice x3.a x3.l x3.c, .slice (some ⟨b3, 0, none⟩) 1 1]) h12 (fun x5 h13 =>
   CanSt h13 g_b (g_o + 3) [.slice x5.a x5.l x5.c] ∧ ∀ h14, Stored h13 g_b (g_o + 3) [.slice x5.a x5.l x5.c] h14 →
   R (.bool true) h14))) ∧
   CallsH Tryz.prog 141 #[.pointer p1] h10 (fun r6 h15 => ∃ n7 : Int, r6 = .int .i64 n7 ∧
   CondP ((n7 : Int) != 0) (
   J1 true h15) (
   ∃ n8 : Int, cellH h15 b1 0 = some (.int .u64 n8) ∧
   CondP ((n8 : Int) == 0) (
   J1 true h15) (
   ∃ n9 : Int, cellH h15 b1 0 = some (.int .u64 n9) ∧
   ∃ n10 : Int, cellH h15 b2 0 = some (.int .u64 n10) ∧
   CondP ((IntKind.u64.wrap (n9 - 1) : Int) != n10) (
   J1 true h15) (
   ∃ n11 : Int, cellH h15 b1 1 = some (.int .u64 n11) ∧
   ∃ n12 : Int, cellH h15 b2 1 = some (.int .u64 n12) ∧
   J1 (decide ((n11 : Int) < n12)) h15))))))))))) :
  CallsH Tryz.prog 132 #[.pointer (some ⟨g_b, g_o, none⟩), .slice body_.a body_.l body_.c] h R :=
  calls_of_vc tabOk mixed Tryz.func132 (c := c132) (by kernel_rfl) (n := 53) rfl (rs := [.tmp 4]) (by kernel_rfl) ok132 (args := [.pointer (some ⟨g_b, g_o, none⟩), .slice body_.a body_.l body_.c]) (Nat.le_of_ble_eq_true rfl) (Eq.mpr (by kernel_rfl) hv)
end Go.Sx.Tryz
namespace Go.Sx.Tryz
open Go Go.Sx Go.Proofs
set_option maxRecDepth 100000
set_option linter.unusedVariables false
noncomputable def c133 : Code := (Tryz.f133.body).getD .skip
def a133 : Ann := (.seq .leaf (.seq .leaf (.seq .leaf (.seq (.join [(26, .one (.b))] .leaf (.br (.seq .leaf .leaf) .leaf)) (.seq (.reg (.q 0 (.q 1 (.q 2 (.q 3 (.q 4 (.q 5 (.q 6 (.q 7 (.q 8 (.q 9 (.q 10 (.q 11 (.q 12 (.q 13 (.m 14 (.q 15 (.q 16 (.m 17 (.fin) (.nil)))) (.nil))))))))))))))))) (.seq .leaf .leaf))))))
theorem ok133 : okC tab 44 true c133 a133 = true := by kernel_rfl
theorem vc133 (g_b g_o : Nat) (body_ : Sl) (own_ : Int) (h : Heap) (R : Value → Heap → Prop)
  (hv : CallsH Tryz.prog 135 #[.slice body_.a body_.l body_.c] h (fun r1 h1 => ∃ p1 : Option Addr, r1 = .pointer p1 ∧
   CallsH Tryz.prog 136 #[.pointer p1, .int .u64 18446744073709551615] h1 (fun r2 h2 => ∃ n1 : Int, r2 = .int .u64 n1 ∧
   ∃ J1 : Bool → Heap → Prop, (∀ t1 : Bool, ∀ h3, J1 t1 h3 → ∀ _ : Env,
   CondP t1 (
   R (.bool false) h3) (
   ∃ x1 : Sl, cellH h3 g_b (g_o + 3) = some (.slice x1.a x1.l x1.c) ∧
   ∃ n2 : Int, cellH h3 g_b g_o = some (.int .u64 n2) ∧
   ((0 : Int) ≤ (0 : Int) ∧ (0 : Int) ≤ IntKind.u64.wrap ((IntKind.u64.wrap (n1 - 1)) - n2) ∧ IntKind.u64.wrap ((IntKind.u64.wrap (n1 - 1)) - n2) ≤ ((x1.c : Nat) : Int)) ∧
   CallsH Tryz.prog 89 #[.slice (subA x1.a 0 x1.c 3) ((IntKind.u64.wrap ((IntKind.u64.wrap (n1 - 1)) - n2)).toNat) x1.c] h3 (fun r3 h4 => ∃ x2 : Sl, r3 = .slice x2.a x2.l x2.c ∧
   CanSt h4 g_b (g_o + 3) [.slice x2.a x2.l x2.c] ∧ ∀ h5, Stored h4 g_b (g_o + 3) [.slice x2.a x2.l x2.c] h5 →
   R (.bool true) h5))) ∧
   CallsH Tryz.prog 141 #[.pointer p1] h2 (fun r4 h6 => ∃ n3 : Int, r4 = .int .i64 n3 ∧
   CondP ((n3 : Int) != 0) (
   J1 true h6) (
   CondP (decide ((n1 : Int) ≤ own_)) (
   J1 true h6) (
   CallsH Tryz.prog 88 #[.pointer (some ⟨g_b, g_o, none⟩), .int .u64 n1] h6 (fun r5 h7 => ∃ t2 : Bool, r5 = .bool t2 ∧
   J1 (!t2) h7))))))) :
  CallsH Tryz.prog 133 #[.pointer (some ⟨g_b, g_o, none⟩), .slice body_.a body_.l body_.c, .int .u64 own_] h R :=
  calls_of_vc tabOk mixed Tryz.func133 (c := c133) (by kernel_rfl) (n := 44) rfl (rs := [.tmp 6]) (by kernel_rfl) ok133 (args := [.pointer (some ⟨g_b, g_o, none⟩), .slice body_.a body_.l body_.c, .int .u64 own_]) (Nat.le_of_ble_eq_true rfl) (Eq.mpr (by kernel_rfl) hv)
end Go.Sx.Tryz
