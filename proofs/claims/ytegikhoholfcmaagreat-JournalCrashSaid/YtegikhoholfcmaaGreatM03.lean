/-
  Part 3 of the proof: V136, V137, V138, V140, V141, V168, V169, V170, V182, K02, K03, V162, V178, V124, K04, V82, V134, V71, V139, V96, K05, K06, V154, V155, V156, V175.
-/
import Derived.Test.YtegikhoholfcmaaGreatM02
import Derived.Laws.Strings
namespace Go.Sx.Tryz
open Go Go.Sx Go.Proofs
set_option maxRecDepth 100000
set_option linter.unusedVariables false
noncomputable def c136 : Code := (Tryz.f136.body).getD .skip
def a136 : Ann := (.seq .leaf (.seq (.seq .leaf (.br (.seq .leaf .leaf) .leaf)) (.seq (.seq .leaf (.inn (.loop [(4, .one (.i .u64)), (15, .one (.i .i64))] (.seq .leaf (.seq (.br .leaf .leaf) (.seq (.inn (.seq .leaf (.seq .leaf (.seq (.seq .leaf (.br .leaf .leaf)) (.seq .leaf (.seq (.seq .leaf (.br .leaf .leaf)) (.seq (.seq .leaf (.br .leaf .leaf)) (.seq .leaf (.seq .leaf .leaf))))))))) .leaf)))))) (.seq .leaf (.seq .leaf .leaf)))))
theorem ok136 : okC tab 63 true c136 a136 = true := by kernel_rfl
theorem vc136 (r_b r_o : Nat) (most_ : Int) (h : Heap) (R : Value → Heap → Prop)
  (hv : ∃ x1 : Sl, cellH h r_b r_o = some (.slice x1.a x1.l x1.c) ∧
   ∃ (I1 : Int → Int → Heap → Prop) (mu1 : Int → Int → Heap → Nat), I1 0 0 h ∧ (∀ n1 : Int, ∀ n2 : Int, ∀ h1, I1 n1 n2 h1 → ∀ _ : Env,
   CondP (decide ((n2 : Int) < ((x1.l : Nat) : Int))) (
   ((0 : Int) ≤ n2 ∧ (n2 : Int) < ((x1.l : Nat) : Int)) ∧
   NilP x1.a (fun b1 o1 =>
   ∃ n3 : Int, cellH h1 b1 (o1 + n2.toNat) = some (.int .u8 n3) ∧
   CallsH Tryz.prog 169 #[.int .u64 (IntKind.u64.wrap (bAndNot .u8 n3 128))] h1 (fun r1 h2 => ∃ n4 : Int, r1 = .int .i64 n4 ∧
   CondP (decide ((IntKind.i64.wrap ((IntKind.i64.wrap (n2 * 7)) + n4) : Int) > 64)) (
   CallsH Tryz.prog 170 #[.pointer (some ⟨r_b, r_o, none⟩)] h2 (fun r2 h3 => r2 = .tuple #[] ∧
   R (.int .u64 0) h3)) (
   (0 : Int) ≤ IntKind.i64.wrap (7 * n2) ∧
   CondP ((bAnd .u8 n3 128 : Int) != 0) (
   I1 (bOr .u64 n1 (shlV .u64 (IntKind.u64.wrap (bAndNot .u8 n3 128)) (IntKind.i64.wrap (7 * n2)))) (IntKind.i64.wrap (n2 + 1)) h2 ∧ mu1 (bOr .u64 n1 (shlV .u64 (IntKind.u64.wrap (bAndNot .u8 n3 128)) (IntKind.i64.wrap (7 * n2)))) (IntKind.i64.wrap (n2 + 1)) h2 < mu1 n1 n2 h1) (
   CondP ((n3 : Int) == 0) (
   CondP (decide ((n2 : Int) > 0)) (
   CallsH Tryz.prog 170 #[.pointer (some ⟨r_b, r_o, none⟩)] h2 (fun r3 h4 => r3 = .tuple #[] ∧
   R (.int .u64 0) h4)) (
   CondP (decide ((bOr .u64 n1 (shlV .u64 (IntKind.u64.wrap (bAndNot .u8 n3 128)) (IntKind.i64.wrap (7 * n2))) : Int) > most_)) (
   CallsH Tryz.prog 170 #[.pointer (some ⟨r_b, r_o, none⟩)] h2 (fun r4 h5 => r4 = .tuple #[] ∧
   R (.int .u64 0) h5)) (
   ∃ x2 : Sl, cellH h2 r_b r_o = some (.slice x2.a x2.l x2.c) ∧
   ((0 : Int) ≤ IntKind.i64.wrap (n2 + 1) ∧ IntKind.i64.wrap (n2 + 1) ≤ ((x2.l : Nat) : Int)) ∧
   CanSt h2 r_b r_o [.slice (subA x2.a ((IntKind.i64.wrap (n2 + 1)).toNat) x2.c 1) (x2.l - ((IntKind.i64.wrap (n2 + 1)).toNat)) (x2.c - ((IntKind.i64.wrap (n2 + 1)).toNat))] ∧ ∀ h6, Stored h2 r_b r_o [.slice (subA x2.a ((IntKind.i64.wrap (n2 + 1)).toNat) x2.c 1) (x2.l - ((IntKind.i64.wrap (n2 + 1)).toNat)) (x2.c - ((IntKind.i64.wrap (n2 + 1)).toNat))] h6 →
   R (.int .u64 (bOr .u64 n1 (shlV .u64 (IntKind.u64.wrap (bAndNot .u8 n3 128)) (IntKind.i64.wrap (7 * n2))))) h6))) (
   CondP (decide ((bOr .u64 n1 (shlV .u64 (IntKind.u64.wrap (bAndNot .u8 n3 128)) (IntKind.i64.wrap (7 * n2))) : Int) > most_)) (
   CallsH Tryz.prog 170 #[.pointer (some ⟨r_b, r_o, none⟩)] h2 (fun r5 h7 => r5 = .tuple #[] ∧
   R (.int .u64 0) h7)) (
   ∃ x3 : Sl, cellH h2 r_b r_o = some (.slice x3.a x3.l x3.c) ∧
   ((0 : Int) ≤ IntKind.i64.wrap (n2 + 1) ∧ IntKind.i64.wrap (n2 + 1) ≤ ((x3.l : Nat) : Int)) ∧
   CanSt h2 r_b r_o [.slice (subA x3.a ((IntKind.i64.wrap (n2 + 1)).toNat) x3.c 1) (x3.l - ((IntKind.i64.wrap (n2 + 1)).toNat)) (x3.c - ((IntKind.i64.wrap (n2 + 1)).toNat))] ∧ ∀ h8, Stored h2 r_b r_o [.slice (subA x3.a ((IntKind.i64.wrap (n2 + 1)).toNat) x3.c 1) (x3.l - ((IntKind.i64.wrap (n2 + 1)).toNat)) (x3.c - ((IntKind.i64.wrap (n2 + 1)).toNat))] h8 →
   R (.int .u64 (bOr .u64 n1 (shlV .u64 (IntKind.u64.wrap (bAndNot .u8 n3 128)) (IntKind.i64.wrap (7 * n2))))) h8))))))) (
   CallsH Tryz.prog 170 #[.pointer (some ⟨r_b, r_o, none⟩)] h1 (fun r6 h9 => r6 = .tuple #[] ∧
   R (.int .u64 0) h9)))) :
  CallsH Tryz.prog 136 #[.pointer (some ⟨r_b, r_o, none⟩), .int .u64 most_] h R :=
  calls_of_vc tabOk mixed Tryz.func136 (c := c136) (by kernel_rfl) (n := 63) rfl (rs := [.tmp 4]) (by kernel_rfl) ok136 (args := [.pointer (some ⟨r_b, r_o, none⟩), .int .u64 most_]) (Nat.le_of_ble_eq_true rfl) (Eq.mpr (by kernel_rfl) hv)
end Go.Sx.Tryz
namespace Go.Sx.Tryz
open Go Go.Sx Go.Proofs
set_option maxRecDepth 100000
set_option linter.unusedVariables false
noncomputable def c137 : Code := (Tryz.f137.body).getD .skip
def a137 : Ann := (.seq .leaf (.seq .leaf .leaf))
theorem ok137 : okC tab 11 true c137 a137 = true := by kernel_rfl
theorem vc137 (r_b r_o : Nat) (h : Heap) (R : Value → Heap → Prop)
  (hv : ∃ t1 : Bool, cellH h r_b (r_o + 1) = some (.bool t1) ∧
   R (.bool t1) h) :
  CallsH Tryz.prog 137 #[.pointer (some ⟨r_b, r_o, none⟩)] h R :=
  calls_of_vc tabOk mixed Tryz.func137 (c := c137) (by kernel_rfl) (n := 11) rfl (rs := [.tmp 2]) (by kernel_rfl) ok137 (args := [.pointer (some ⟨r_b, r_o, none⟩)]) (Nat.le_of_ble_eq_true rfl) (Eq.mpr (by kernel_rfl) hv)
end Go.Sx.Tryz
namespace Go.Sx.Tryz
open Go Go.Sx Go.Proofs
set_option maxRecDepth 100000
set_option linter.unusedVariables false
noncomputable def c138 : Code := (Tryz.f138.body).getD .skip
def a138 : Ann := (.seq .leaf (.seq (.seq .leaf (.br (.seq .leaf .leaf) .leaf)) (.seq .leaf .leaf)))
theorem ok138 : okC tab 10 true c138 a138 = true := by kernel_rfl
theorem vc138 (r_b r_o : Nat) (h : Heap) (R : Value → Heap → Prop)
  (hv : ∃ x1 : Sl, cellH h r_b r_o = some (.slice x1.a x1.l x1.c) ∧
   R (.int .i64 ((x1.l : Nat) : Int)) h) :
  CallsH Tryz.prog 138 #[.pointer (some ⟨r_b, r_o, none⟩)] h R :=
  calls_of_vc tabOk mixed Tryz.func138 (c := c138) (by kernel_rfl) (n := 10) rfl (rs := [.tmp 2]) (by kernel_rfl) ok138 (args := [.pointer (some ⟨r_b, r_o, none⟩)]) (Nat.le_of_ble_eq_true rfl) (Eq.mpr (by kernel_rfl) hv)
end Go.Sx.Tryz
namespace Go.Sx.Tryz
open Go Go.Sx Go.Proofs
set_option maxRecDepth 100000
set_option linter.unusedVariables false
noncomputable def c140 : Code := (Tryz.f140.body).getD .skip
def a140 : Ann := (.seq .leaf (.seq .leaf .leaf))
theorem ok140 : okC tab 6 true c140 a140 = true := by kernel_rfl
theorem vc140 (r_b r_o : Nat) (h : Heap) (R : Value → Heap → Prop)
  (hv : CallsH Tryz.prog 136 #[.pointer (some ⟨r_b, r_o, none⟩), .int .u64 1] h (fun r1 h1 => ∃ n1 : Int, r1 = .int .u64 n1 ∧
   R (.bool ((n1 : Int) == 1)) h1)) :
  CallsH Tryz.prog 140 #[.pointer (some ⟨r_b, r_o, none⟩)] h R :=
  calls_of_vc tabOk mixed Tryz.func140 (c := c140) (by kernel_rfl) (n := 6) rfl (rs := [.tmp 2]) (by kernel_rfl) ok140 (args := [.pointer (some ⟨r_b, r_o, none⟩)]) (Nat.le_of_ble_eq_true rfl) (Eq.mpr (by kernel_rfl) hv)
end Go.Sx.Tryz
namespace Go.Sx.Tryz
open Go Go.Sx Go.Proofs
set_option maxRecDepth 100000
set_option linter.unusedVariables false
noncomputable def c141 : Code := (Tryz.f141.body).getD .skip
def a141 : Ann := (.seq .leaf (.seq (.inn (.seq .leaf (.br (.seq .leaf .leaf) (.seq .leaf (.br (.seq .leaf .leaf) .leaf))))) (.seq .leaf .leaf)))
theorem ok141 : okC tab 19 true c141 a141 = true := by kernel_rfl
theorem vc141 (r_b r_o : Nat) (h : Heap) (R : Value → Heap → Prop)
  (hv : ∃ t1 : Bool, cellH h r_b (r_o + 1) = some (.bool t1) ∧
   CondP t1 (
   R (.int .i64 20) h) (
   ∃ x1 : Sl, cellH h r_b r_o = some (.slice x1.a x1.l x1.c) ∧
   CondP (decide ((((x1.l : Nat) : Int) : Int) > 0)) (
   R (.int .i64 20) h) (
   R (.int .i64 0) h))) :
  CallsH Tryz.prog 141 #[.pointer (some ⟨r_b, r_o, none⟩)] h R :=
  calls_of_vc tabOk mixed Tryz.func141 (c := c141) (by kernel_rfl) (n := 19) rfl (rs := [.tmp 2]) (by kernel_rfl) ok141 (args := [.pointer (some ⟨r_b, r_o, none⟩)]) (Nat.le_of_ble_eq_true rfl) (Eq.mpr (by kernel_rfl) hv)
end Go.Sx.Tryz
namespace Go.Sx.Tryz
open Go Go.Sx Go.Proofs
set_option maxRecDepth 100000
set_option linter.unusedVariables false
noncomputable def c168 : Code := (Tryz.f168.body).getD .skip
def a168 : Ann := (.seq .leaf (.seq (.seq .leaf (.br (.seq .leaf .leaf) .leaf)) (.seq (.seq .leaf (.br (.seq .leaf (.seq .leaf .leaf)) .leaf)) (.seq .leaf (.seq .leaf (.seq (.seq (.reg (.q 0 (.q 1 (.q 2 (.q 3 (.q 4 (.q 5 (.q 6 (.q 7 (.fin)))))))))) (.br (.seq .leaf (.seq .leaf .leaf)) .leaf)) (.seq .leaf .leaf)))))))
theorem ok168 : okC tab 30 true c168 a168 = true := by kernel_rfl
theorem vc168 (r_b r_o : Nat) (most_ : Int) (h : Heap) (R : Value → Heap → Prop)
  (hv : ∀ b1 h1, Fresh h (.cells #[.pointer (some ⟨r_b, r_o, none⟩)] 203) b1 h1 →
   ∃ p1 : Option Addr, cellH h1 b1 0 = some (.pointer p1) ∧
   CondP p1.isNone (
   R (.string ⟨#[]⟩) h1) (
   CondP (decide ((most_ : Int) < 0)) (
   ∃ p2 : Option Addr, cellH h1 b1 0 = some (.pointer p2) ∧
   CallsH Tryz.prog 170 #[.pointer p2] h1 (fun r1 h2 => r1 = .tuple #[] ∧
   R (.string ⟨#[]⟩) h2)) (
   ∃ p3 : Option Addr, cellH h1 b1 0 = some (.pointer p3) ∧
   CallsH Tryz.prog 136 #[.pointer p3, .int .u64 (IntKind.u64.wrap most_)] h1 (fun r2 h3 => ∃ n1 : Int, r2 = .int .u64 n1 ∧
   ∀ b2 h4, Fresh h3 (.cells #[.int .u64 0] 32) b2 h4 →
   CanSt h4 b2 0 [.int .u64 n1] ∧ ∀ h5, Stored h4 b2 0 [.int .u64 n1] h5 →
   ∃ n2 : Int, cellH h5 b2 0 = some (.int .u64 n2) ∧
   ∃ p4 : Option Addr, cellH h5 b1 0 = some (.pointer p4) ∧
   NilP p4 (fun b3 o1 =>
   ∃ x1 : Sl, cellH h5 b3 o1 = some (.slice x1.a x1.l x1.c) ∧
   CondP (decide ((n2 : Int) > (IntKind.u64.wrap ((x1.l : Nat) : Int)))) (
   ∃ p5 : Option Addr, cellH h5 b1 0 = some (.pointer p5) ∧
   CallsH Tryz.prog 170 #[.pointer p5] h5 (fun r3 h6 => r3 = .tuple #[] ∧
   R (.string ⟨#[]⟩) h6)) (
   CallV Tryz.prog (.func (.func 182) #[] #[.pointer (some ⟨b1, 0, none⟩), .pointer (some ⟨b2, 0, none⟩)]) [] h5 (fun r4 h7 => ∃ s1 : ByteArray, r4 = .string s1 ∧
   R (.string s1) h7))))))) :
  CallsH Tryz.prog 168 #[.pointer (some ⟨r_b, r_o, none⟩), .int .i64 most_] h R :=
  calls_of_vc tabOk mixed Tryz.func168 (c := c168) (by kernel_rfl) (n := 30) rfl (rs := [.tmp 4]) (by kernel_rfl) ok168 (args := [.pointer (some ⟨r_b, r_o, none⟩), .int .i64 most_]) (Nat.le_of_ble_eq_true rfl) (Eq.mpr (by kernel_rfl) hv)
end Go.Sx.Tryz
namespace Go.Sx.Tryz
open Go Go.Sx Go.Proofs
set_option maxRecDepth 100000
set_option linter.unusedVariables false
noncomputable def c169 : Code := (Tryz.f169.body).getD .skip
def a169 : Ann := (.seq .leaf (.seq (.seq .leaf (.br (.seq .leaf .leaf) .leaf)) (.seq (.seq .leaf (.br (.seq .leaf .leaf) .leaf)) (.seq (.seq .leaf (.br (.seq .leaf .leaf) .leaf)) (.seq .leaf .leaf)))))
theorem ok169 : okC tab 25 true c169 a169 = true := by kernel_rfl
theorem vc169 (x_ : Int) (h : Heap) (R : Value → Heap → Prop)
  (hv : CondP (decide ((x_ : Int) ≥ 4294967296)) (
   (0 : Int) ≤ 32 ∧
   CondP (decide ((shrV .u64 x_ 32 : Int) ≥ 65536)) (
   (0 : Int) ≤ 16 ∧
   CondP (decide ((shrV .u64 (shrV .u64 x_ 32) 16 : Int) ≥ 256)) (
   (0 : Int) ≤ 8 ∧
   ∃ n1 : Int, (∀ w : World, (Instr.index 9 (.string ⟨#[0, 1, 2, 2, 3, 3, 3, 3, 4, 4, 4, 4, 4, 4, 4, 4, 5, 5, 5, 5, 5, 5, 5, 5, 5, 5, 5, 5, 5, 5, 5, 5, 6, 6, 6, 6, 6, 6, 6, 6, 6, 6, 6, 6, 6, 6, 6, 6, 6, 6, 6, 6, 6, 6, 6, 6, 6, 6, 6, 6, 6, 6, 6, 6, 7, 7, 7, 7, 7, 7, 7, 7, 7, 7, 7, 7, 7, 7, 7, 7, 7, 7, 7, 7, 7, 7, 7, 7, 7, 7, 7, 7, 7, 7, 7, 7, 7, 7, 7, 7, 7, 7, 7, 7, 7, 7, 7, 7, 7, 7, 7, 7, 7, 7, 7, 7, 7, 7, 7, 7, 7, 7, 7, 7, 7, 7, 7, 7, 8, 8, 8, 8, 8, 8, 8, 8, 8, 8, 8, 8, 8, 8, 8, 8, 8, 8, 8, 8, 8, 8, 8, 8, 8, 8, 8, 8, 8, 8, 8, 8, 8, 8, 8, 8, 8, 8, 8, 8, 8, 8, 8, 8, 8, 8, 8, 8, 8, 8, 8, 8, 8, 8, 8, 8, 8, 8, 8, 8, 8, 8, 8, 8, 8, 8, 8, 8, 8, 8, 8, 8, 8, 8, 8, 8, 8, 8, 8, 8, 8, 8, 8, 8, 8, 8, 8, 8, 8, 8, 8, 8, 8, 8, 8, 8, 8, 8, 8, 8, 8, 8, 8, 8, 8, 8, 8, 8, 8, 8, 8, 8, 8, 8, 8, 8, 8, 8, 8, 8, 8, 8, 8, 8, 8, 8, 8, 8]⟩) (.int .u8 (IntKind.u8.wrap (shrV .u64 (shrV .u64 (shrV .u64 x_ 32) 16) 8)))).run Tryz.prog w = .ok (.int .u8 n1) w) ∧
   R (.int .i64 (IntKind.i64.wrap ((IntKind.i64.wrap ((IntKind.i64.wrap (32 + 16)) + 8)) + (IntKind.i64.wrap n1)))) h) (
   ∃ n2 : Int, (∀ w : World, (Instr.index 9 (.string ⟨#[0, 1, 2, 2, 3, 3, 3, 3, 4, 4, 4, 4, 4, 4, 4, 4, 5, 5, 5, 5, 5, 5, 5, 5, 5, 5, 5, 5, 5, 5, 5, 5, 6, 6, 6, 6, 6, 6, 6, 6, 6, 6, 6, 6, 6, 6, 6, 6, 6, 6, 6, 6, 6, 6, 6, 6, 6, 6, 6, 6, 6, 6, 6, 6, 7, 7, 7, 7, 7, 7, 7, 7, 7, 7, 7, 7, 7, 7, 7, 7, 7, 7, 7, 7, 7, 7, 7, 7, 7, 7, 7, 7, 7, 7, 7, 7, 7, 7, 7, 7, 7, 7, 7, 7, 7, 7, 7, 7, 7, 7, 7, 7, 7, 7, 7, 7, 7, 7, 7, 7, 7, 7, 7, 7, 7, 7, 7, 7, 8, 8, 8, 8, 8, 8, 8, 8, 8, 8, 8, 8, 8, 8, 8, 8, 8, 8, 8, 8, 8, 8, 8, 8, 8, 8, 8, 8, 8, 8, 8, 8, 8, 8, 8, 8, 8, 8, 8, 8, 8, 8, 8, 8, 8, 8, 8, 8, 8, 8, 8, 8, 8, 8, 8, 8, 8, 8, 8, 8, 8, 8, 8, 8, 8, 8, 8, 8, 8, 8, 8, 8, 8, 8, 8, 8, 8, 8, 8, 8, 8, 8, 8, 8, 8, 8, 8, 8, 8, 8, 8, 8, 8, 8, 8, 8, 8, 8, 8, 8, 8, 8, 8, 8, 8, 8, 8, 8, 8, 8, 8, 8, 8, 8, 8, 8, 8, 8, 8, 8, 8, 8, 8, 8, 8, 8, 8, 8]⟩) (.int .u8 (IntKind.u8.wrap (shrV .u64 (shrV .u64 x_ 32) 16)))).run Tryz.prog w = .ok (.int .u8 n2) w) ∧
   R (.int .i64 (IntKind.i64.wrap ((IntKind.i64.wrap (32 + 16)) + (IntKind.i64.wrap n2)))) h)) (
   CondP (decide ((shrV .u64 x_ 32 : Int) ≥ 256)) (
   (0 : Int) ≤ 8 ∧
   ∃ n3 : Int, (∀ w : World, (Instr.index 9 (.string ⟨#[0, 1, 2, 2, 3, 3, 3, 3, 4, 4, 4, 4, 4, 4, 4, 4, 5, 5, 5, 5, 5, 5, 5, 5, 5, 5, 5, 5, 5, 5, 5, 5, 6, 6, 6, 6, 6, 6, 6, 6, 6, 6, 6, 6, 6, 6, 6, 6, 6, 6, 6, 6, 6, 6, 6, 6, 6, 6, 6, 6, 6, 6, 6, 6, 7, 7, 7, 7, 7, 7, 7, 7, 7, 7, 7, 7, 7, 7, 7, 7, 7, 7, 7, 7, 7, 7, 7, 7, 7, 7, 7, 7, 7, 7, 7, 7, 7, 7, 7, 7, 7, 7, 7, 7, 7, 7, 7, 7, 7, 7, 7, 7, 7, 7, 7, 7, 7, 7, 7, 7, 7, 7, 7, 7, 7, 7, 7, 7, 8, 8, 8, 8, 8, 8, 8, 8, 8, 8, 8, 8, 8, 8, 8, 8, 8, 8, 8, 8, 8, 8, 8, 8, 8, 8, 8, 8, 8, 8, 8, 8, 8, 8, 8, 8, 8, 8, 8, 8, 8, 8, 8, 8, 8, 8, 8, 8, 8, 8, 8, 8, 8, 8, 8, 8, 8, 8, 8, 8, 8, 8, 8, 8, 8, 8, 8, 8, 8, 8, 8, 8, 8, 8, 8, 8, 8, 8, 8, 8, 8, 8, 8, 8, 8, 8, 8, 8, 8, 8, 8, 8, 8, 8, 8, 8, 8, 8, 8, 8, 8, 8, 8, 8, 8, 8, 8, 8, 8, 8, 8, 8, 8, 8, 8, 8, 8, 8, 8, 8, 8, 8, 8, 8, 8, 8, 8, 8]⟩) (.int .u8 (IntKind.u8.wrap (shrV .u64 (shrV .u64 x_ 32) 8)))).run Tryz.prog w = .ok (.int .u8 n3) w) ∧
   R (.int .i64 (IntKind.i64.wrap ((IntKind.i64.wrap (32 + 8)) + (IntKind.i64.wrap n3)))) h) (
   ∃ n4 : Int, (∀ w : World, (Instr.index 9 (.string ⟨#[0, 1, 2, 2, 3, 3, 3, 3, 4, 4, 4, 4, 4, 4, 4, 4, 5, 5, 5, 5, 5, 5, 5, 5, 5, 5, 5, 5, 5, 5, 5, 5, 6, 6, 6, 6, 6, 6, 6, 6, 6, 6, 6, 6, 6, 6, 6, 6, 6, 6, 6, 6, 6, 6, 6, 6, 6, 6, 6, 6, 6, 6, 6, 6, 7, 7, 7, 7, 7, 7, 7, 7, 7, 7, 7, 7, 7, 7, 7, 7, 7, 7, 7, 7, 7, 7, 7, 7, 7, 7, 7, 7, 7, 7, 7, 7, 7, 7, 7, 7, 7, 7, 7, 7, 7, 7, 7, 7, 7, 7, 7, 7, 7, 7, 7, 7, 7, 7, 7, 7, 7, 7, 7, 7, 7, 7, 7, 7, 8, 8, 8, 8, 8, 8, 8, 8, 8, 8, 8, 8, 8, 8, 8, 8, 8, 8, 8, 8, 8, 8, 8, 8, 8, 8, 8, 8, 8, 8, 8, 8, 8, 8, 8, 8, 8, 8, 8, 8, 8, 8, 8, 8, 8, 8, 8, 8, 8, 8, 8, 8, 8, 8, 8, 8, 8, 8, 8, 8, 8, 8, 8, 8, 8, 8, 8, 8, 8, 8, 8, 8, 8, 8, 8, 8, 8, 8, 8, 8, 8, 8, 8, 8, 8, 8, 8, 8, 8, 8, 8, 8, 8, 8, 8, 8, 8, 8, 8, 8, 8, 8, 8, 8, 8, 8, 8, 8, 8, 8, 8, 8, 8, 8, 8, 8, 8, 8, 8, 8, 8, 8, 8, 8, 8, 8, 8, 8]⟩) (.int .u8 (IntKind.u8.wrap (shrV .u64 x_ 32)))).run Tryz.prog w = .ok (.int .u8 n4) w) ∧
   R (.int .i64 (IntKind.i64.wrap (32 + (IntKind.i64.wrap n4)))) h))) (
   CondP (decide ((x_ : Int) ≥ 65536)) (
   (0 : Int) ≤ 16 ∧
   CondP (decide ((shrV .u64 x_ 16 : Int) ≥ 256)) (
   (0 : Int) ≤ 8 ∧
   ∃ n5 : Int, (∀ w : World, (Instr.index 9 (.string ⟨#[0, 1, 2, 2, 3, 3, 3, 3, 4, 4, 4, 4, 4, 4, 4, 4, 5, 5, 5, 5, 5, 5, 5, 5, 5, 5, 5, 5, 5, 5, 5, 5, 6, 6, 6, 6, 6, 6, 6, 6, 6, 6, 6, 6, 6, 6, 6, 6, 6, 6, 6, 6, 6, 6, 6, 6, 6, 6, 6, 6, 6, 6, 6, 6, 7, 7, 7, 7, 7, 7, 7, 7, 7, 7, 7, 7, 7, 7, 7, 7, 7, 7, 7, 7, 7, 7, 7, 7, 7, 7, 7, 7, 7, 7, 7, 7, 7, 7, 7, 7, 7, 7, 7, 7, 7, 7, 7, 7, 7, 7, 7, 7, 7, 7, 7, 7, 7, 7, 7, 7, 7, 7, 7, 7, 7, 7, 7, 7, 8, 8, 8, 8, 8, 8, 8, 8, 8, 8, 8, 8, 8, 8, 8, 8, 8, 8, 8, 8, 8, 8, 8, 8, 8, 8, 8, 8, 8, 8, 8, 8, 8, 8, 8, 8, 8, 8, 8, 8, 8, 8, 8, 8, 8, 8, 8, 8, 8, 8, 8, 8, 8, 8, 8, 8, 8, 8, 8, 8, 8, 8, 8, 8, 8, 8, 8, 8, 8, 8, 8, 8, 8, 8, 8, 8, 8, 8, 8, 8, 8, 8, 8, 8, 8, 8, 8, 8, 8, 8, 8, 8, 8, 8, 8, 8, 8, 8, 8, 8, 8, 8, 8, 8, 8, 8, 8, 8, 8, 8, 8, 8, 8, 8, 8, 8, 8, 8, 8, 8, 8, 8, 8, 8, 8, 8, 8, 8]⟩) (.int .u8 (IntKind.u8.wrap (shrV .u64 (shrV .u64 x_ 16) 8)))).run Tryz.prog w = .ok (.int .u8 n5) w) ∧
   R (.int .i64 (IntKind.i64.wrap ((IntKind.i64.wrap ((IntKind.i64.wrap (0 + 16)) + 8)) + (IntKind.i64.wrap n5)))) h) (
   ∃ n6 : Int, (∀ w : World, (Instr.index 9 (.string ⟨#[0, 1, 2, 2, 3, 3, 3, 3, 4, 4, 4, 4, 4, 4, 4, 4, 5, 5, 5, 5, 5, 5, 5, 5, 5, 5, 5, 5, 5, 5, 5, 5, 6, 6, 6, 6, 6, 6, 6, 6, 6, 6, 6, 6, 6, 6, 6, 6, 6, 6, 6, 6, 6, 6, 6, 6, 6, 6, 6, 6, 6, 6, 6, 6, 7, 7, 7, 7, 7, 7, 7, 7, 7, 7, 7, 7, 7, 7, 7, 7, 7, 7, 7, 7, 7, 7, 7, 7, 7, 7, 7, 7, 7, 7, 7, 7, 7, 7, 7, 7, 7, 7, 7, 7, 7, 7, 7, 7, 7, 7, 7, 7, 7, 7, 7, 7, 7, 7, 7, 7, 7, 7, 7, 7, 7, 7, 7, 7, 8, 8, 8, 8, 8, 8, 8, 8, 8, 8, 8, 8, 8, 8, 8, 8, 8, 8, 8, 8, 8, 8, 8, 8, 8, 8, 8, 8, 8, 8, 8, 8, 8, 8, 8, 8, 8, 8, 8, 8, 8, 8, 8, 8, 8, 8, 8, 8, 8, 8, 8, 8, 8, 8, 8, 8, 8, 8, 8, 8, 8, 8, 8, 8, 8, 8, 8, 8, 8, 8, 8, 8, 8, 8, 8, 8, 8, 8, 8, 8, 8, 8, 8, 8, 8, 8, 8, 8, 8, 8, 8, 8, 8, 8, 8, 8, 8, 8, 8, 8, 8, 8, 8, 8, 8, 8, 8, 8, 8, 8, 8, 8, 8, 8, 8, 8, 8, 8, 8, 8, 8, 8, 8, 8, 8, 8, 8, 8]⟩) (.int .u8 (IntKind.u8.wrap (shrV .u64 x_ 16)))).run Tryz.prog w = .ok (.int .u8 n6) w) ∧
   R (.int .i64 (IntKind.i64.wrap ((IntKind.i64.wrap (0 + 16)) + (IntKind.i64.wrap n6)))) h)) (
   CondP (decide ((x_ : Int) ≥ 256)) (
   (0 : Int) ≤ 8 ∧
   ∃ n7 : Int, (∀ w : World, (Instr.index 9 (.string ⟨#[0, 1, 2, 2, 3, 3, 3, 3, 4, 4, 4, 4, 4, 4, 4, 4, 5, 5, 5, 5, 5, 5, 5, 5, 5, 5, 5, 5, 5, 5, 5, 5, 6, 6, 6, 6, 6, 6, 6, 6, 6, 6, 6, 6, 6, 6, 6, 6, 6, 6, 6, 6, 6, 6, 6, 6, 6, 6, 6, 6, 6, 6, 6, 6, 7, 7, 7, 7, 7, 7, 7, 7, 7, 7, 7, 7, 7, 7, 7, 7, 7, 7, 7, 7, 7, 7, 7, 7, 7, 7, 7, 7, 7, 7, 7, 7, 7, 7, 7, 7, 7, 7, 7, 7, 7, 7, 7, 7, 7, 7, 7, 7, 7, 7, 7, 7, 7, 7, 7, 7, 7, 7, 7, 7, 7, 7, 7, 7, 8, 8, 8, 8, 8, 8, 8, 8, 8, 8, 8, 8, 8, 8, 8, 8, 8, 8, 8, 8, 8, 8, 8, 8, 8, 8, 8, 8, 8, 8, 8, 8, 8, 8, 8, 8, 8, 8, 8, 8, 8, 8, 8, 8, 8, 8, 8, 8, 8, 8, 8, 8, 8, 8, 8, 8, 8, 8, 8, 8, 8, 8, 8, 8, 8, 8, 8, 8, 8, 8, 8, 8, 8, 8, 8, 8, 8, 8, 8, 8, 8, 8, 8, 8, 8, 8, 8, 8, 8, 8, 8, 8, 8, 8, 8, 8, 8, 8, 8, 8, 8, 8, 8, 8, 8, 8, 8, 8, 8, 8, 8, 8, 8, 8, 8, 8, 8, 8, 8, 8, 8, 8, 8, 8, 8, 8, 8, 8]⟩) (.int .u8 (IntKind.u8.wrap (shrV .u64 x_ 8)))).run Tryz.prog w = .ok (.int .u8 n7) w) ∧
   R (.int .i64 (IntKind.i64.wrap ((IntKind.i64.wrap (0 + 8)) + (IntKind.i64.wrap n7)))) h) (
   ∃ n8 : Int, (∀ w : World, (Instr.index 9 (.string ⟨#[0, 1, 2, 2, 3, 3, 3, 3, 4, 4, 4, 4, 4, 4, 4, 4, 5, 5, 5, 5, 5, 5, 5, 5, 5, 5, 5, 5, 5, 5, 5, 5, 6, 6, 6, 6, 6, 6, 6, 6, 6, 6, 6, 6, 6, 6, 6, 6, 6, 6, 6, 6, 6, 6, 6, 6, 6, 6, 6, 6, 6, 6, 6, 6, 7, 7, 7, 7, 7, 7, 7, 7, 7, 7, 7, 7, 7, 7, 7, 7, 7, 7, 7, 7, 7, 7, 7, 7, 7, 7, 7, 7, 7, 7, 7, 7, 7, 7, 7, 7, 7, 7, 7, 7, 7, 7, 7, 7, 7, 7, 7, 7, 7, 7, 7, 7, 7, 7, 7, 7, 7, 7, 7, 7, 7, 7, 7, 7, 8, 8, 8, 8, 8, 8, 8, 8, 8, 8, 8, 8, 8, 8, 8, 8, 8, 8, 8, 8, 8, 8, 8, 8, 8, 8, 8, 8, 8, 8, 8, 8, 8, 8, 8, 8, 8, 8, 8, 8, 8, 8, 8, 8, 8, 8, 8, 8, 8, 8, 8, 8, 8, 8, 8, 8, 8, 8, 8, 8, 8, 8, 8, 8, 8, 8, 8, 8, 8, 8, 8, 8, 8, 8, 8, 8, 8, 8, 8, 8, 8, 8, 8, 8, 8, 8, 8, 8, 8, 8, 8, 8, 8, 8, 8, 8, 8, 8, 8, 8, 8, 8, 8, 8, 8, 8, 8, 8, 8, 8, 8, 8, 8, 8, 8, 8, 8, 8, 8, 8, 8, 8, 8, 8, 8, 8, 8, 8]⟩) (.int .u8 (IntKind.u8.wrap x_))).run Tryz.prog w = .ok (.int .u8 n8) w) ∧
   R (.int .i64 (IntKind.i64.wrap (0 + (IntKind.i64.wrap n8)))) h)))) :
  CallsH Tryz.prog 169 #[.int .u64 x_] h R :=
  calls_of_vc tabOk mixed Tryz.func169 (c := c169) (by kernel_rfl) (n := 25) rfl (rs := [.tmp 2]) (by kernel_rfl) ok169 (args := [.int .u64 x_]) (Nat.le_of_ble_eq_true rfl) (Eq.mpr (by kernel_rfl) hv)
end Go.Sx.Tryz
namespace Go.Sx.Tryz
open Go Go.Sx Go.Proofs
set_option maxRecDepth 100000
set_option linter.unusedVariables false
noncomputable def c170 : Code := (Tryz.f170.body).getD .skip
def a170 : Ann := (.seq .leaf (.br .leaf .leaf))
theorem ok170 : okC tab 10 true c170 a170 = true := by kernel_rfl
theorem vc170 (r_b r_o : Nat) (h : Heap) (R : Value → Heap → Prop)
  (hv : CanSt h r_b r_o [.slice none 0 0] ∧ ∀ h1, Stored h r_b r_o [.slice none 0 0] h1 →
   CanSt h1 r_b (r_o + 1) [.bool true] ∧ ∀ h2, Stored h1 r_b (r_o + 1) [.bool true] h2 →
   R (.tuple #[]) h2) :
  CallsH Tryz.prog 170 #[.pointer (some ⟨r_b, r_o, none⟩)] h R :=
  calls_of_vc tabOk mixed Tryz.func170 (c := c170) (by kernel_rfl) (n := 10) rfl (rs := []) (by kernel_rfl) ok170 (args := [.pointer (some ⟨r_b, r_o, none⟩)]) (Nat.le_of_ble_eq_true rfl) (Eq.mpr (by kernel_rfl) hv)
end Go.Sx.Tryz
namespace Go.Sx.Tryz
open Go Go.Sx Go.Proofs
set_option maxRecDepth 100000
set_option linter.unusedVariables false
noncomputable def c182 : Code := (Tryz.f182.body).getD .skip
def a182 : Ann := (.seq .leaf (.seq (.reg (.q 0 (.q 1 (.q 2 (.q 3 (.q 4 (.q 5 (.q 6 (.q 7 (.fin)))))))))) (.seq (.reg (.q 0 (.q 1 (.q 2 (.q 3 (.q 4 (.q 5 (.q 6 (.q 7 (.q 8 (.m 9 (.fin) (.nil)))))))))))) (.seq .leaf .leaf))))
theorem ok182 : okC tab 21 true c182 a182 = true := by kernel_rfl
theorem vc182 (c0_b c0_o : Nat) (c1_b c1_o : Nat) (h : Heap) (R : Value → Heap → Prop)
  (hv : ∃ p1 : Option Addr, cellH h c0_b c0_o = some (.pointer p1) ∧
   NilP p1 (fun b1 o1 =>
   ∃ x1 : Sl, cellH h b1 o1 = some (.slice x1.a x1.l x1.c) ∧
   ∃ n1 : Int, cellH h c1_b c1_o = some (.int .u64 n1) ∧
   ((0 : Int) ≤ (0 : Int) ∧ (0 : Int) ≤ n1 ∧ n1 ≤ ((x1.c : Nat) : Int)) ∧
   ∃ s1 : ByteArray, StrOf h (subA x1.a 0 x1.c 1) n1.toNat s1 ∧
   ∃ p2 : Option Addr, cellH h c0_b c0_o = some (.pointer p2) ∧
   ∃ p3 : Option Addr, cellH h c0_b c0_o = some (.pointer p3) ∧
   NilP p3 (fun b2 o2 =>
   ∃ x2 : Sl, cellH h b2 o2 = some (.slice x2.a x2.l x2.c) ∧
   ∃ n2 : Int, cellH h c1_b c1_o = some (.int .u64 n2) ∧
   ((0 : Int) ≤ n2 ∧ n2 ≤ ((x2.l : Nat) : Int)) ∧
   NilP p2 (fun b3 o3 =>
   CanSt h b3 o3 [.slice (subA x2.a n2.toNat x2.c 1) (x2.l - n2.toNat) (x2.c - n2.toNat)] ∧ ∀ h1, Stored h b3 o3 [.slice (subA x2.a n2.toNat x2.c 1) (x2.l - n2.toNat) (x2.c - n2.toNat)] h1 →
   R (.string s1) h1)))) :
  CallsH Tryz.prog 182 #[.pointer (some ⟨c0_b, c0_o, none⟩), .pointer (some ⟨c1_b, c1_o, none⟩)] h R :=
  calls_of_vc tabOk mixed Tryz.func182 (c := c182) (by kernel_rfl) (n := 21) rfl (rs := [.tmp 2]) (by kernel_rfl) ok182 (args := [.pointer (some ⟨c0_b, c0_o, none⟩), .pointer (some ⟨c1_b, c1_o, none⟩)]) (Nat.le_of_ble_eq_true rfl) (Eq.mpr (by kernel_rfl) hv)
end Go.Sx.Tryz
namespace Go.Sx.Tryz
open Go Go.Sx Go.Proofs
set_option linter.unusedVariables false
theorem Rd.drop {S : PH} {v : Sl} {sz : Nat} {xs : List Value} (h : Rd S v sz xs) {k : Nat} (hk : k ≤ v.l) : Rd S ⟨subA v.a k v.c sz, v.l - k, v.c - k⟩ sz (xs.drop (k * sz)) := by
  obtain ⟨h1, h2, h3⟩ := h
  refine ⟨by rw [List.length_drop, h1, Nat.sub_mul], by show v.l - k ≤ v.c - k; omega, ?_⟩
  rcases h3 with h3 | ⟨b, o, c, T, fz, g1, g2, g3⟩
  · left; show v.l - k = 0; omega
  · unfold subA
    by_cases e : v.c = k
    · left; show v.l - k = 0; omega
    · rw [if_neg e, g1]
      refine .inr ⟨b, o + k * sz, c, T, fz, by simp [addr_add], g2, fun j x hx => ?_⟩
      rw [List.getElem?_drop] at hx
      have := g3 _ _ hx
      rwa [Nat.add_assoc]
theorem Rd.take {S : PH} {v : Sl} {sz : Nat} {xs : List Value} (h : Rd S v sz xs) {k m : Nat} (hk : k ≤ v.l) (hm : k ≤ m) : Rd S ⟨v.a, k, m⟩ sz (xs.take (k * sz)) := by
  obtain ⟨h1, h2, h3⟩ := h
  refine ⟨by rw [List.length_take, h1]; exact Nat.min_eq_left (Nat.mul_le_mul_right _ hk), hm, ?_⟩
  rcases h3 with h3 | ⟨b, o, c, T, fz, g1, g2, g3⟩
  · left; show k = 0; omega
  · refine .inr ⟨b, o, c, T, fz, g1, g2, fun j x hx => g3 j x ?_⟩
    rw [List.getElem?_take] at hx
    split at hx
    · exact hx
    · cases hx
theorem RdB.drop {S : PH} {v : Sl} {xs : List UInt8} (h : RdB S v xs) {k : Nat} (hk : k ≤ v.l) : RdB S ⟨subA v.a k v.c 1, v.l - k, v.c - k⟩ (xs.drop k) := by
  have := Rd.drop h hk
  rw [Nat.mul_one] at this
  unfold RdB bv
  rw [List.map_drop]
  exact this
theorem RdB.get {S : PH} {v : Sl} {xs : List UInt8} (h : RdB S v xs) {H : Heap} {L : List Asn} (hs : Sat H S L) {k : Nat} {c : UInt8} (hc : xs[k]? = some c) : ∃ b o, v.a = some ⟨b, o, none⟩ ∧ cellH H b (o + k) = some (.int .u8 (c.toNat : Int)) := by
  have hk : k < xs.length := (List.getElem?_eq_some_iff.1 hc).1
  obtain ⟨b, o, h1, h2⟩ := Rd.at h hs (by rw [RdB.len h]; omega)
  exact ⟨b, o, h1, h2.get k _ (bv_get hc)⟩
theorem bOr_u64 {a b : Nat} (ha : a < 18446744073709551616) (hb : b < 18446744073709551616) : bOr .u64 (a : Int) (b : Int) = ((a ||| b : Nat) : Int) := by
  unfold bOr
  have h : ((BitVec.ofInt 64 (a : Int) ||| BitVec.ofInt 64 (b : Int)).toNat : Int) = ((a ||| b : Nat) : Int) := by
    rw [BitVec.toNat_or]
    simp only [BitVec.ofInt_natCast, BitVec.toNat_ofNat]
    rw [Nat.mod_eq_of_lt (by simpa using ha), Nat.mod_eq_of_lt (by simpa using hb)]
  show IntKind.u64.wrap _ = _
  have hlt : a ||| b < 18446744073709551616 := Nat.or_lt_two_pow (n := 64) (by simpa using ha) (by simpa using hb)
  rw [show ((BitVec.ofInt IntKind.u64.bits (a : Int) ||| BitVec.ofInt IntKind.u64.bits (b : Int)).toNat : Int) = ((a ||| b : Nat) : Int) from h]
  exact u64_in (by omega) (by omega)
theorem shl_u64 {g k : Nat} (hk : k ≤ 64) (h : g * 2 ^ k < 18446744073709551616) : shlV .u64 (g : Int) (k : Int) = ((g * 2 ^ k : Nat) : Int) := by
  unfold shlV
  have : min (k : Int).toNat IntKind.u64.bits = k := by rw [Int.toNat_natCast]; exact Nat.min_eq_left hk
  rw [this]
  have e : ((g : Int) * 2 ^ k) = ((g * 2 ^ k : Nat) : Int) := by norm_cast
  rw [e]
  exact u64_in (by omega) (by omega)
theorem or_add {a g k : Nat} (h : a < 2 ^ k) : a ||| (g * 2 ^ k) = a + g * 2 ^ k := by
  rw [Nat.or_comm, ← Nat.shiftLeft_eq, ← Nat.shiftLeft_add_eq_or_of_lt h, Nat.add_comm]
def lenTab : ByteArray := ⟨#[0, 1, 2, 2, 3, 3, 3, 3, 4, 4, 4, 4, 4, 4, 4, 4, 5, 5, 5, 5, 5, 5, 5, 5, 5, 5, 5, 5, 5, 5, 5, 5, 6, 6, 6, 6, 6, 6, 6, 6, 6, 6, 6, 6, 6, 6, 6, 6, 6, 6, 6, 6, 6, 6, 6, 6, 6, 6, 6, 6, 6, 6, 6, 6, 7, 7, 7, 7, 7, 7, 7, 7, 7, 7, 7, 7, 7, 7, 7, 7, 7, 7, 7, 7, 7, 7, 7, 7, 7, 7, 7, 7, 7, 7, 7, 7, 7, 7, 7, 7, 7, 7, 7, 7, 7, 7, 7, 7, 7, 7, 7, 7, 7, 7, 7, 7, 7, 7, 7, 7, 7, 7, 7, 7, 7, 7, 7, 7, 8, 8, 8, 8, 8, 8, 8, 8, 8, 8, 8, 8, 8, 8, 8, 8, 8, 8, 8, 8, 8, 8, 8, 8, 8, 8, 8, 8, 8, 8, 8, 8, 8, 8, 8, 8, 8, 8, 8, 8, 8, 8, 8, 8, 8, 8, 8, 8, 8, 8, 8, 8, 8, 8, 8, 8, 8, 8, 8, 8, 8, 8, 8, 8, 8, 8, 8, 8, 8, 8, 8, 8, 8, 8, 8, 8, 8, 8, 8, 8, 8, 8, 8, 8, 8, 8, 8, 8, 8, 8, 8, 8, 8, 8, 8, 8, 8, 8, 8, 8, 8, 8, 8, 8, 8, 8, 8, 8, 8, 8, 8, 8, 8, 8, 8, 8, 8, 8, 8, 8, 8, 8, 8, 8, 8, 8, 8, 8]⟩
theorem lenTab_le : ∀ x : Fin 128, ((lenTab.data.toList[x.val]?).getD 0).toNat ≤ 7 ∧ (x.val ≤ 1 → ((lenTab.data.toList[x.val]?).getD 0).toNat ≤ 1) := by decide +kernel
theorem index_tab {x : Nat} (h : x < 128) (w : World) : (Instr.index 9 (.string lenTab) (.int .u8 (x : Int))).run Tryz.prog w = .ok (.int .u8 (((lenTab.data.toList[x]?).getD 0).toNat : Int)) w := by
  have hs : lenTab.size = 256 := by decide +kernel
  have hx : x < lenTab.size := by omega
  simp only [Instr.index, asIntOf, Sem.run_bind, Sem.run_pure, Result.andThen_ok, run_underlying Tryz.underlying9]
  have h0 : (if (0 : Int) ≤ (x : Int) then lenTab[(x : Int).toNat]? else none) = some lenTab[x] := by
    rw [if_pos (by omega)]
    simp only [Int.toNat_natCast]
    exact ByteArray.getElem?_lt' _ _ hx
  rw [h0]
  have : (lenTab.data.toList[x]?).getD 0 = lenTab[x] := by
    have : lenTab.data[x]? = some lenTab[x] := Array.getElem?_eq_getElem hx
    rw [Array.getElem?_toList, this]; rfl
  rw [this]
  rfl
theorem Len_spec {H : Heap} {x : Nat} (hx : x < 128) {K : Value → Heap → Prop} (hk : ∀ r : Nat, r ≤ 7 → (x ≤ 1 → r ≤ 1) → K (.int .i64 (r : Int)) H) : CallsH Tryz.prog 169 #[.int .u64 (x : Int)] H K := by
  apply vc169
  refine CondP.of (fun hc => ?_) (fun _ => ?_)
  · simp at hc; omega
  refine CondP.of (fun hc => ?_) (fun _ => ?_)
  · simp at hc; omega
  refine CondP.of (fun hc => ?_) (fun _ => ?_)
  · simp at hc; omega
  rw [u8_in (n := (x : Int)) (by omega) (by omega)]
  obtain ⟨h1, h2⟩ := lenTab_le ⟨x, hx⟩
  refine ⟨_, index_tab hx, ?_⟩
  have e : IntKind.i64.wrap (0 + IntKind.i64.wrap ((((lenTab.data.toList[x]?).getD 0).toNat : Nat) : Int)) = ((((lenTab.data.toList[x]?).getD 0).toNat : Nat) : Int) := by
    rw [i64_in (n := ((((lenTab.data.toList[x]?).getD 0).toNat : Nat) : Int)) (by omega) (by simp only at h1; omega), i64_in (by omega) (by simp only at h1; omega)]
    omega
  rw [e]
  exact hk _ h1 h2
def rdr (b : Nat) (v : Sl) (t : Bool) : Asn := lst b 232 [.slice v.a v.l v.c, .bool t]
theorem ropen_spec {H : Heap} {S : PH} {R : List Asn} {v : Sl} (hs : Sat H S R) {K : Value → Heap → Prop} (hk : ∀ b H', Sat H' S (rdr b v false :: R) → K (.pointer (some ⟨b, 0, none⟩)) H') :
    CallsH Tryz.prog 135 #[.slice v.a v.l v.c] H K := by
  refine vc135 v H K fun b1 h1 hf => hk b1 h1 (hs.fresh hf)
theorem rbad_spec {H : Heap} {S : PH} {R : List Asn} {b : Nat} {v : Sl} {t : Bool} (hs : Sat H S (rdr b v t :: R)) {K : Value → Heap → Prop} (hk : K (.bool t) H) : CallsH Tryz.prog 137 #[.pointer (some ⟨b, 0, none⟩)] H K := by
  apply vc137
  exact ⟨t, hs.cell 1 rfl, hk⟩
theorem rleft_spec {H : Heap} {S : PH} {R : List Asn} {b : Nat} {v : Sl} {t : Bool} (hs : Sat H S (rdr b v t :: R)) {K : Value → Heap → Prop} (hk : K (.int .i64 (v.l : Int)) H) : CallsH Tryz.prog 138 #[.pointer (some ⟨b, 0, none⟩)] H K := by
  apply vc138
  exact ⟨v, hs.cell 0 rfl, hk⟩
theorem rend_spec {H : Heap} {S : PH} {R : List Asn} {b : Nat} {v : Sl} (hs : Sat H S (rdr b v false :: R)) (h0 : v.l = 0) {K : Value → Heap → Prop} (hk : K (.int .i64 0) H) : CallsH Tryz.prog 141 #[.pointer (some ⟨b, 0, none⟩)] H K := by
  apply vc141
  exact ⟨false, hs.cell 1 rfl, v, hs.cell 0 rfl, CondP.of (fun hc => by simp at hc; omega) fun _ => hk⟩
theorem rend_bad {H : Heap} {S : PH} {R : List Asn} {b : Nat} {v : Sl} {t : Bool} (hs : Sat H S (rdr b v t :: R)) (h0 : t = true ∨ 0 < v.l) {K : Value → Heap → Prop} (hk : K (.int .i64 20) H) : CallsH Tryz.prog 141 #[.pointer (some ⟨b, 0, none⟩)] H K := by
  apply vc141
  refine ⟨t, hs.cell 1 rfl, CondP.of (fun _ => hk) fun ht => ⟨v, hs.cell 0 rfl, CondP.of (fun _ => hk) fun hc => ?_⟩⟩
  simp at hc
  rcases h0 with h | h
  · rw [ht] at h; cases h
  · omega
theorem natB_cons (n : Nat) : ∃ c r, natB n = c :: r ∧ (c.toNat = if n < 128 then n else n % 128 + 128) ∧ (r = if n < 128 then [] else natB (n / 128)) := by
  by_cases h : n < 128
  · refine ⟨_, _, natB_small h, ?_, by rw [if_pos h]⟩
    rw [if_pos h]; simp; omega
  · refine ⟨_, _, natB_big h, ?_, by rw [if_neg h]⟩
    rw [if_neg h]; simp; omega
theorem rnat_spec {H : Heap} {S : PH} {R : List Asn} {b : Nat} {v : Sl} {n most : Nat} {rest : List UInt8} (hs : Sat H S (rdr b v false :: R)) (hv : RdB S v (natB n ++ rest)) (hn : n < 18446744073709551616) (hm : n ≤ most) (hm2 : most < 18446744073709551616) (hlen : rest.length < 1000000000000)
    {K : Value → Heap → Prop} (hk : ∀ v' H', RdB S v' rest → Sat H' S (rdr b v' false :: R) → K (.int .u64 (n : Int)) H') :
    CallsH Tryz.prog 136 #[.pointer (some ⟨b, 0, none⟩), .int .u64 (most : Int)] H K := by
  apply vc136
  have hl := RdB.len hv
  have h10 := natB_le hn
  rw [List.length_append] at hl
  refine ⟨v, hs.cell 0 rfl, ?_⟩
  refine ⟨fun n1 n2 h => ∃ acc i m : Nat, n1 = acc ∧ n2 = i ∧ Sat h S (rdr b v false :: R) ∧ (natB n ++ rest).drop i = natB m ++ rest ∧ acc < 2 ^ (7 * i) ∧ n = acc + m * 2 ^ (7 * i) ∧ i ≤ 9 ∧ (0 < i → 0 < m), fun _ n2 _ => v.l - n2.toNat, ⟨0, 0, n, rfl, rfl, hs, by simp, by simp, by simp, by simp, by simp⟩, ?_⟩
  rintro n1 n2 h1 ⟨acc, i, m, rfl, rfl, hs, hd, ha, hnm, hi9, hpos⟩ _
  obtain ⟨c, r, hc1, hc2, hc3⟩ := natB_cons m
  have hget : (natB n ++ rest)[i]? = some c := by
    have : ((natB n ++ rest).drop i)[0]? = some c := by rw [hd, hc1]; rfl
    rw [List.getElem?_drop] at this
    simpa using this
  have hilt : i < v.l := by
    have := (List.getElem?_eq_some_iff.1 hget).1
    rw [List.length_append] at this
    omega
  refine CondP.of (fun _ => ?_) (fun hc => by simp at hc; omega)
  refine ⟨⟨by omega, by omega⟩, ?_⟩
  obtain ⟨gb, go, ga, gc⟩ := hv.get hs hget
  refine NilP.of ga ⟨(c.toNat : Int), by simpa using gc, ?_⟩
  have hc256 := c.toNat_lt
  have hg : bAndNot .u8 (c.toNat : Int) 128 = ((c.toNat % 128 : Nat) : Int) := andNot128 ⟨c.toNat, hc256⟩
  have hgm : c.toNat % 128 = m % 128 := by
    rw [hc2]; split <;> omega
  rw [hg, hgm, u64_in (by omega) (by omega)]
  have hp7 : (2 : Nat) ^ (7 * i) * 2 ^ 7 = 2 ^ (7 * (i + 1)) := by rw [← Nat.pow_add]; rfl
  have hmlt : m * 2 ^ (7 * i) < 18446744073709551616 := by omega
  refine Len_spec (x := m % 128) (by omega) fun rr hr1 hr2 => ⟨(rr : Int), rfl, ?_⟩
  have hi7 : IntKind.i64.wrap (7 * (i : Int)) = ((7 * i : Nat) : Int) := by rw [i64_in (by omega) (by omega)]; norm_cast
  have hi7' : IntKind.i64.wrap ((i : Int) * 7) = ((7 * i : Nat) : Int) := by rw [i64_in (by omega) (by omega)]; push_cast; omega
  rw [hi7, hi7', i64_in (n := ((7 * i : Nat) : Int) + (rr : Int)) (by omega) (by omega)]
  have hfit : 7 * i + rr ≤ 64 := by
    rcases Nat.lt_or_ge i 9 with h9 | h9
    · omega
    · have hi : i = 9 := by omega
      subst hi
      have : m < 2 := by
        have e : (2 : Nat) ^ (7 * 9) = 9223372036854775808 := by decide
        rw [e] at hmlt
        omega
      have := hr2 (by omega)
      omega
  refine CondP.of (fun hc => by simp at hc; omega) (fun _ => ?_)
  refine ⟨by omega, ?_⟩
  have hgs : shlV .u64 ((m % 128 : Nat) : Int) ((7 * i : Nat) : Int) = ((m % 128 * 2 ^ (7 * i) : Nat) : Int) := by
    refine shl_u64 (by omega) (Nat.lt_of_le_of_lt (Nat.mul_le_mul_right _ (Nat.mod_le _ _)) hmlt)
  have hacc : bOr .u64 (acc : Int) ((m % 128 * 2 ^ (7 * i) : Nat) : Int) = ((acc + m % 128 * 2 ^ (7 * i) : Nat) : Int) := by
    rw [bOr_u64 (by omega) (Nat.lt_of_le_of_lt (Nat.mul_le_mul_right _ (Nat.mod_le _ _)) hmlt), or_add ha]
  rw [hgs, hacc]
  have hcand : bAnd .u8 (c.toNat : Int) 128 = ((c.toNat / 128 * 128 : Nat) : Int) := and128 ⟨c.toNat, hc256⟩
  rw [hcand]
  by_cases hbig : m < 128
  ·
    rw [if_pos hbig] at hc2 hc3
    have hmm : m % 128 = m := Nat.mod_eq_of_lt hbig
    rw [hmm, ← hnm, hc2]
    refine CondP.of (fun hc => ?_) (fun _ => ?_)
    · have e : m / 128 = 0 := by omega
      rw [e] at hc; simp at hc
    have hleft : ∀ K' : Prop, (∀ H', Sat H' S (rdr b ⟨subA v.a (i + 1) v.c 1, v.l - (i + 1), v.c - (i + 1)⟩ false :: R) → K (.int .u64 (n : Int)) H') := by
      intro _ H' hs'
      refine hk _ H' ?_ hs'
      have := hv.drop (k := i + 1) (by omega)
      have e : (natB n ++ rest).drop (i + 1) = rest := by
        rw [← List.drop_drop, hd, hc1, hc3]; rfl
      rwa [e] at this
    have fin : ∃ x : Sl, cellH h1 b 0 = some (.slice x.a x.l x.c) ∧
        ((0 : Int) ≤ IntKind.i64.wrap ((i : Int) + 1) ∧ IntKind.i64.wrap ((i : Int) + 1) ≤ ((x.l : Nat) : Int)) ∧
        CanSt h1 b 0 [.slice (subA x.a ((IntKind.i64.wrap ((i : Int) + 1)).toNat) x.c 1) (x.l - ((IntKind.i64.wrap ((i : Int) + 1)).toNat)) (x.c - ((IntKind.i64.wrap ((i : Int) + 1)).toNat))] ∧
        ∀ h6, Stored h1 b 0 [.slice (subA x.a ((IntKind.i64.wrap ((i : Int) + 1)).toNat) x.c 1) (x.l - ((IntKind.i64.wrap ((i : Int) + 1)).toNat)) (x.c - ((IntKind.i64.wrap ((i : Int) + 1)).toNat))] h6 → K (.int .u64 (n : Int)) h6 := by
      have e : IntKind.i64.wrap ((i : Int) + 1) = ((i + 1 : Nat) : Int) := by rw [i64_in (by omega) (by omega)]; norm_cast
      rw [e]
      refine ⟨v, hs.cell 0 rfl, ⟨by omega, by omega⟩, ?_⟩
      simp only [Int.toNat_natCast]
      exact hs.store (by simp) fun H' hs' => hleft True H' hs'
    refine CondP.of (fun hc0 => ?_) (fun _ => ?_)
    · refine CondP.of (fun hi0 => ?_) (fun _ => ?_)
      · exfalso
        have := hpos (by simpa using hi0)
        simp at hc0; omega
      · refine CondP.of (fun hc => by simp at hc; omega) (fun _ => fin)
    · refine CondP.of (fun hc => by simp at hc; omega) (fun _ => fin)
  ·
    rw [if_neg hbig] at hc2 hc3
    refine CondP.of (fun _ => ?_) (fun hc => ?_)
    · refine ⟨⟨_, i + 1, m / 128, rfl, ?_, hs, ?_, ?_, ?_, ?_, ?_⟩, ?_⟩
      · rw [i64_in (by omega) (by omega)]; norm_cast
      · rw [← List.drop_drop, hd, hc1, hc3]; rfl
      · have : m % 128 * 2 ^ (7 * i) ≤ 127 * 2 ^ (7 * i) := Nat.mul_le_mul_right _ (by omega)
        rw [← hp7]; omega
      · rw [hnm, ← hp7]
        have h3 : m = 128 * (m / 128) + m % 128 := (Nat.div_add_mod m 128).symm
        generalize hP : (2 : Nat) ^ (7 * i) = P at *
        have h4 : m * P = m % 128 * P + m / 128 * (P * 2 ^ 7) := by
          conv => lhs; rw [h3]
          rw [Nat.add_mul, Nat.mul_comm 128 (m / 128), Nat.mul_assoc, Nat.mul_comm 128 P, Nat.add_comm]
        rw [h4, Nat.add_assoc]
      · rcases Nat.lt_or_ge i 9 with h9 | h9
        · omega
        · have hi : i = 9 := by omega
          subst hi
          have e : (2 : Nat) ^ (7 * 9) = 9223372036854775808 := by decide
          rw [e] at hmlt
          omega
      · intro _; omega
      · show v.l - (IntKind.i64.wrap ((i : Int) + 1)).toNat < v.l - (i : Int).toNat
        rw [i64_in (by omega) (by omega)]; omega
    · exfalso
      have e : c.toNat / 128 = 1 := by omega
      rw [e] at hc; simp at hc
end Go.Sx.Tryz
namespace Go.Sx.Tryz
open Go Go.Sx Go.Proofs
set_option linter.unusedVariables false
theorem rflag_spec {H : Heap} {S : PH} {R : List Asn} {b : Nat} {v : Sl} {t : Bool} {rest : List UInt8} (hs : Sat H S (rdr b v false :: R)) (hv : RdB S v (flagB t ++ rest)) (hlen : rest.length < 1000000000000)
    {K : Value → Heap → Prop} (hk : ∀ v' H', RdB S v' rest → Sat H' S (rdr b v' false :: R) → K (.bool t) H') :
    CallsH Tryz.prog 140 #[.pointer (some ⟨b, 0, none⟩)] H K := by
  apply vc140
  refine rnat_spec (most := 1) (n := if t then 1 else 0) hs hv (by split <;> omega) (by split <;> omega) (by omega) hlen fun v' H' h1 h2 => ⟨_, rfl, ?_⟩
  have := hk v' H' h1 h2
  cases t <;> exact this
theorem StrOf.ofRd {S : PH} {v : Sl} {xs : List UInt8} (h : RdB S v xs) {H : Heap} {L : List Asn} (hs : Sat H S L) : StrOf H v.a v.l ⟨xs.toArray⟩ := by
  have hl := RdB.len h
  refine ⟨by rw [hl]; rfl, ?_⟩
  rcases Nat.eq_zero_or_pos v.l with h0 | h0
  · exact .inl h0
  · obtain ⟨b, o, h1, h2⟩ := Rd.at h hs h0
    exact .inr ⟨b, o, h1, by simpa [bytesV, bv] using h2⟩
theorem RdB.take {S : PH} {v : Sl} {xs : List UInt8} (h : RdB S v xs) {k m : Nat} (hk : k ≤ v.l) (hm : k ≤ m) : RdB S ⟨v.a, k, m⟩ (xs.take k) := by
  have := Rd.take h hk hm
  rw [Nat.mul_one] at this
  unfold RdB bv
  rw [List.map_take]
  exact this
theorem subA_zero {p : Option Addr} {c s : Nat} (h : ∀ a, p = some a → a.spot = none) : subA p 0 c s = p := by
  unfold subA
  split
  · rfl
  · cases p with
    | none => rfl
    | some a => simp [Addr.add]
theorem rtext_spec {H : Heap} {S : PH} {R : List Asn} {b : Nat} {v : Sl} {most : Nat} {s rest : List UInt8} (hs : Sat H S (rdr b v false :: R)) (hv : RdB S v (textB s ++ rest)) (hm : s.length ≤ most) (hm2 : most < 9223372036854775808) (hlen : s.length + rest.length < 1000000000000)
    {K : Value → Heap → Prop} (hk : ∀ v' H', RdB S v' rest → Sat H' S (rdr b v' false :: R) → K (.string ⟨s.toArray⟩) H') :
    CallsH Tryz.prog 168 #[.pointer (some ⟨b, 0, none⟩), .int .i64 (most : Int)] H K := by
  apply vc168
  intro b1 h1 hf
  have hs1 := hs.freshL hf
  refine ⟨_, hs1.cell 0 rfl, ?_⟩
  refine CondP.of (fun hc => by simp at hc) (fun _ => CondP.of (fun hc => by simp at hc; omega) (fun _ => ?_))
  refine ⟨_, hs1.cell 0 rfl, ?_⟩
  rw [u64_in (by omega) (by omega)]
  have hv' : RdB S v (natB s.length ++ (s ++ rest)) := by rw [← List.append_assoc]; exact hv
  refine rnat_spec hs1.swap hv' (by omega) hm (by omega) (by rw [List.length_append]; omega) fun v2 H2 hv2 hs2 => ⟨_, rfl, ?_⟩
  have hl2 := RdB.len hv2
  rw [List.length_append] at hl2
  intro b2 h4 hf2
  have hs4 := hs2.freshL hf2
  refine hs4.store (Nat.le_refl _) fun h5 hs5 => ?_
  have hs5 : Sat h5 S (lst b2 32 [.int .u64 (s.length : Int)] :: rdr b v2 false :: lst b1 203 [.pointer (some ⟨b, 0, none⟩)] :: R) := hs5
  refine ⟨_, hs5.cell 0 rfl, _, (hs5.pick 2 rfl).cell 0 rfl, ?_⟩
  refine ⟨v2, hs5.swap.cell 0 rfl, ?_⟩
  rw [u64_in (n := ((v2.l : Nat) : Int)) (by omega) (by omega)]
  refine CondP.of (fun hc => by simp at hc; omega) (fun _ => ?_)
  refine .inl ⟨182, #[], _, rfl, call182, vc182 b1 0 b2 0 h5 _ ?_⟩
  refine ⟨_, (hs5.pick 2 rfl).cell 0 rfl, v2, hs5.swap.cell 0 rfl, _, hs5.cell 0 rfl, ⟨by omega, by omega, ?_⟩, ⟨s.toArray⟩, ?_, ?_⟩
  · have := hv2.2.1; omega
  · simp only [Int.toNat_natCast]
    rcases Nat.eq_zero_or_pos s.length with h0 | h0
    · exact ⟨rfl, .inl h0⟩
    · rw [subA_zero]
      · have := StrOf.ofRd (hv2.take (k := s.length) (m := v2.c) (by omega) (by have := hv2.2.1; omega)) hs5
        rwa [List.take_left] at this
      · intro a ha
        obtain ⟨gb, go, _, _, _, g1, _⟩ := hv2.2.2.resolve_left (by omega)
        rw [ha] at g1; cases g1; rfl
  · refine ⟨_, (hs5.pick 2 rfl).cell 0 rfl, _, (hs5.pick 2 rfl).cell 0 rfl, v2, hs5.swap.cell 0 rfl, _, hs5.cell 0 rfl, ⟨by omega, by omega⟩, ?_⟩
    simp only [Int.toNat_natCast]
    refine hs5.swap.store (by simp) fun h6 hs6 => ⟨_, rfl, hk ⟨subA v2.a s.length v2.c 1, v2.l - s.length, v2.c - s.length⟩ h6 ?_ ((hs6.del 1).del 1)⟩
    have := hv2.drop (k := s.length) (by omega)
    rwa [List.drop_left] at this
end Go.Sx.Tryz
namespace Go.Sx.Tryz
open Go Go.Sx Go.Proofs
set_option maxRecDepth 100000
set_option linter.unusedVariables false
noncomputable def c162 : Code := (Tryz.f162.body).getD .skip
def a162 : Ann := (.seq .leaf (.seq .leaf (.seq .leaf (.seq (.seq .leaf (.inn (.loop [(9, .one (.i .u32))] (.seq .leaf (.seq (.br .leaf .leaf) (.seq (.inn (.seq .leaf .leaf)) .leaf)))))) (.seq .leaf (.seq (.seq .leaf (.inn (.loop [(6, .one (.i .u32)), (20, .one (.i .i64))] (.seq .leaf (.seq (.br .leaf .leaf) (.seq (.inn (.seq .leaf (.seq .leaf (.seq .leaf .leaf)))) .leaf)))))) (.seq .leaf .leaf)))))))
theorem ok162 : okC tab 45 true c162 a162 = true := by kernel_rfl
theorem vc162 (b_ : Sl) (h : Heap) (R : Value → Heap → Prop)
  (hv : ∀ b1 h1, Fresh h (.cells #[.int .u32 0, .int .u32 0, .int .u32 0, .int .u32 0, .int .u32 0, .int .u32 0, .int .u32 0, .int .u32 0, .int .u32 0, .int .u32 0, .int .u32 0, .int .u32 0, .int .u32 0, .int .u32 0, .int .u32 0, .int .u32 0] 238) b1 h1 →
   ∃ (I1 : Int → Heap → Prop) (mu1 : Int → Heap → Nat), I1 0 h1 ∧ (∀ n1 : Int, ∀ h2, I1 n1 h2 → ∀ _ : Env,
   CondP (decide ((n1 : Int) < 16)) (
   CallV Tryz.prog (.func (.func 178) #[] #[]) [.int .u32 n1] h2 (fun r1 h3 => ∃ n2 : Int, r1 = .int .u32 n2 ∧
   ((0 : Int) ≤ n1 ∧ (n1 : Int) < (16 : Int)) ∧
   Nat.ble 2 16 = true ∧ CanSt h3 b1 (0 + n1.toNat) [.int .u32 n2] ∧ ∀ h4, Stored h3 b1 (0 + n1.toNat) [.int .u32 n2] h4 →
   I1 (IntKind.u32.wrap (n1 + 1)) h4 ∧ mu1 (IntKind.u32.wrap (n1 + 1)) h4 < mu1 n1 h2)) (
   ∃ (I2 : Int → Int → Heap → Prop) (mu2 : Int → Int → Heap → Nat), I2 4294967295 0 h2 ∧ (∀ n3 : Int, ∀ n4 : Int, ∀ h5, I2 n3 n4 h5 → ∀ _ : Env,
   CondP (decide ((n4 : Int) < ((b_.l : Nat) : Int))) (
   ((0 : Int) ≤ n4 ∧ (n4 : Int) < ((b_.l : Nat) : Int)) ∧
   NilP b_.a (fun b2 o1 =>
   ∃ n5 : Int, cellH h5 b2 (o1 + n4.toNat) = some (.int .u8 n5) ∧
   (0 : Int) ≤ 4 ∧
   ((0 : Int) ≤ bAnd .u32 (bXor .u32 n3 (IntKind.u32.wrap n5)) 15 ∧ (bAnd .u32 (bXor .u32 n3 (IntKind.u32.wrap n5)) 15 : Int) < (16 : Int)) ∧
   Nat.ble 2 16 = true ∧ ∃ n6 : Int, cellH h5 b1 (0 + (bAnd .u32 (bXor .u32 n3 (IntKind.u32.wrap n5)) 15).toNat) = some (.int .u32 n6) ∧
   (0 : Int) ≤ 4 ∧
   ((0 : Int) ≤ bAnd .u32 (bXor .u32 (shrV .u32 (bXor .u32 n3 (IntKind.u32.wrap n5)) 4) n6) 15 ∧ (bAnd .u32 (bXor .u32 (shrV .u32 (bXor .u32 n3 (IntKind.u32.wrap n5)) 4) n6) 15 : Int) < (16 : Int)) ∧
   Nat.ble 2 16 = true ∧ ∃ n7 : Int, cellH h5 b1 (0 + (bAnd .u32 (bXor .u32 (shrV .u32 (bXor .u32 n3 (IntKind.u32.wrap n5)) 4) n6) 15).toNat) = some (.int .u32 n7) ∧
   I2 (bXor .u32 (shrV .u32 (bXor .u32 (shrV .u32 (bXor .u32 n3 (IntKind.u32.wrap n5)) 4) n6) 4) n7) (IntKind.i64.wrap (n4 + 1)) h5 ∧ mu2 (bXor .u32 (shrV .u32 (bXor .u32 (shrV .u32 (bXor .u32 n3 (IntKind.u32.wrap n5)) 4) n6) 4) n7) (IntKind.i64.wrap (n4 + 1)) h5 < mu2 n3 n4 h5)) (
   R (.int .u32 (bXor .u32 (if IntKind.signed .u32 then -1 else IntKind.max .u32) n3)) h5))))) :
  CallsH Tryz.prog 162 #[.slice b_.a b_.l b_.c] h R :=
  calls_of_vc tabOk mixed Tryz.func162 (c := c162) (by kernel_rfl) (n := 45) rfl (rs := [.tmp 2]) (by kernel_rfl) ok162 (args := [.slice b_.a b_.l b_.c]) (Nat.le_of_ble_eq_true rfl) (Eq.mpr (by kernel_rfl) hv)
end Go.Sx.Tryz
namespace Go.Sx.Tryz
open Go Go.Sx Go.Proofs
set_option maxRecDepth 100000
set_option linter.unusedVariables false
noncomputable def c178 : Code := (Tryz.f178.body).getD .skip
def a178 : Ann := (.seq .leaf (.seq (.seq .leaf (.inn (.loop [(0, .one (.i .u32)), (3, .one (.i .i64))] (.seq .leaf (.seq (.br .leaf .leaf) (.seq (.inn .leaf) .leaf)))))) (.seq .leaf .leaf)))
theorem ok178 : okC tab 14 true c178 a178 = true := by kernel_rfl
theorem vc178 (n_ : Int) (h : Heap) (R : Value → Heap → Prop)
  (hv : ∃ (I1 : Int → Int → Heap → Prop) (mu1 : Int → Int → Heap → Nat), I1 n_ 0 h ∧ (∀ n1 : Int, ∀ n2 : Int, ∀ h1, I1 n1 n2 h1 → ∀ _ : Env,
   CondP (decide ((n2 : Int) < 4)) (
   (0 : Int) ≤ 1 ∧
   I1 (bXor .u32 (shrV .u32 n1 1) (bAnd .u32 3988292384 (IntKind.u32.wrap (0 - (bAnd .u32 n1 1))))) (IntKind.i64.wrap (n2 + 1)) h1 ∧ mu1 (bXor .u32 (shrV .u32 n1 1) (bAnd .u32 3988292384 (IntKind.u32.wrap (0 - (bAnd .u32 n1 1))))) (IntKind.i64.wrap (n2 + 1)) h1 < mu1 n1 n2 h1) (
   R (.int .u32 n1) h1))) :
  CallsH Tryz.prog 178 #[.int .u32 n_] h R :=
  calls_of_vc tabOk mixed Tryz.func178 (c := c178) (by kernel_rfl) (n := 14) rfl (rs := [.tmp 2]) (by kernel_rfl) ok178 (args := [.int .u32 n_]) (Nat.le_of_ble_eq_true rfl) (Eq.mpr (by kernel_rfl) hv)
end Go.Sx.Tryz
namespace Go.Sx.Tryz
open Go Go.Sx Go.Proofs
set_option maxRecDepth 100000
set_option linter.unusedVariables false
noncomputable def c124 : Code := (Tryz.f124.body).getD .skip
def a124 : Ann := (.seq .leaf (.seq .leaf (.seq .leaf .leaf)))
theorem ok124 : okC tab 20 true c124 a124 = true := by kernel_rfl
theorem vc124 (b_ : Sl) (h : Heap) (R : Value → Heap → Prop)
  (hv : CallsH Tryz.prog 162 #[.slice b_.a b_.l b_.c] h (fun r1 h1 => ∃ n1 : Int, r1 = .int .u32 n1 ∧
   (0 : Int) ≤ 8 ∧
   (0 : Int) ≤ 16 ∧
   (0 : Int) ≤ 24 ∧
   ∀ b1 h2, Fresh h1 (.cells #[.int .u8 (IntKind.u8.wrap n1), .int .u8 (IntKind.u8.wrap (shrV .u32 n1 8)), .int .u8 (IntKind.u8.wrap (shrV .u32 n1 16)), .int .u8 (IntKind.u8.wrap (shrV .u32 n1 24))] 5) b1 h2 →
   RunK Tryz.prog (.sl) (Builtin.append_ #[33, 33] 33 #[.slice b_.a b_.l b_.c, .slice (some ⟨b1, 0, none⟩) 4 4]) h2 (fun x1 h3 =>
   R (.slice x1.a x1.l x1.c) h3))) :
  CallsH Tryz.prog 124 #[.slice b_.a b_.l b_.c] h R :=
  calls_of_vc tabOk mixed Tryz.func124 (c := c124) (by kernel_rfl) (n := 20) rfl (rs := [.tmp 2]) (by kernel_rfl) ok124 (args := [.slice b_.a b_.l b_.c]) (Nat.le_of_ble_eq_true rfl) (Eq.mpr (by kernel_rfl) hv)
end Go.Sx.Tryz
namespace Go.Sx.Tryz
open Go Go.Sx Go.Proofs
set_option linter.unusedVariables false
theorem nibble_spec {H : Heap} {n : Nat} (hn : n < 4294967296) {K : Value → Heap → Prop} (hk : K (.int .u32 (csteps 4 n : Nat)) H) : CallsH Tryz.prog 178 #[.int .u32 (n : Int)] H K := by
  apply vc178
  refine ⟨fun n1 n2 h => ∃ (a k : Nat), n1 = a ∧ n2 = k ∧ k ≤ 4 ∧ a < 4294967296 ∧ csteps (4 - k) a = csteps 4 n ∧ h = H, fun _ n2 _ => 4 - n2.toNat, ⟨n, 0, rfl, rfl, by omega, hn, rfl, rfl⟩, ?_⟩
  rintro n1 n2 h1 ⟨a, k, rfl, rfl, hk4, ha, he, rfl⟩ _
  refine CondP.of (fun hc => ⟨by decide, ⟨cstep a, k + 1, ?_, ?_, ?_, cstep_lt ha, ?_, rfl⟩, ?_⟩) (fun hc => ?_)
  · have h1 : bAnd .u32 (a : Int) 1 = ((a % 2 : Nat) : Int) := by
      have := bAnd_u32 (a := a) (b := 1) ha (by decide)
      rw [Nat.and_one_is_mod] at this
      exact this
    have h2 : shrV .u32 (a : Int) 1 = ((a / 2 : Nat) : Int) := shr_u32 a 1 (by decide)
    rw [h1, h2]
    have h3 : bAnd .u32 3988292384 (IntKind.u32.wrap (0 - ((a % 2 : Nat) : Int))) = (((if a % 2 = 1 then poly else 0) : Nat) : Int) := by
      rcases Nat.mod_two_eq_zero_or_one a with h | h <;> rw [h] <;> decide +kernel
    rw [h3]
    exact bXor_u32 (by omega) (by split <;> decide)
  · rw [i64_in (by omega) (by simp at hc; omega)]; norm_cast
  · simp at hc; omega
  · have : 4 - k = (4 - (k + 1)) + 1 := by simp at hc; omega
    rw [this] at he
    exact he
  · show 4 - (IntKind.i64.wrap ((k : Int) + 1)).toNat < 4 - (k : Int).toNat
    rw [i64_in (by omega) (by simp at hc; omega)]; simp at hc; omega
  · have : k = 4 := by simp at hc; omega
    subst this
    have he : a = csteps 4 n := he
    rw [he]; exact hk
def rowN (k : Nat) : List Nat := (List.range k).map (csteps 4) ++ List.replicate (16 - k) 0
def rowV (k : Nat) : List Value := (rowN k).map fun (n : Nat) => .int .u32 (n : Int)
theorem rowN_put : ∀ k : Fin 16, (rowN k).take k ++ [csteps 4 k] ++ (rowN k).drop (k + 1) = rowN (k + 1) := by decide +kernel
theorem rowV_put {k : Nat} (h : k < 16) : putL (rowV k) k [.int .u32 (csteps 4 k : Nat)] = rowV (k + 1) := by
  have := rowN_put ⟨k, h⟩
  unfold rowV putL
  rw [← this]
  simp only [List.map_append, List.map_take, List.map_drop]
  rfl
theorem rowV_len {k : Nat} (h : k ≤ 16) : (rowV k).length = 16 := by simp [rowV, rowN]; omega
theorem rowV_get {k : Nat} (h : k < 16) : (rowV 16)[k]? = some (.int .u32 (csteps 4 k : Nat)) := by
  simp [rowV, rowN, h]
theorem crc_snoc (l : List UInt8) (c : UInt8) : crc (l ++ [c]) = cbyte (crc l) c := by simp [crc]
theorem Sum_spec {H : Heap} {S : PH} {R : List Asn} {v : Sl} {xs : List UInt8} (hs : Sat H S (own 5 1 v (bv xs) :: R)) (hlen : xs.length < 10000000000) {K : Value → Heap → Prop}
    (hk : ∀ H', Sat H' S (own 5 1 v (bv xs) :: R) → K (.int .u32 ((4294967295 - crc xs : Nat) : Int)) H') : CallsH Tryz.prog 162 #[.slice v.a v.l v.c] H K := by
  apply vc162
  intro b1 h1 hf
  have hs1 := hs.fresh hf
  have hl := (own.len hs).1
  rw [bv_len, Nat.mul_one] at hl
  refine ⟨fun n1 h => ∃ k : Nat, n1 = k ∧ k ≤ 16 ∧ Sat h S (lst b1 238 (rowV k) :: own 5 1 v (bv xs) :: R), fun n1 _ => 16 - n1.toNat, ⟨0, rfl, by omega, hs1⟩, ?_⟩
  rintro n1 h2 ⟨k, rfl, hk16, hs2⟩ _
  refine CondP.of (fun hc => ?_) (fun hc => ?_)
  · have hc : k < 16 := by simp at hc; omega
    refine .inl ⟨178, #[], #[], rfl, call178, nibble_spec (by omega) ⟨_, rfl, ⟨by omega, by omega⟩, rfl, ?_⟩⟩
    simp only [Nat.zero_add, Int.toNat_natCast]
    refine hs2.store (by rw [rowV_len hk16]; simp; omega) fun h4 hs4 => ⟨⟨k + 1, ?_, hc, ?_⟩, ?_⟩
    · rw [u32_in (by omega) (by omega)]; norm_cast
    · rw [rowV_put hc] at hs4; exact hs4
    · show 16 - (IntKind.u32.wrap ((k : Int) + 1)).toNat < 16 - k
      rw [u32_in (by omega) (by omega)]; omega
  · have hc : k = 16 := by simp at hc; omega
    subst hc
    refine ⟨fun n3 n4 h => ∃ i : Nat, n4 = i ∧ i ≤ xs.length ∧ n3 = ((crc (xs.take i) : Nat) : Int) ∧ Sat h S (lst b1 238 (rowV 16) :: own 5 1 v (bv xs) :: R), fun _ n4 _ => xs.length - n4.toNat, ⟨0, rfl, by omega, rfl, hs2⟩, ?_⟩
    rintro n3 n4 h5 ⟨i, rfl, hi, rfl, hs5⟩ _
    refine CondP.of (fun hc => ?_) (fun hc => ?_)
    · have hc : i < xs.length := by simp at hc; omega
      have hi1 : IntKind.i64.wrap ((i : Int) + 1) = ((i + 1 : Nat) : Int) := by rw [i64_in (by omega) (by omega)]; norm_cast
      have hi2 : xs.length - (i + 1) < xs.length - i := by omega
      refine ⟨⟨by omega, by omega⟩, ?_⟩
      obtain ⟨g, ga, gc⟩ := own.cells hs5.swap (by rw [bv_len]; omega)
      have hcr := crc_lt (xs.take i)
      have hx := (xs[i]).toNat_lt
      refine NilP.of ga ⟨((xs[i]).toNat : Int), by simpa using gc.get i _ (bv_get (List.getElem?_eq_getElem hc)), ?_⟩
      rw [u32_in (n := ((xs[i]).toNat : Int)) (by omega) (by omega), bXor_u32 hcr (by omega)]
      have hm : crc (xs.take i) ^^^ (xs[i]).toNat < 4294967296 := Nat.xor_lt_two_pow (n := 32) hcr (by omega)
      have hnx : crc (xs.take (i + 1)) = cbyte (crc (xs.take i)) xs[i] := by rw [← crc_snoc, List.take_succ_eq_append_getElem hc]
      rw [cbyte_nibble] at hnx
      simp only at hnx
      generalize crc (xs.take i) ^^^ (xs[i]).toNat = m at hm hnx ⊢
      have h15 : ∀ m : Nat, m < 4294967296 → bAnd .u32 (m : Int) 15 = ((m % 16 : Nat) : Int) := by
        intro m hm
        have := bAnd_u32 (a := m) (b := 15) hm (by decide)
        rw [Nat.and_two_pow_sub_one_eq_mod m 4] at this
        exact this
      have h4 : ∀ m : Nat, shrV .u32 (m : Int) 4 = ((m / 16 : Nat) : Int) := fun m => shr_u32 m 4 (by decide)
      rw [h15 m hm, h4 m]
      refine ⟨by decide, ⟨by omega, by omega⟩, rfl, ((csteps 4 (m % 16) : Nat) : Int), hs5.cell _ (by rw [Nat.zero_add]; exact rowV_get (k := m % 16) (by omega)), ?_⟩
      have hr := csteps_lt 4 (n := m % 16) (by omega)
      rw [bXor_u32 (by omega) hr]
      have hm1 : m / 16 ^^^ csteps 4 (m % 16) < 4294967296 := Nat.xor_lt_two_pow (n := 32) (by omega) hr
      generalize m / 16 ^^^ csteps 4 (m % 16) = m1 at hm1 hnx ⊢
      rw [h15 m1 hm1, h4 m1]
      refine ⟨by decide, ⟨by omega, by omega⟩, rfl, ((csteps 4 (m1 % 16) : Nat) : Int), hs5.cell _ (by rw [Nat.zero_add]; exact rowV_get (k := m1 % 16) (by omega)), ?_⟩
      have hr1 := csteps_lt 4 (n := m1 % 16) (by omega)
      rw [bXor_u32 (by omega) hr1]
      refine ⟨⟨i + 1, ?_, hc, ?_, hs5⟩, ?_⟩
      · exact hi1
      · exact congrArg Nat.cast hnx.symm
      · show xs.length - (IntKind.i64.wrap ((i : Int) + 1)).toNat < xs.length - i
        rw [hi1]; exact hi2
    · have hc : i = xs.length := by simp at hc; omega
      subst hc
      rw [List.take_length]
      have hx : bXor .u32 (if IntKind.signed .u32 then -1 else IntKind.max .u32) ((crc xs : Nat) : Int) = ((4294967295 - crc xs : Nat) : Int) := by
        have h1 := bXor_u32 (a := 4294967295) (b := crc xs) (by decide) (crc_lt xs)
        rw [xor_full (crc_lt xs)] at h1
        exact h1
      rw [hx]
      exact hk h5 hs5.drop
def four (n : Nat) : List UInt8 := [UInt8.ofNat n, UInt8.ofNat (n / 256), UInt8.ofNat (n / 65536), UInt8.ofNat (n / 16777216)]
def sumB (xs : List UInt8) : List UInt8 := four (4294967295 - crc xs)
theorem seal_spec {H : Heap} {S : PH} {R : List Asn} {v : Sl} {xs : List UInt8} (hs : Sat H S (own 5 1 v (bv xs) :: R)) (hlen : xs.length < 10000000000) {K : Value → Heap → Prop}
    (hk : ∀ (v' : Sl) H', Sat H' S (own 5 1 v' (bv (xs ++ sumB xs)) :: R) → K (.slice v'.a v'.l v'.c) H') : CallsH Tryz.prog 124 #[.slice v.a v.l v.c] H K := by
  apply vc124
  refine Sum_spec hs hlen fun h1 hs1 => ⟨_, rfl, by decide, by decide, by decide, fun b1 h2 hf => ?_⟩
  have hs2 := hs1.fresh hf
  have hl := (own.len hs).1
  rw [bv_len, Nat.mul_one] at hl
  have hc := crc_lt xs
  generalize hn : 4294967295 - crc xs = n at hf hs2
  have hb : ∀ m : Nat, IntKind.u8.wrap (m : Int) = ((UInt8.ofNat m).toNat : Int) := fun m => by rw [w_u8]; simp
  have e : (Obj.cells #[.int .u8 (IntKind.u8.wrap (n : Int)), .int .u8 (IntKind.u8.wrap (shrV .u32 (n : Int) 8)), .int .u8 (IntKind.u8.wrap (shrV .u32 (n : Int) 16)), .int .u8 (IntKind.u8.wrap (shrV .u32 (n : Int) 24))] 5) = .cells (bv (four n)).toArray 5 := by
    have h8 : shrV .u32 (n : Int) 8 = ((n / 256 : Nat) : Int) := shr_u32 n 8 (by decide)
    have h16 : shrV .u32 (n : Int) 16 = ((n / 65536 : Nat) : Int) := shr_u32 n 16 (by decide)
    have h24 : shrV .u32 (n : Int) 24 = ((n / 16777216 : Nat) : Int) := shr_u32 n 24 (by decide)
    rw [h8, h16, h24, hb, hb, hb, hb]
    rfl
  rw [e] at hs2
  have hs2 : Sat h2 S (lst b1 5 (bv (four n)) :: own 5 1 v (bv xs) :: R) := hs2
  refine append_own el33 (m := 4) (c := 4) hs2.swap (news := bv (four n)) (by simp [bv, four]) (.inr ⟨b1, 0, rfl, Sat.cells hs2 0 (by simp)⟩) (bv_one _) (by omega) (by unfold maxLen; omega) fun v' H' hv hs' => ?_
  rw [← bv_append] at hs'
  refine hk v' H' ?_
  rw [sumB, hn]
  exact hs'.swap.drop
end Go.Sx.Tryz
namespace Go.Sx.Tryz
open Go Go.Sx Go.Proofs
set_option maxRecDepth 100000
set_option linter.unusedVariables false
noncomputable def c82 : Code := (Tryz.f82.body).getD .skip
def a82 : Ann := (.seq .leaf (.seq (.inn (.seq .leaf (.br (.seq .leaf .leaf) (.seq .leaf (.br (.seq .leaf .leaf) .leaf))))) (.seq .leaf (.seq .leaf (.seq .leaf .leaf)))))
theorem ok82 : okC tab 22 true c82 a82 = true := by kernel_rfl
theorem vc82 (kind_ : Int) (body_ : Sl) (h : Heap) (R : Value → Heap → Prop)
  (hv : CondP ((kind_ : Int) == 0) (
   R (.tuple #[.slice none 0 0, .int .i64 2]) h) (
   CondP (decide ((((body_.l : Nat) : Int) : Int) > 65536)) (
   R (.tuple #[.slice none 0 0, .int .i64 21]) h) (
   ∀ b1 h1, Fresh h (.cells #[.slice none 0 0] 145) b1 h1 →
   ∃ s1 : ByteArray, StrOf h1 body_.a body_.l s1 ∧
   CallsH Tryz.prog 81 #[.pointer (some ⟨b1, 0, none⟩), .string s1] h1 (fun r1 h2 => r1 = .tuple #[] ∧
   ∀ b2 h3, Fresh h2 (.cells #[.int .u8 kind_] 5) b2 h3 →
   CallsH Tryz.prog 83 #[.pointer (some ⟨b1, 0, none⟩)] h3 (fun r2 h4 => ∃ x1 : Sl, r2 = .slice x1.a x1.l x1.c ∧
   RunK Tryz.prog (.sl) (Builtin.append_ #[33, 33] 33 #[.slice (some ⟨b2, 0, none⟩) 1 1, .slice x1.a x1.l x1.c]) h4 (fun x2 h5 =>
   CallsH Tryz.prog 124 #[.slice x2.a x2.l x2.c] h5 (fun r3 h6 => ∃ x3 : Sl, r3 = .slice x3.a x3.l x3.c ∧
   R (.tuple #[.slice x3.a x3.l x3.c, .int .i64 0]) h6))))))) :
  CallsH Tryz.prog 82 #[.int .u8 kind_, .slice body_.a body_.l body_.c] h R :=
  calls_of_vc tabOk mixed Tryz.func82 (c := c82) (by kernel_rfl) (n := 22) rfl (rs := [.tmp 4, .tmp 5]) (by kernel_rfl) ok82 (args := [.int .u8 kind_, .slice body_.a body_.l body_.c]) (Nat.le_of_ble_eq_true rfl) (Eq.mpr (by kernel_rfl) hv)
end Go.Sx.Tryz
namespace Go.Sx.Tryz
open Go Go.Sx Go.Proofs
set_option maxRecDepth 100000
set_option linter.unusedVariables false
noncomputable def c134 : Code := (Tryz.f134.body).getD .skip
def a134 : Ann := (.seq .leaf (.seq (.seq .leaf (.inn (.loop [(7, .one (.i .i64))] (.seq .leaf (.seq (.br .leaf .leaf) (.seq (.inn (.seq .leaf (.seq .leaf (.br (.seq .leaf .leaf) .leaf)))) .leaf)))))) (.seq .leaf .leaf)))
theorem ok134 : okC tab 17 true c134 a134 = true := by kernel_rfl
theorem vc134 (b_ : Sl) (h : Heap) (R : Value → Heap → Prop)
  (hv : ∃ (I1 : Int → Heap → Prop) (mu1 : Int → Heap → Nat), I1 0 h ∧ (∀ n1 : Int, ∀ h1, I1 n1 h1 → ∀ _ : Env,
   CondP (decide ((n1 : Int) < ((b_.l : Nat) : Int))) (
   ((0 : Int) ≤ n1 ∧ (n1 : Int) < ((b_.l : Nat) : Int)) ∧
   NilP b_.a (fun b1 o1 =>
   ∃ n2 : Int, cellH h1 b1 (o1 + n1.toNat) = some (.int .u8 n2) ∧
   CondP (decide ((n2 : Int) < 128)) (
   R (.bool false) h1) (
   I1 (IntKind.i64.wrap (n1 + 1)) h1 ∧ mu1 (IntKind.i64.wrap (n1 + 1)) h1 < mu1 n1 h1))) (
   R (.bool (decide ((((b_.l : Nat) : Int) : Int) < 10))) h1))) :
  CallsH Tryz.prog 134 #[.slice b_.a b_.l b_.c] h R :=
  calls_of_vc tabOk mixed Tryz.func134 (c := c134) (by kernel_rfl) (n := 17) rfl (rs := [.tmp 2]) (by kernel_rfl) ok134 (args := [.slice b_.a b_.l b_.c]) (Nat.le_of_ble_eq_true rfl) (Eq.mpr (by kernel_rfl) hv)
end Go.Sx.Tryz
namespace Go.Sx.Tryz
open Go Go.Sx Go.Proofs
set_option maxRecDepth 100000
set_option linter.unusedVariables false
noncomputable def c71 : Code := (Tryz.f71.body).getD .skip
def a71 : Ann := (.seq .leaf (.seq (.seq .leaf (.br (.seq .leaf .leaf) .leaf)) (.seq .leaf .leaf)))
theorem ok71 : okC tab 8 true c71 a71 = true := by kernel_rfl
theorem vc71 (b_ : Sl) (h : Heap) (R : Value → Heap → Prop)
  (hv : CondP b_.a.isNone (
   R (.slice none 0 0) h) (
   ∀ b1 h1, Fresh h (.cells #[] 5) b1 h1 →
   RunK Tryz.prog (.sl) (Builtin.append_ #[33, 33] 33 #[.slice (some ⟨b1, 0, none⟩) 0 0, .slice b_.a b_.l b_.c]) h1 (fun x1 h2 =>
   R (.slice x1.a x1.l x1.c) h2))) :
  CallsH Tryz.prog 71 #[.slice b_.a b_.l b_.c] h R :=
  calls_of_vc tabOk mixed Tryz.func71 (c := c71) (by kernel_rfl) (n := 8) rfl (rs := [.tmp 2]) (by kernel_rfl) ok71 (args := [.slice b_.a b_.l b_.c]) (Nat.le_of_ble_eq_true rfl) (Eq.mpr (by kernel_rfl) hv)
end Go.Sx.Tryz
namespace Go.Sx.Tryz
open Go Go.Sx Go.Proofs
set_option maxRecDepth 100000
set_option linter.unusedVariables false
noncomputable def c139 : Code := (Tryz.f139.body).getD .skip
def a139 : Ann := (.seq .leaf (.seq .leaf .leaf))
theorem ok139 : okC tab 10 true c139 a139 = true := by kernel_rfl
theorem vc139 (a_ : Sl) (b_ : Sl) (h : Heap) (R : Value → Heap → Prop)
  (hv : ∃ s1 : ByteArray, StrOf h a_.a a_.l s1 ∧
   ∃ s2 : ByteArray, StrOf h b_.a b_.l s2 ∧
   R (.bool ((s1 : ByteArray).toList == (s2 : ByteArray).toList)) h) :
  CallsH Tryz.prog 139 #[.slice a_.a a_.l a_.c, .slice b_.a b_.l b_.c] h R :=
  calls_of_vc tabOk mixed Tryz.func139 (c := c139) (by kernel_rfl) (n := 10) rfl (rs := [.tmp 4]) (by kernel_rfl) ok139 (args := [.slice a_.a a_.l a_.c, .slice b_.a b_.l b_.c]) (Nat.le_of_ble_eq_true rfl) (Eq.mpr (by kernel_rfl) hv)
end Go.Sx.Tryz
namespace Go.Sx.Tryz
open Go Go.Sx Go.Proofs
set_option maxRecDepth 100000
set_option linter.unusedVariables false
noncomputable def c96 : Code := (Tryz.f96.body).getD .skip
def a96 : Ann := (.seq .leaf (.seq (.inn (.seq .leaf (.br (.seq .leaf .leaf) (.seq .leaf (.br (.seq .leaf .leaf) (.seq .leaf (.br (.seq .leaf .leaf) .leaf))))))) (.seq .leaf (.seq .leaf (.seq (.seq .leaf (.br (.seq .leaf .leaf) .leaf)) (.seq (.seq .leaf (.br (.seq .leaf .leaf) .leaf)) (.seq (.seq .leaf (.br (.seq .leaf .leaf) .leaf)) (.seq .leaf (.seq .leaf (.seq .leaf (.seq (.seq (.reg (.q 0 (.q 2 (.q 3 (.q 4 (.m 1 (.m 5 (.q 6 (.fin)) (.nil)) (.nil))))))) (.br (.seq .leaf .leaf) .leaf)) (.seq (.reg (.q 0 (.q 1 (.q 2 (.q 3 (.q 4 (.q 5 (.q 6 (.q 7 (.q 9 (.m 8 (.q 10 (.q 11 (.q 12 (.q 13 (.fin))))) (.nil)))))))))))) .leaf))))))))))))
theorem ok96 : okC tab 70 true c96 a96 = true := by kernel_rfl
theorem vc96 (b_ : Sl) (h : Heap) (R : Value → Heap → Prop)
  (hv : CondP ((((b_.l : Nat) : Int) : Int) == 0) (
   R (.tuple #[.int .u8 0, .slice none 0 0, .int .i64 0, .int .i64 31]) h) (
   ((0 : Int) ≤ 0 ∧ (0 : Int) < ((b_.l : Nat) : Int)) ∧
   NilP b_.a (fun b1 o1 =>
   ∃ n1 : Int, cellH h b1 o1 = some (.int .u8 n1) ∧
   CondP ((n1 : Int) == 0) (
   R (.tuple #[.int .u8 0, .slice none 0 0, .int .i64 0, .int .i64 20]) h) (
   ((0 : Int) ≤ 1 ∧ 1 ≤ ((b_.l : Nat) : Int)) ∧
   CallsH Tryz.prog 134 #[.slice (subA b_.a 1 b_.c 1) (b_.l - 1) (b_.c - 1)] h (fun r1 h1 => ∃ t1 : Bool, r1 = .bool t1 ∧
   CondP t1 (
   R (.tuple #[.int .u8 0, .slice none 0 0, .int .i64 0, .int .i64 31]) h1) (
   ((0 : Int) ≤ 1 ∧ 1 ≤ ((b_.l : Nat) : Int)) ∧
   CallsH Tryz.prog 135 #[.slice (subA b_.a 1 b_.c 1) (b_.l - 1) (b_.c - 1)] h1 (fun r2 h2 => ∃ p1 : Option Addr, r2 = .pointer p1 ∧
   CallsH Tryz.prog 136 #[.pointer p1, .int .u64 18446744073709551615] h2 (fun r3 h3 => ∃ n2 : Int, r3 = .int .u64 n2 ∧
   CallsH Tryz.prog 137 #[.pointer p1] h3 (fun r4 h4 => ∃ t2 : Bool, r4 = .bool t2 ∧
   CondP t2 (
   R (.tuple #[.int .u8 0, .slice none 0 0, .int .i64 0, .int .i64 20]) h4) (
   CondP (decide ((n2 : Int) > 65536)) (
   R (.tuple #[.int .u8 0, .slice none 0 0, .int .i64 0, .int .i64 21]) h4) (
   CallsH Tryz.prog 138 #[.pointer p1] h4 (fun r5 h5 => ∃ n3 : Int, r5 = .int .i64 n3 ∧
   CondP (decide ((n3 : Int) < (IntKind.i64.wrap ((IntKind.i64.wrap n2) + 4)))) (
   R (.tuple #[.int .u8 0, .slice none 0 0, .int .i64 0, .int .i64 31]) h5) (
   CallsH Tryz.prog 138 #[.pointer p1] h5 (fun r6 h6 => ∃ n4 : Int, r6 = .int .i64 n4 ∧
   ((0 : Int) ≤ (0 : Int) ∧ (0 : Int) ≤ IntKind.i64.wrap ((IntKind.i64.wrap ((IntKind.i64.wrap ((IntKind.i64.wrap (((b_.l : Nat) : Int) - n4)) + (IntKind.i64.wrap n2))) + 4)) - 4) ∧ IntKind.i64.wrap ((IntKind.i64.wrap ((IntKind.i64.wrap ((IntKind.i64.wrap (((b_.l : Nat) : Int) - n4)) + (IntKind.i64.wrap n2))) + 4)) - 4) ≤ ((b_.c : Nat) : Int)) ∧
   CallsH Tryz.prog 71 #[.slice (subA b_.a 0 b_.c 1) ((IntKind.i64.wrap ((IntKind.i64.wrap ((IntKind.i64.wrap ((IntKind.i64.wrap (((b_.l : Nat) : Int) - n4)) + (IntKind.i64.wrap n2))) + 4)) - 4)).toNat) b_.c] h6 (fun r7 h7 => ∃ x1 : Sl, r7 = .slice x1.a x1.l x1.c ∧
   ((0 : Int) ≤ (0 : Int) ∧ (0 : Int) ≤ IntKind.i64.wrap ((IntKind.i64.wrap ((IntKind.i64.wrap (((b_.l : Nat) : Int) - n4)) + (IntKind.i64.wrap n2))) + 4) ∧ IntKind.i64.wrap ((IntKind.i64.wrap ((IntKind.i64.wrap (((b_.l : Nat) : Int) - n4)) + (IntKind.i64.wrap n2))) + 4) ≤ ((b_.c : Nat) : Int)) ∧
   CallsH Tryz.prog 124 #[.slice x1.a x1.l x1.c] h7 (fun r8 h8 => ∃ x2 : Sl, r8 = .slice x2.a x2.l x2.c ∧
   CallsH Tryz.prog 139 #[.slice x2.a x2.l x2.c, .slice (subA b_.a 0 b_.c 1) ((IntKind.i64.wrap ((IntKind.i64.wrap ((IntKind.i64.wrap (((b_.l : Nat) : Int) - n4)) + (IntKind.i64.wrap n2))) + 4)).toNat) b_.c] h8 (fun r9 h9 => ∃ t3 : Bool, r9 = .bool t3 ∧
   CondP (!t3) (
   R (.tuple #[.int .u8 0, .slice none 0 0, .int .i64 0, .int .i64 30]) h9) (
   ((0 : Int) ≤ 0 ∧ (0 : Int) < ((b_.l : Nat) : Int)) ∧
   NilP b_.a (fun b2 o2 =>
   ∃ n5 : Int, cellH h9 b2 o2 = some (.int .u8 n5) ∧
   ((0 : Int) ≤ IntKind.i64.wrap (((b_.l : Nat) : Int) - n4) ∧ IntKind.i64.wrap (((b_.l : Nat) : Int) - n4) ≤ IntKind.i64.wrap ((IntKind.i64.wrap ((IntKind.i64.wrap ((IntKind.i64.wrap (((b_.l : Nat) : Int) - n4)) + (IntKind.i64.wrap n2))) + 4)) - 4) ∧ IntKind.i64.wrap ((IntKind.i64.wrap ((IntKind.i64.wrap ((IntKind.i64.wrap (((b_.l : Nat) : Int) - n4)) + (IntKind.i64.wrap n2))) + 4)) - 4) ≤ ((b_.c : Nat) : Int)) ∧
   CallsH Tryz.prog 71 #[.slice (subA b_.a ((IntKind.i64.wrap (((b_.l : Nat) : Int) - n4)).toNat) b_.c 1) (((IntKind.i64.wrap ((IntKind.i64.wrap ((IntKind.i64.wrap ((IntKind.i64.wrap (((b_.l : Nat) : Int) - n4)) + (IntKind.i64.wrap n2))) + 4)) - 4)).toNat) - ((IntKind.i64.wrap (((b_.l : Nat) : Int) - n4)).toNat)) (b_.c - ((IntKind.i64.wrap (((b_.l : Nat) : Int) - n4)).toNat))] h9 (fun r10 h10 => ∃ x3 : Sl, r10 = .slice x3.a x3.l x3.c ∧
   cellH h10 b2 o2 = some (.int .u8 n5) ∧
   R (.tuple #[.int .u8 n5, .slice x3.a x3.l x3.c, .int .i64 (IntKind.i64.wrap ((IntKind.i64.wrap ((IntKind.i64.wrap (((b_.l : Nat) : Int) - n4)) + (IntKind.i64.wrap n2))) + 4)), .int .i64 0]) h10)))))))))))))))))))) :
  CallsH Tryz.prog 96 #[.slice b_.a b_.l b_.c] h R :=
  calls_of_vc tabOk mixed Tryz.func96 (c := c96) (by kernel_rfl) (n := 70) rfl (rs := [.tmp 2, .tmp 3, .tmp 4, .tmp 5]) (by kernel_rfl) ok96 (args := [.slice b_.a b_.l b_.c]) (Nat.le_of_ble_eq_true rfl) (Eq.mpr (by kernel_rfl) hv)
end Go.Sx.Tryz
namespace Go.Sx.Tryz
open Go Go.Sx Go.Proofs
set_option linter.unusedVariables false
theorem CellsAt.fresh {H H' : Heap} {o : Obj} {c : Nat} (hf : Fresh H o c H') {b off : Nat} {vs : List Value} (h : CellsAt H b off vs) : CellsAt H' b off vs := by
  obtain ⟨rfl, rfl⟩ := hf
  refine CellsAt.of fun j v hj => ?_
  have := h.get j v hj
  unfold cellH at this ⊢
  cases hb : H[b]? with
  | none => rw [hb] at this; cases this
  | some x => rw [Array.getElem?_push, if_neg (by have := lt_of_some hb; omega), ← this]
theorem StrOf.ofCells {H : Heap} {v : Sl} {xs : List UInt8} (hl : v.l = xs.length) (h : v.l = 0 ∨ ∃ b o, v.a = some ⟨b, o, none⟩ ∧ CellsAt H b o (bv xs)) : StrOf H v.a v.l ⟨xs.toArray⟩ := by
  refine ⟨by rw [hl]; rfl, ?_⟩
  rcases h with h0 | ⟨b, o, h1, h2⟩
  · exact .inl h0
  · exact .inr ⟨b, o, h1, by simpa [bytesV, bv] using h2⟩
theorem own.reads {H : Heap} {S : PH} {L : List Asn} {v : Sl} {xs : List UInt8} (h : Sat H S (own 5 1 v (bv xs) :: L)) : v.l = xs.length ∧ (v.l = 0 ∨ ∃ b o, v.a = some ⟨b, o, none⟩ ∧ CellsAt H b o (bv xs)) := by
  have hl := (own.len h).1
  rw [bv_len, Nat.mul_one] at hl
  refine ⟨hl.symm, ?_⟩
  rcases Nat.eq_zero_or_pos v.l with h0 | h0
  · exact .inl h0
  · obtain ⟨g, h1, h2⟩ := own.cells h (by rw [bv_len]; omega)
    exact .inr ⟨g, 0, h1, h2⟩
theorem RdB.reads {H : Heap} {S : PH} {L : List Asn} {v : Sl} {xs : List UInt8} (hv : RdB S v xs) (h : Sat H S L) : v.l = xs.length ∧ (v.l = 0 ∨ ∃ b o, v.a = some ⟨b, o, none⟩ ∧ CellsAt H b o (bv xs)) := by
  refine ⟨RdB.len hv, ?_⟩
  rcases Nat.eq_zero_or_pos v.l with h0 | h0
  · exact .inl h0
  · obtain ⟨g, o, h1, h2⟩ := Rd.at hv h h0
    exact .inr ⟨g, o, h1, h2⟩
theorem clone_spec {H : Heap} {S : PH} {R : List Asn} {v : Sl} {xs : List UInt8} (hs : Sat H S R) (hr : v.l = xs.length ∧ (v.l = 0 ∨ ∃ b o, v.a = some ⟨b, o, none⟩ ∧ CellsAt H b o (bv xs))) (hlen : xs.length < 100000000000)
    {K : Value → Heap → Prop} (hk : ∀ (v' : Sl) H', v'.l = xs.length → Sat H' S (own 5 1 v' (bv xs) :: R) → K (.slice v'.a v'.l v'.c) H') : CallsH Tryz.prog 71 #[.slice v.a v.l v.c] H K := by
  apply vc71
  obtain ⟨hl, hr⟩ := hr
  refine CondP.of (fun hc => ?_) (fun hc => ?_)
  · have h0 : v.l = 0 := by
      rcases hr with h | ⟨b, o, h, _⟩
      · exact h
      · rw [h] at hc; cases hc
    have hx : xs = [] := List.eq_nil_of_length_eq_zero (by omega)
    subst hx
    exact hk ⟨none, 0, 0⟩ H rfl (own.new 5 1 hs)
  · intro b1 h1 hf
    have hs1 : Sat h1 S (lst b1 5 [] :: R) := hs.fresh hf
    have hs2 := own.ofLst (sz := 1) (n := 0) (c := 0) (xs := []) hs1 rfl (Nat.le_refl _) (by decide) rfl
    refine append_own el33 (v := ⟨some ⟨b1, 0, none⟩, 0, 0⟩) hs2 (m := v.l) (c := v.c) (news := bv xs) (by rw [bv_len]; omega) ?_ (bv_one _) (by show (0 + v.l) * 1 ≤ _; omega) (by show 0 + v.l ≤ maxLen; unfold maxLen; omega) fun v' H' hv' hs' => hk v' H' (by rw [hv']; show 0 + v.l = _; omega) hs'
    rcases hr with h | ⟨b, o, ha, hc⟩
    · exact .inl h
    · exact .inr ⟨b, o, ha, CellsAt.fresh hf hc⟩
theorem equal_spec {H : Heap} {v u : Sl} {xs ys : List UInt8} (h1 : v.l = xs.length ∧ (v.l = 0 ∨ ∃ b o, v.a = some ⟨b, o, none⟩ ∧ CellsAt H b o (bv xs))) (h2 : u.l = ys.length ∧ (u.l = 0 ∨ ∃ b o, u.a = some ⟨b, o, none⟩ ∧ CellsAt H b o (bv ys)))
    {K : Value → Heap → Prop} (hk : K (.bool (decide (xs = ys))) H) : CallsH Tryz.prog 139 #[.slice v.a v.l v.c, .slice u.a u.l u.c] H K := by
  apply vc139
  refine ⟨⟨xs.toArray⟩, StrOf.ofCells h1.1 h1.2, ⟨ys.toArray⟩, StrOf.ofCells h2.1 h2.2, ?_⟩
  have e : ((⟨xs.toArray⟩ : ByteArray).toList == (⟨ys.toArray⟩ : ByteArray).toList) = decide (xs = ys) := by
    rw [ByteArray.toList_eq, ByteArray.toList_eq]
    show (xs == ys) = decide (xs = ys)
    by_cases h : xs = ys
    · simp [h]
    · simp [h]
  rw [e]; exact hk
def parcelH (kind : UInt8) (body : List UInt8) : List UInt8 := kind :: textB body
def parcelB (kind : UInt8) (body : List UInt8) : List UInt8 := parcelH kind body ++ sumB (parcelH kind body)
theorem sumB_len (l : List UInt8) : (sumB l).length = 4 := rfl
theorem parcelH_len (kind : UInt8) (body : List UInt8) : (parcelH kind body).length = 1 + (natB body.length).length + body.length := by simp [parcelH, textB]; omega
theorem parcelB_len (kind : UInt8) (body : List UInt8) : (parcelB kind body).length = 5 + (natB body.length).length + body.length := by rw [parcelB, List.length_append, sumB_len, parcelH_len]; omega
theorem Wrap_spec {H : Heap} {S : PH} {R : List Asn} {kind : UInt8} {v : Sl} {body : List UInt8} (hs : Sat H S R) (hv : RdB S v body) (h0 : kind ≠ 0) (hb : body.length ≤ 65536)
    {K : Value → Heap → Prop} (hk : ∀ (v' : Sl) H' S', PH.le S S' → Sat H' S' (own 5 1 v' (bv (parcelB kind body)) :: R) → K (.tuple #[.slice v'.a v'.l v'.c, .int .i64 0]) H') :
    CallsH Tryz.prog 82 #[.int .u8 (kind.toNat : Int), .slice v.a v.l v.c] H K := by
  apply vc82
  have hl := RdB.len hv
  refine CondP.of (fun hc => ?_) (fun _ => CondP.of (fun hc => by simp at hc; omega) (fun _ => ?_))
  · exfalso; apply h0
    have : kind.toNat = 0 := by simpa using hc
    exact UInt8.toNat_inj.1 this
  intro b1 h1 hf1
  have hs1 : Sat h1 S (lst b1 145 [.slice none 0 0] :: R) := hs.fresh hf1
  refine ⟨⟨body.toArray⟩, StrOf.ofRd hv hs1, ?_⟩
  have hw : Sat h1 S (wr b1 [] :: R) := wr_shut (v := ⟨none, 0, 0⟩) (own.new 5 1 hs1).swap
  have hsz : (⟨body.toArray⟩ : ByteArray).size = body.length := rfl
  refine Text_spec hw (by simp) (by rw [hsz]; omega) fun h2 hs2 => ⟨rfl, fun b2 h3 hf3 => ?_⟩
  rw [List.nil_append] at hs2
  have hs3 : Sat h3 S (lst b2 5 (bv [kind]) :: wr b1 (textB body) :: R) := hs2.fresh hf3
  have hn10 := natB_le (n := body.length) (by omega)
  have ht : (textB body).length = (natB body.length).length + body.length := by simp [textB]
  refine Bytes_spec hs3.swap (by omega) fun x1 h4 S' hS hs4 hr4 => ⟨x1, rfl, ?_⟩
  have hs5 : Sat h4 S' (own 5 1 ⟨some ⟨b2, 0, none⟩, 1, 1⟩ (bv [kind]) :: wr b1 (textB body) :: R) := own.ofLst (n := 1) (c := 1) hs4.swap rfl (Nat.le_refl _) (by decide) rfl
  obtain ⟨hx1, hx2⟩ := hr4.reads hs5
  refine append_own el33 (v := ⟨some ⟨b2, 0, none⟩, 1, 1⟩) hs5 (m := x1.l) (c := x1.c) (news := bv (textB body)) (by rw [bv_len]; omega) ?_ (bv_one _) (by show (1 + x1.l) * 1 ≤ _; omega) (by show 1 + x1.l ≤ maxLen; unfold maxLen; omega) fun x2 h5 hx2 hs6 => ?_
  · rcases hx2 with h | ⟨b, o, h, h'⟩
    · exact .inl h
    · exact .inr ⟨b, o, h, h'⟩
  rw [← bv_append] at hs6
  have hs6 : Sat h5 S' (own 5 1 x2 (bv (parcelH kind body)) :: wr b1 (textB body) :: R) := hs6
  refine seal_spec hs6 (by rw [parcelH_len]; omega) fun x3 h6 hs7 => ⟨x3, rfl, ?_⟩
  exact hk x3 h6 S' hS (hs7.del 1)
def openB (xs : List UInt8) : Bool := xs.all (fun c => decide (128 ≤ c.toNat)) && decide (xs.length < 10)
theorem open_spec {H : Heap} {S : PH} {R : List Asn} {v : Sl} {xs : List UInt8} (hs : Sat H S R) (hv : RdB S v xs) (hlen : xs.length < 1000000000000) {K : Value → Heap → Prop} (hk : K (.bool (openB xs)) H) : CallsH Tryz.prog 134 #[.slice v.a v.l v.c] H K := by
  apply vc134
  have hl := RdB.len hv
  refine ⟨fun n1 h => ∃ i : Nat, n1 = i ∧ i ≤ xs.length ∧ h = H ∧ (∀ c ∈ xs.take i, 128 ≤ c.toNat), fun n1 _ => xs.length - n1.toNat, ⟨0, rfl, by omega, rfl, by simp⟩, ?_⟩
  rintro n1 h1 ⟨i, rfl, hi, rfl, hall⟩ _
  refine CondP.of (fun hc => ?_) (fun hc => ?_)
  · have hc : i < xs.length := by simp at hc; omega
    refine ⟨⟨by omega, by omega⟩, ?_⟩
    obtain ⟨b, o, ha, hcell⟩ := hv.get hs (List.getElem?_eq_getElem hc)
    refine NilP.of ha ⟨_, by simpa using hcell, CondP.of (fun hlt => ?_) (fun hge => ?_)⟩
    · have e : openB xs = false := by
        have : xs.all (fun c => decide (128 ≤ c.toNat)) = false := by
          rw [List.all_eq_false]
          exact ⟨xs[i], List.getElem_mem hc, by simp at hlt ⊢; omega⟩
        simp [openB, this]
      rw [e] at hk; exact hk
    · refine ⟨⟨i + 1, ?_, hc, rfl, ?_⟩, ?_⟩
      · exact i64_succ (by omega)
      · rw [List.take_succ_eq_append_getElem hc]
        intro c hcm
        rcases List.mem_append.1 hcm with h | h
        · exact hall c h
        · simp at h; subst h; simp at hge; omega
      · show xs.length - (IntKind.i64.wrap ((i : Int) + 1)).toNat < xs.length - i
        rw [i64_succ (by omega)]; show xs.length - (i + 1) < _; omega
  · have hc : i = xs.length := by simp at hc; omega
    subst hc
    rw [List.take_length] at hall
    have e : openB xs = decide (((v.l : Nat) : Int) < 10) := by
      have : xs.all (fun c => decide (128 ≤ c.toNat)) = true := by
        rw [List.all_eq_true]
        intro c hc; exact decide_eq_true (hall c hc)
      rw [openB, this, hl, Bool.true_and]
      simp
      omega
    rw [← e]; exact hk
theorem natB_open : ∀ (n : Nat) (rest : List UInt8), (natB n ++ rest).all (fun c => decide (128 ≤ c.toNat)) = false := by
  intro n
  induction n using Nat.strongRecOn with
  | _ n ih =>
    intro rest
    by_cases h : n < 128
    · rw [natB_small h]
      have : ¬ 128 ≤ (UInt8.ofNat n).toNat := by simp; omega
      simp only [List.cons_append, List.all_cons, this, decide_false, Bool.false_and]
    · rw [natB_big h]
      simp only [List.cons_append, List.all_cons, ih (n / 128) (by omega), Bool.and_false]
theorem openB_nat (n : Nat) (rest : List UInt8) : openB (natB n ++ rest) = false := by
  rw [openB, natB_open, Bool.false_and]
theorem natB_begin : ∀ (n : Nat) (p q : List UInt8), natB n = p ++ q → q ≠ [] → ∀ c ∈ p, 128 ≤ c.toNat := by
  intro n
  induction n using Nat.strongRecOn with
  | _ n ih =>
    intro p q h hq c hc
    by_cases hn : n < 128
    · rw [natB_small hn] at h
      cases p with
      | nil => cases hc
      | cons a p =>
        have : p ++ q = [] := by simpa using (List.cons.inj h).2.symm
        exact absurd (List.append_eq_nil_iff.1 this).2 hq
    · rw [natB_big hn] at h
      cases p with
      | nil => cases hc
      | cons a p =>
        obtain ⟨h1, h2⟩ := List.cons.inj h
        rcases List.mem_cons.1 hc with e | e
        · subst e; rw [← h1]; simp; omega
        · exact ih (n / 128) (by omega) p q h2 hq c e
theorem openB_begin {n : Nat} (hn : n < 18446744073709551616) {p q : List UInt8} (h : natB n = p ++ q) (hq : q ≠ []) : openB p = true := by
  have h1 := natB_begin n p q h hq
  have h2 := natB_le hn
  have h3 : 0 < q.length := List.length_pos_iff.2 hq
  rw [h, List.length_append] at h2
  have : p.all (fun c => decide (128 ≤ c.toNat)) = true := by
    rw [List.all_eq_true]
    intro c hc; exact decide_eq_true (h1 c hc)
  rw [openB, this, Bool.true_and]
  exact decide_eq_true (by omega)
end Go.Sx.Tryz
namespace Go.Sx.Tryz
open Go Go.Sx Go.Proofs
set_option linter.unusedVariables false
theorem RdB.spot {S : PH} {v : Sl} {xs : List UInt8} (h : RdB S v xs) (h0 : 0 < v.l) : ∀ a, v.a = some a → a.spot = none := by
  intro a ha
  obtain ⟨gb, go, _, _, _, g1, _⟩ := h.2.2.resolve_left (by omega)
  rw [ha] at g1; cases g1; rfl
theorem take_ok {H : Heap} {S : PH} {R : List Asn} {kind : UInt8} {v : Sl} {body rest : List UInt8} (hs : Sat H S R) (hv : RdB S v (parcelB kind body ++ rest)) (h0 : kind ≠ 0) (hb : body.length ≤ 65536) (hlen : rest.length < 1000000000)
    {K : Value → Heap → Prop} (hk : ∀ (v' : Sl) H' S', PH.le S S' → RdB S' v' body → Sat H' S' R → K (.tuple #[.int .u8 (kind.toNat : Int), .slice v'.a v'.l v'.c, .int .i64 ((parcelB kind body).length : Int), .int .i64 0]) H') :
    CallsH Tryz.prog 96 #[.slice v.a v.l v.c] H K := by
  apply vc96
  have hl := RdB.len hv
  have hn10 := natB_le (n := body.length) (by omega)
  rw [List.length_append, parcelB_len] at hl
  have hspot := hv.spot (by omega)
  generalize hL : (natB body.length).length = L at *
  refine CondP.of (fun hc => by simp at hc; omega) (fun _ => ⟨⟨by omega, by omega⟩, ?_⟩)
  have hx : parcelB kind body ++ rest = kind :: (natB body.length ++ (body ++ (sumB (parcelH kind body) ++ rest))) := by simp [parcelB, parcelH, textB]
  obtain ⟨gb, go, ga, gc⟩ := hv.get hs (k := 0) (c := kind) (by rw [hx]; rfl)
  refine NilP.of ga ⟨(kind.toNat : Int), by simpa using gc, CondP.of (fun hc => ?_) (fun _ => ⟨⟨by omega, by omega⟩, ?_⟩)⟩
  · exfalso; apply h0
    have : kind.toNat = 0 := by simpa using hc
    exact UInt8.toNat_inj.1 this
  have hv1 := hv.drop (k := 1) (by omega)
  rw [hx, List.drop_one, List.tail_cons] at hv1
  have hlr : (body ++ (sumB (parcelH kind body) ++ rest)).length = body.length + (4 + rest.length) := by simp [sumB_len]
  refine open_spec (v := ⟨subA v.a 1 v.c 1, v.l - 1, v.c - 1⟩) hs hv1 (by rw [List.length_append, hlr]; omega) ⟨false, by rw [openB_nat], CondP.of (fun hc => by cases hc) (fun _ => ⟨⟨by omega, by omega⟩, ?_⟩)⟩
  refine ropen_spec (v := ⟨subA v.a 1 v.c 1, v.l - 1, v.c - 1⟩) hs fun b h2 hs2 => ⟨_, rfl, ?_⟩
  refine rnat_spec (most := 18446744073709551615) (n := body.length) hs2 hv1 (by omega) (by omega) (by decide) (by rw [hlr]; omega) fun v2 h3 hv2 hs3 => ⟨_, rfl, ?_⟩
  refine rbad_spec hs3 ⟨false, rfl, CondP.of (fun hc => by cases hc) (fun _ => CondP.of (fun hc => by simp at hc; omega) (fun _ => ?_))⟩
  have hl2 := RdB.len hv2
  rw [hlr] at hl2
  refine rleft_spec hs3 ⟨_, rfl, CondP.of (fun hc => ?_) (fun _ => rleft_spec hs3 ⟨_, rfl, ?_⟩)⟩
  · rw [i64_nat (i := body.length) (by omega), show IntKind.i64.wrap ((body.length : Int) + 4) = ((body.length + 4 : Nat) : Int) from i64_add (j := 4) (by omega)] at hc
    simp at hc; omega
  have e1 : IntKind.i64.wrap ((v.l : Int) - (v2.l : Int)) = ((1 + L : Nat) : Int) := by rw [i64_sub (by omega) (by omega)]; omega
  have e2 : IntKind.i64.wrap (body.length : Int) = (body.length : Int) := i64_nat (by omega)
  have e3 : IntKind.i64.wrap (((1 + L : Nat) : Int) + (body.length : Int)) = ((1 + L + body.length : Nat) : Int) := i64_add (by omega)
  have e4 : IntKind.i64.wrap (((1 + L + body.length : Nat) : Int) + 4) = ((1 + L + body.length + 4 : Nat) : Int) := i64_add (j := 4) (by omega)
  have e5 : IntKind.i64.wrap (((1 + L + body.length + 4 : Nat) : Int) - 4) = ((1 + L + body.length : Nat) : Int) := i64_sub (i := 1 + L + body.length + 4) (j := 4) (by omega) (by omega)
  simp only [e1, e2, e3, e4, e5, Int.toNat_natCast, subA_zero hspot]
  have hvc := hv.2.1
  refine ⟨⟨by omega, by omega, by omega⟩, ?_⟩
  have hwhole : (parcelB kind body ++ rest).take (1 + L + body.length) = parcelH kind body := by
    have : (parcelH kind body).length = 1 + L + body.length := by rw [parcelH_len, hL]
    rw [parcelB, List.append_assoc, ← this, List.take_left]
  have hall : (parcelB kind body ++ rest).take (1 + L + body.length + 4) = parcelB kind body := by
    have : (parcelB kind body).length = 1 + L + body.length + 4 := by rw [parcelB_len, hL]; omega
    rw [← this, List.take_left]
  have hr1 := (hv.take (k := 1 + L + body.length) (m := v.c) (by omega) (by omega)).reads hs3
  rw [hwhole] at hr1
  have hpl : (parcelH kind body).length = 1 + L + body.length := by rw [parcelH_len, hL]
  refine clone_spec (v := ⟨v.a, 1 + L + body.length, v.c⟩) hs3 hr1 (by omega) fun x1 h7 hx1 hs7 => ⟨x1, rfl, ⟨by omega, by omega, by omega⟩, ?_⟩
  refine seal_spec hs7 (by omega) fun x2 h8 hs8 => ⟨x2, rfl, ?_⟩
  have hr2 := (hv.take (k := 1 + L + body.length + 4) (m := v.c) (by omega) (by omega)).reads hs8
  rw [hall] at hr2
  refine equal_spec (v := x2) (u := ⟨v.a, 1 + L + body.length + 4, v.c⟩) (own.reads hs8) hr2 ⟨true, by simp [parcelB], CondP.of (fun hc => by cases hc) (fun _ => ⟨⟨by omega, by omega⟩, ?_⟩)⟩
  obtain ⟨gb8, go8, ga8, gc8⟩ := hv.get hs8 (k := 0) (c := kind) (by rw [hx]; rfl)
  refine NilP.of ga8 ⟨(kind.toNat : Int), by simpa using gc8, ⟨by omega, by omega, by omega⟩, ?_⟩
  have hr3 := ((hv.take (k := 1 + L + body.length) (m := v.c) (by omega) (by omega)).drop (k := 1 + L) (by show 1 + L ≤ 1 + L + body.length; omega)).reads hs8
  have hbody : ((parcelB kind body ++ rest).take (1 + L + body.length)).drop (1 + L) = body := by
    rw [hwhole, parcelH, textB]
    have : (1 + L) = (kind :: natB body.length).length := by simp [hL]; omega
    rw [this, ← List.cons_append, List.drop_left]
  rw [hbody] at hr3
  refine clone_spec (v := ⟨subA v.a (1 + L) v.c 1, 1 + L + body.length - (1 + L), v.c - (1 + L)⟩) hs8 hr3 (by omega) fun x3 h9 hx3 hs9 => ⟨x3, rfl, ?_⟩
  obtain ⟨gb9, go9, ga9, gc9⟩ := hv.get hs9 (k := 0) (c := kind) (by rw [hx]; rfl)
  rw [ga8] at ga9
  cases ga9
  obtain ⟨S', q1, q2, q3⟩ := own.fixd hs9
  refine ⟨by simpa using gc9, ?_⟩
  have := hk x3 h9 S' q1 q2 (q3.del 0 |>.del 0)
  rw [parcelB_len, hL] at this
  rw [show 1 + L + body.length + 4 = 5 + L + body.length by omega]
  exact this
theorem take_torn {H : Heap} {S : PH} {R : List Asn} {kind : UInt8} {v : Sl} {body p q : List UInt8} (hs : Sat H S R) (hv : RdB S v p) (hp : parcelB kind body = p ++ q) (hq : q ≠ []) (h0 : kind ≠ 0) (hb : body.length ≤ 65536)
    {K : Value → Heap → Prop} (hk : ∀ H', Sat H' S R → K (.tuple #[.int .u8 0, .slice none 0 0, .int .i64 0, .int .i64 31]) H') :
    CallsH Tryz.prog 96 #[.slice v.a v.l v.c] H K := by
  apply vc96
  have hl := RdB.len hv
  have hn10 := natB_le (n := body.length) (by omega)
  have hpl := congrArg List.length hp
  rw [parcelB_len, List.length_append] at hpl
  have hql : 0 < q.length := List.length_pos_iff.2 hq
  refine CondP.of (fun hc => hk H hs) (fun hc => ⟨⟨by omega, by simp at hc; omega⟩, ?_⟩)
  have hc : 0 < p.length := by simp at hc; omega
  obtain ⟨k', p', rfl⟩ : ∃ k' p', p = k' :: p' := by
    cases p with
    | nil => simp at hc
    | cons a p => exact ⟨a, p, rfl⟩
  have hx : parcelB kind body = kind :: (natB body.length ++ (body ++ sumB (parcelH kind body))) := by simp [parcelB, parcelH, textB]
  rw [hx] at hp
  obtain ⟨rfl, hp'⟩ := List.cons.inj hp
  obtain ⟨gb, go, ga, gc⟩ := hv.get hs (k := 0) (c := kind) rfl
  refine NilP.of ga ⟨(kind.toNat : Int), by simpa using gc, CondP.of (fun hc => ?_) (fun _ => ⟨⟨by omega, by omega⟩, ?_⟩)⟩
  · exfalso; apply h0
    have : kind.toNat = 0 := by simpa using hc
    exact UInt8.toNat_inj.1 this
  have hv1 := hv.drop (k := 1) (by omega)
  rw [List.drop_one, List.tail_cons] at hv1
  have hp'l : p'.length < 1000000 := by simp only [List.length_cons] at hpl; omega
  refine open_spec (v := ⟨subA v.a 1 v.c 1, v.l - 1, v.c - 1⟩) hs hv1 (by omega) ⟨_, rfl, CondP.of (fun _ => hk H hs) (fun hop => ⟨⟨by omega, by omega⟩, ?_⟩)⟩
  obtain ⟨r, hr, hrl⟩ : ∃ r, p' = natB body.length ++ r ∧ r.length < body.length + 4 := by
    rcases Nat.lt_or_ge p'.length (natB body.length).length with h | h
    · exfalso
      have h1 : natB body.length = p' ++ (natB body.length).drop p'.length := by
        have h2 : (natB body.length).take p'.length = p' := by
          have := congrArg (List.take p'.length) hp'
          rw [List.cons_append] at hp
          rw [List.take_append_of_le_length (by omega)] at this
          rw [this]; exact List.take_left
        conv => lhs; rw [← List.take_append_drop p'.length (natB body.length), h2]
      have := openB_begin (n := body.length) (by omega) h1 (by intro e; have := congrArg List.length e; rw [List.length_drop, List.length_nil] at this; omega)
      rw [this] at hop; cases hop
    · refine ⟨p'.drop (natB body.length).length, ?_, ?_⟩
      · have h2 : p'.take (natB body.length).length = natB body.length := by
          have := congrArg (List.take (natB body.length).length) hp'
          rw [List.take_left, show List.append p' q = p' ++ q from rfl, List.take_append_of_le_length h] at this
          exact this.symm
        conv => lhs; rw [← List.take_append_drop (natB body.length).length p', h2]
      · rw [List.length_drop]; simp only [List.length_cons] at hpl; omega
  subst hr
  refine ropen_spec (v := ⟨subA v.a 1 v.c 1, v.l - 1, v.c - 1⟩) hs fun b h2 hs2 => ⟨_, rfl, ?_⟩
  refine rnat_spec (most := 18446744073709551615) (n := body.length) hs2 hv1 (by omega) (by omega) (by decide) (by omega) fun v2 h3 hv2 hs3 => ⟨_, rfl, ?_⟩
  refine rbad_spec hs3 ⟨false, rfl, CondP.of (fun hc => by cases hc) (fun _ => CondP.of (fun hc => by simp at hc; omega) (fun _ => ?_))⟩
  have hl2 := RdB.len hv2
  refine rleft_spec hs3 ⟨_, rfl, CondP.of (fun _ => hk h3 hs3.drop) (fun hc => ?_)⟩
  exfalso
  rw [i64_nat (i := body.length) (by omega), show IntKind.i64.wrap ((body.length : Int) + 4) = ((body.length + 4 : Nat) : Int) from i64_add (j := 4) (by omega)] at hc
  simp at hc; omega
end Go.Sx.Tryz
namespace Go.Sx.Tryz
open Go Go.Sx Go.Proofs
set_option maxRecDepth 100000
set_option linter.unusedVariables false
noncomputable def c154 : Code := (Tryz.f154.body).getD .skip
def a154 : Ann := (.seq .leaf (.seq .leaf (.seq .leaf (.seq (.seq .leaf (.inn (.loop [(5, .one (.i .u64)), (6, .one (.i .u64)), (7, .one (.i .i64))] (.seq (.join [(20, .one (.b))] .leaf (.br .leaf .leaf)) (.seq (.inn (.seq .leaf (.seq .leaf (.seq (.seq .leaf (.br (.seq .leaf .leaf) .leaf)) (.seq .leaf (.seq .leaf (.seq .leaf (.br (.seq (.seq .leaf (.br (.seq .leaf .leaf) .leaf)) (.seq .leaf (.seq .leaf .leaf))) .leaf)))))))) .leaf))))) (.seq .leaf .leaf)))))
theorem ok154 : okC tab 76 true c154 a154 = true := by kernel_rfl
theorem vc154 (r_b r_o : Nat) (most_ : Int) (h : Heap) (R : Value → Heap → Prop)
  (hv : ∃ (I1 : Int → Int → Int → Heap → Prop) (mu1 : Int → Int → Int → Heap → Nat), I1 0 1 0 h ∧ (∀ n1 : Int, ∀ n2 : Int, ∀ n3 : Int, ∀ h1, I1 n1 n2 n3 h1 → ∀ _ : Env,
   ∃ J1 : Bool → Heap → Prop, (∀ t1 : Bool, ∀ h2, J1 t1 h2 → ∀ _ : Env,
   CondP t1 (
   ∃ x1 : Sl, cellH h2 r_b r_o = some (.slice x1.a x1.l x1.c) ∧
   ((0 : Int) ≤ n3 ∧ (n3 : Int) < ((x1.l : Nat) : Int)) ∧
   NilP x1.a (fun b1 o1 =>
   ∃ n4 : Int, cellH h2 b1 (o1 + n3.toNat) = some (.int .u8 n4) ∧
   (128 : Int) ≠ 0 ∧
   CondP ((n3 : Int) == 9) (
   CondP (decide ((IntKind.u64.wrap (Int.tmod n4 128) : Int) > 1)) (
   CallsH Tryz.prog 176 #[.pointer (some ⟨r_b, r_o, none⟩)] h2 (fun r1 h3 => ∃ n5 : Int, r1 = .int .u64 n5 ∧
   R (.int .u64 n5) h3)) (
   CondP (decide ((n4 : Int) < 128)) (
   CondP (decide ((n3 : Int) > 0)) (
   CondP ((n4 : Int) == 0) (
   CallsH Tryz.prog 176 #[.pointer (some ⟨r_b, r_o, none⟩)] h2 (fun r2 h4 => ∃ n6 : Int, r2 = .int .u64 n6 ∧
   R (.int .u64 n6) h4)) (
   CondP (decide ((IntKind.u64.wrap (n1 + (IntKind.u64.wrap ((IntKind.u64.wrap (Int.tmod n4 128)) * n2))) : Int) > most_)) (
   CallsH Tryz.prog 176 #[.pointer (some ⟨r_b, r_o, none⟩)] h2 (fun r3 h5 => ∃ n7 : Int, r3 = .int .u64 n7 ∧
   R (.int .u64 n7) h5)) (
   ∃ x2 : Sl, cellH h2 r_b r_o = some (.slice x2.a x2.l x2.c) ∧
   ((0 : Int) ≤ IntKind.i64.wrap (n3 + 1) ∧ IntKind.i64.wrap (n3 + 1) ≤ ((x2.l : Nat) : Int)) ∧
   CanSt h2 r_b r_o [.slice (subA x2.a ((IntKind.i64.wrap (n3 + 1)).toNat) x2.c 1) (x2.l - ((IntKind.i64.wrap (n3 + 1)).toNat)) (x2.c - ((IntKind.i64.wrap (n3 + 1)).toNat))] ∧ ∀ h6, Stored h2 r_b r_o [.slice (subA x2.a ((IntKind.i64.wrap (n3 + 1)).toNat) x2.c 1) (x2.l - ((IntKind.i64.wrap (n3 + 1)).toNat)) (x2.c - ((IntKind.i64.wrap (n3 + 1)).toNat))] h6 →
   R (.int .u64 (IntKind.u64.wrap (n1 + (IntKind.u64.wrap ((IntKind.u64.wrap (Int.tmod n4 128)) * n2))))) h6))) (
   CondP (decide ((IntKind.u64.wrap (n1 + (IntKind.u64.wrap ((IntKind.u64.wrap (Int.tmod n4 128)) * n2))) : Int) > most_)) (
   CallsH Tryz.prog 176 #[.pointer (some ⟨r_b, r_o, none⟩)] h2 (fun r4 h7 => ∃ n8 : Int, r4 = .int .u64 n8 ∧
   R (.int .u64 n8) h7)) (
   ∃ x3 : Sl, cellH h2 r_b r_o = some (.slice x3.a x3.l x3.c) ∧
   ((0 : Int) ≤ IntKind.i64.wrap (n3 + 1) ∧ IntKind.i64.wrap (n3 + 1) ≤ ((x3.l : Nat) : Int)) ∧
   CanSt h2 r_b r_o [.slice (subA x3.a ((IntKind.i64.wrap (n3 + 1)).toNat) x3.c 1) (x3.l - ((IntKind.i64.wrap (n3 + 1)).toNat)) (x3.c - ((IntKind.i64.wrap (n3 + 1)).toNat))] ∧ ∀ h8, Stored h2 r_b r_o [.slice (subA x3.a ((IntKind.i64.wrap (n3 + 1)).toNat) x3.c 1) (x3.l - ((IntKind.i64.wrap (n3 + 1)).toNat)) (x3.c - ((IntKind.i64.wrap (n3 + 1)).toNat))] h8 →
   R (.int .u64 (IntKind.u64.wrap (n1 + (IntKind.u64.wrap ((IntKind.u64.wrap (Int.tmod n4 128)) * n2))))) h8))) (
   I1 (IntKind.u64.wrap (n1 + (IntKind.u64.wrap ((IntKind.u64.wrap (Int.tmod n4 128)) * n2)))) (IntKind.u64.wrap (n2 * 128)) (IntKind.i64.wrap (n3 + 1)) h2 ∧ mu1 (IntKind.u64.wrap (n1 + (IntKind.u64.wrap ((IntKind.u64.wrap (Int.tmod n4 128)) * n2)))) (IntKind.u64.wrap (n2 * 128)) (IntKind.i64.wrap (n3 + 1)) h2 < mu1 n1 n2 n3 h1))) (
   CondP (decide ((n4 : Int) < 128)) (
   CondP (decide ((n3 : Int) > 0)) (
   CondP ((n4 : Int) == 0) (
   CallsH Tryz.prog 176 #[.pointer (some ⟨r_b, r_o, none⟩)] h2 (fun r5 h9 => ∃ n9 : Int, r5 = .int .u64 n9 ∧
   R (.int .u64 n9) h9)) (
   CondP (decide ((IntKind.u64.wrap (n1 + (IntKind.u64.wrap ((IntKind.u64.wrap (Int.tmod n4 128)) * n2))) : Int) > most_)) (
   CallsH Tryz.prog 176 #[.pointer (some ⟨r_b, r_o, none⟩)] h2 (fun r6 h10 => ∃ n10 : Int, r6 = .int .u64 n10 ∧
   R (.int .u64 n10) h10)) (
   ∃ x4 : Sl, cellH h2 r_b r_o = some (.slice x4.a x4.l x4.c) ∧
   ((0 : Int) ≤ IntKind.i64.wrap (n3 + 1) ∧ IntKind.i64.wrap (n3 + 1) ≤ ((x4.l : Nat) : Int)) ∧
   CanSt h2 r_b r_o [.slice (subA x4.a ((IntKind.i64.wrap (n3 + 1)).toNat) x4.c 1) (x4.l - ((IntKind.i64.wrap (n3 + 1)).toNat)) (x4.c - ((IntKind.i64.wrap (n3 + 1)).toNat))] ∧ ∀ h11, Stored h2 r_b r_o [.slice (subA x4.a ((IntKind.i64.wrap (n3 + 1)).toNat) x4.c 1) (x4.l - ((IntKind.i64.wrap (n3 + 1)).toNat)) (x4.c - ((IntKind.i64.wrap (n3 + 1)).toNat))] h11 →
   R (.int .u64 (IntKind.u64.wrap (n1 + (IntKind.u64.wrap ((IntKind.u64.wrap (Int.tmod n4 128)) * n2))))) h11))) (
   CondP (decide ((IntKind.u64.wrap (n1 + (IntKind.u64.wrap ((IntKind.u64.wrap (Int.tmod n4 128)) * n2))) : Int) > most_)) (
   CallsH Tryz.prog 176 #[.pointer (some ⟨r_b, r_o, none⟩)] h2 (fun r7 h12 => ∃ n11 : Int, r7 = .int .u64 n11 ∧
   R (.int .u64 n11) h12)) (
   ∃ x5 : Sl, cellH h2 r_b r_o = some (.slice x5.a x5.l x5.c) ∧
   ((0 : Int) ≤ IntKind.i64.wrap (n3 + 1) ∧ IntKind.i64.wrap (n3 + 1) ≤ ((x5.l : Nat) : Int)) ∧
   CanSt h2 r_b r_o [.slice (subA x5.a ((IntKind.i64.wrap (n3 + 1)).toNat) x5.c 1) (x5.l - ((IntKind.i64.wrap (n3 + 1)).toNat)) (x5.c - ((IntKind.i64.wrap (n3 + 1)).toNat))] ∧ ∀ h13, Stored h2 r_b r_o [.slice (subA x5.a ((IntKind.i64.wrap (n3 + 1)).toNat) x5.c 1) (x5.l - ((IntKind.i64.wrap (n3 + 1)).toNat)) (x5.c - ((IntKind.i64.wrap (n3 + 1)).toNat))] h13 →
   R (.int .u64 (IntKind.u64.wrap (n1 + (IntKind.u64.wrap ((IntKind.u64.wrap (Int.tmod n4 128)) * n2))))) h13))) (
   I1 (IntKind.u64.wrap (n1 + (IntKind.u64.wrap ((IntKind.u64.wrap (Int.tmod n4 128)) * n2)))) (IntKind.u64.wrap (n2 * 128)) (IntKind.i64.wrap (n3 + 1)) h2 ∧ mu1 (IntKind.u64.wrap (n1 + (IntKind.u64.wrap ((IntKind.u64.wrap (Int.tmod n4 128)) * n2)))) (IntKind.u64.wrap (n2 * 128)) (IntKind.i64.wrap (n3 + 1)) h2 < mu1 n1 n2 n3 h1)))) (
   CallsH Tryz.prog 176 #[.pointer (some ⟨r_b, r_o, none⟩)] h2 (fun r8 h14 => ∃ n12 : Int, r8 = .int .u64 n12 ∧
   R (.int .u64 n12) h14))) ∧
   ∃ x6 : Sl, cellH h1 r_b r_o = some (.slice x6.a x6.l x6.c) ∧
   CondP (decide ((n3 : Int) < ((x6.l : Nat) : Int))) (
   J1 (decide ((n3 : Int) < 10)) h1) (
   J1 false h1))) :
  CallsH Tryz.prog 154 #[.pointer (some ⟨r_b, r_o, none⟩), .int .u64 most_] h R :=
  calls_of_vc tabOk mixed Tryz.func154 (c := c154) (by kernel_rfl) (n := 76) rfl (rs := [.tmp 4]) (by kernel_rfl) ok154 (args := [.pointer (some ⟨r_b, r_o, none⟩), .int .u64 most_]) (Nat.le_of_ble_eq_true rfl) (Eq.mpr (by kernel_rfl) hv)
end Go.Sx.Tryz
namespace Go.Sx.Tryz
open Go Go.Sx Go.Proofs
set_option maxRecDepth 100000
set_option linter.unusedVariables false
noncomputable def c155 : Code := (Tryz.f155.body).getD .skip
def a155 : Ann := (.seq .leaf (.seq (.seq .leaf (.br (.seq .leaf (.seq .leaf .leaf)) .leaf)) (.seq .leaf (.seq (.seq .leaf (.br (.seq .leaf (.seq .leaf .leaf)) .leaf)) (.seq .leaf (.seq .leaf (.seq .leaf .leaf)))))))
theorem ok155 : okC tab 42 true c155 a155 = true := by kernel_rfl
theorem vc155 (r_b r_o : Nat) (most_ : Int) (h : Heap) (R : Value → Heap → Prop)
  (hv : CondP (decide ((most_ : Int) < 0)) (
   CallsH Tryz.prog 176 #[.pointer (some ⟨r_b, r_o, none⟩)] h (fun r1 h1 => ∃ n1 : Int, r1 = .int .u64 n1 ∧
   R (.string ⟨#[]⟩) h1)) (
   CallsH Tryz.prog 154 #[.pointer (some ⟨r_b, r_o, none⟩), .int .u64 (IntKind.u64.wrap most_)] h (fun r2 h2 => ∃ n2 : Int, r2 = .int .u64 n2 ∧
   ∃ x1 : Sl, cellH h2 r_b r_o = some (.slice x1.a x1.l x1.c) ∧
   CondP (decide ((IntKind.u64.wrap ((x1.l : Nat) : Int) : Int) < n2)) (
   CallsH Tryz.prog 176 #[.pointer (some ⟨r_b, r_o, none⟩)] h2 (fun r3 h3 => ∃ n3 : Int, r3 = .int .u64 n3 ∧
   R (.string ⟨#[]⟩) h3)) (
   ∃ x2 : Sl, cellH h2 r_b r_o = some (.slice x2.a x2.l x2.c) ∧
   ((0 : Int) ≤ (0 : Int) ∧ (0 : Int) ≤ n2 ∧ n2 ≤ ((x2.c : Nat) : Int)) ∧
   ∃ s1 : ByteArray, StrOf h2 (subA x2.a 0 x2.c 1) n2.toNat s1 ∧
   ∃ x3 : Sl, cellH h2 r_b r_o = some (.slice x3.a x3.l x3.c) ∧
   ((0 : Int) ≤ n2 ∧ n2 ≤ ((x3.l : Nat) : Int)) ∧
   CanSt h2 r_b r_o [.slice (subA x3.a n2.toNat x3.c 1) (x3.l - n2.toNat) (x3.c - n2.toNat)] ∧ ∀ h4, Stored h2 r_b r_o [.slice (subA x3.a n2.toNat x3.c 1) (x3.l - n2.toNat) (x3.c - n2.toNat)] h4 →
   R (.string s1) h4)))) :
  CallsH Tryz.prog 155 #[.pointer (some ⟨r_b, r_o, none⟩), .int .i64 most_] h R :=
  calls_of_vc tabOk mixed Tryz.func155 (c := c155) (by kernel_rfl) (n := 42) rfl (rs := [.tmp 4]) (by kernel_rfl) ok155 (args := [.pointer (some ⟨r_b, r_o, none⟩), .int .i64 most_]) (Nat.le_of_ble_eq_true rfl) (Eq.mpr (by kernel_rfl) hv)
end Go.Sx.Tryz
namespace Go.Sx.Tryz
open Go Go.Sx Go.Proofs
set_option maxRecDepth 100000
set_option linter.unusedVariables false
noncomputable def c156 : Code := (Tryz.f156.body).getD .skip
def a156 : Ann := (.seq .leaf (.seq (.seq .leaf (.br (.seq .leaf .leaf) .leaf)) (.seq .leaf .leaf)))
theorem ok156 : okC tab 15 true c156 a156 = true := by kernel_rfl
theorem vc156 (r_b r_o : Nat) (h : Heap) (R : Value → Heap → Prop)
  (hv : ∃ t1 : Bool, cellH h r_b (r_o + 1) = some (.bool t1) ∧
   CondP t1 (
   R (.int .i64 20) h) (
   ∃ x1 : Sl, cellH h r_b r_o = some (.slice x1.a x1.l x1.c) ∧
   CondP (decide ((((x1.l : Nat) : Int) : Int) > 0)) (
   R (.int .i64 20) h) (
   R (.int .i64 0) h))) :
  CallsH Tryz.prog 156 #[.pointer (some ⟨r_b, r_o, none⟩)] h R :=
  calls_of_vc tabOk mixed Tryz.func156 (c := c156) (by kernel_rfl) (n := 15) rfl (rs := [.tmp 2]) (by kernel_rfl) ok156 (args := [.pointer (some ⟨r_b, r_o, none⟩)]) (Nat.le_of_ble_eq_true rfl) (Eq.mpr (by kernel_rfl) hv)
end Go.Sx.Tryz
namespace Go.Sx.Tryz
open Go Go.Sx Go.Proofs
set_option maxRecDepth 100000
set_option linter.unusedVariables false
noncomputable def c175 : Code := (Tryz.f175.body).getD .skip
def a175 : Ann := (.seq .leaf (.seq .leaf .leaf))
theorem ok175 : okC tab 6 true c175 a175 = true := by kernel_rfl
theorem vc175 (r_b r_o : Nat) (h : Heap) (R : Value → Heap → Prop)
  (hv : CallsH Tryz.prog 154 #[.pointer (some ⟨r_b, r_o, none⟩), .int .u64 1] h (fun r1 h1 => ∃ n1 : Int, r1 = .int .u64 n1 ∧
   R (.bool ((n1 : Int) == 1)) h1)) :
  CallsH Tryz.prog 175 #[.pointer (some ⟨r_b, r_o, none⟩)] h R :=
  calls_of_vc tabOk mixed Tryz.func175 (c := c175) (by kernel_rfl) (n := 6) rfl (rs := [.tmp 2]) (by kernel_rfl) ok175 (args := [.pointer (some ⟨r_b, r_o, none⟩)]) (Nat.le_of_ble_eq_true rfl) (Eq.mpr (by kernel_rfl) hv)
end Go.Sx.Tryz
