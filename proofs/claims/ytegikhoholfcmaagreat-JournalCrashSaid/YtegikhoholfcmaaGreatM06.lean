/-
  Part 6 of the proof: V93, V171, V142, V143, V121, V160, V161, V102, V148, V101, V146, V147, V99, V144, V37, V84, V14, V15, K08, K09, K10, V98, V92, V77, V91, V85, V86, V125, V163, V126, V87, V49, V50, V53, K18, K19, V42.
-/
import Derived.Test.YtegikhoholfcmaaGreatM05
namespace Go.Sx.Tryz
open Go Go.Sx Go.Proofs
set_option maxRecDepth 100000
set_option linter.unusedVariables false
noncomputable def c93 : Code := (Tryz.f93.body).getD .skip
def a93 : Ann := (.seq .leaf (.seq (.seq .leaf (.br (.seq .leaf .leaf) .leaf)) (.seq .leaf .leaf)))
theorem ok93 : okC tab 20 true c93 a93 = true := by kernel_rfl
theorem vc93 (d_b d_o : Nat) (n_ : Int) (h : Heap) (R : Value → Heap → Prop)
  (hv : CondP (decide ((n_ : Int) < 0)) (
   R (.pointer none) h) (
   CondP (decide ((n_ : Int) ≥ 32)) (
   R (.pointer none) h) (
   ((0 : Int) ≤ n_ ∧ (n_ : Int) < (32 : Int)) ∧
   Nat.ble 2 32 = true ∧ R (.pointer (some ⟨d_b, d_o + n_.toNat * 2, none⟩)) h))) :
  CallsH Tryz.prog 93 #[.pointer (some ⟨d_b, d_o, none⟩), .int .i64 n_] h R :=
  calls_of_vc tabOk mixed Tryz.func93 (c := c93) (by kernel_rfl) (n := 20) rfl (rs := [.tmp 4]) (by kernel_rfl) ok93 (args := [.pointer (some ⟨d_b, d_o, none⟩), .int .i64 n_]) (Nat.le_of_ble_eq_true rfl) (Eq.mpr (by kernel_rfl) hv)
end Go.Sx.Tryz
namespace Go.Sx.Tryz
open Go Go.Sx Go.Proofs
set_option maxRecDepth 100000
set_option linter.unusedVariables false
noncomputable def c171 : Code := (Tryz.f171.body).getD .skip
def a171 : Ann := (.seq .leaf (.seq .leaf (.seq (.seq .leaf (.br (.seq .leaf .leaf) .leaf)) (.seq .leaf (.seq .leaf (.seq .leaf .leaf))))))
theorem ok171 : okC tab 36 true c171 a171 = true := by kernel_rfl
theorem vc171 (d_b d_o : Nat) (h : Heap) (R : Value → Heap → Prop)
  (hv : ∃ n1 : Int, cellH h d_b (d_o + 67) = some (.int .i64 n1) ∧
   CanSt h d_b (d_o + 67) [.int .i64 (IntKind.i64.wrap (n1 + 1))] ∧ ∀ h1, Stored h d_b (d_o + 67) [.int .i64 (IntKind.i64.wrap (n1 + 1))] h1 →
   ∃ t1 : Bool, cellH h1 d_b (d_o + 64) = some (.bool t1) ∧
   CondP (!t1) (
   R (.bool false) h1) (
   ∃ n2 : Int, cellH h1 d_b (d_o + 65) = some (.int .i64 n2) ∧
   CanSt h1 d_b (d_o + 66) [.bool ((n2 : Int) == 0)] ∧ ∀ h2, Stored h1 d_b (d_o + 66) [.bool ((n2 : Int) == 0)] h2 →
   ∃ n3 : Int, cellH h2 d_b (d_o + 65) = some (.int .i64 n3) ∧
   CanSt h2 d_b (d_o + 65) [.int .i64 (if 0 > (IntKind.i64.wrap (n3 - 1)) then 0 else (IntKind.i64.wrap (n3 - 1)))] ∧ ∀ h3, Stored h2 d_b (d_o + 65) [.int .i64 (if 0 > (IntKind.i64.wrap (n3 - 1)) then 0 else (IntKind.i64.wrap (n3 - 1)))] h3 →
   ∃ t2 : Bool, cellH h3 d_b (d_o + 66) = some (.bool t2) ∧
   R (.bool t2) h3)) :
  CallsH Tryz.prog 171 #[.pointer (some ⟨d_b, d_o, none⟩)] h R :=
  calls_of_vc tabOk mixed Tryz.func171 (c := c171) (by kernel_rfl) (n := 36) rfl (rs := [.tmp 2]) (by kernel_rfl) ok171 (args := [.pointer (some ⟨d_b, d_o, none⟩)]) (Nat.le_of_ble_eq_true rfl) (Eq.mpr (by kernel_rfl) hv)
end Go.Sx.Tryz
namespace Go.Sx.Tryz
open Go Go.Sx Go.Proofs
set_option maxRecDepth 100000
set_option linter.unusedVariables false
noncomputable def c142 : Code := (Tryz.f142.body).getD .skip
def a142 : Ann := (.seq .leaf (.seq .leaf (.seq (.inn (.seq .leaf (.br (.seq .leaf .leaf) (.seq .leaf (.br (.seq .leaf .leaf) (.seq .leaf (.br (.seq .leaf .leaf) .leaf))))))) (.seq (.seq .leaf (.seq .leaf (.br (.seq .leaf .leaf) .leaf))) (.seq .leaf (.seq (.seq .leaf (.br (.seq .leaf .leaf) .leaf)) (.seq .leaf (.seq .leaf .leaf))))))))
theorem ok142 : okC tab 39 true c142 a142 = true := by kernel_rfl
theorem vc142 (d_b d_o : Nat) (n_ : Int) (may_ : Value) (do_ : Value) (h : Heap) (R : Value → Heap → Prop)
  (hv : CallsH Tryz.prog 93 #[.pointer (some ⟨d_b, d_o, none⟩), .int .i64 n_] h (fun r1 h1 => ∃ p1 : Option Addr, r1 = .pointer p1 ∧
   ∃ t1 : Bool, cellH h1 d_b (d_o + 66) = some (.bool t1) ∧
   CondP t1 (
   R (.int .i64 70) h1) (
   CondP p1.isNone (
   R (.int .i64 2) h1) (
   CallV Tryz.prog may_ [.pointer p1] h1 (fun r2 h2 => ∃ n1 : Int, r2 = .int .i64 n1 ∧
   CondP ((n1 : Int) != 0) (
   R (.int .i64 n1) h2) (
   CallV Tryz.prog (.func (.func 171) #[.pointer (some ⟨d_b, d_o, none⟩)] #[]) [] h2 (fun r3 h3 => ∃ t2 : Bool, r3 = .bool t2 ∧
   CondP t2 (
   R (.int .i64 70) h3) (
   CallV Tryz.prog do_ [.pointer p1] h3 (fun r4 h4 => r4 = .tuple #[] ∧
   R (.int .i64 0) h4))))))))) :
  CallsH Tryz.prog 142 #[.pointer (some ⟨d_b, d_o, none⟩), .int .i64 n_, may_, do_] h R :=
  calls_of_vc tabOk mixed Tryz.func142 (c := c142) (by kernel_rfl) (n := 39) rfl (rs := [.tmp 8]) (by kernel_rfl) ok142 (args := [.pointer (some ⟨d_b, d_o, none⟩), .int .i64 n_, may_, do_]) (Nat.le_of_ble_eq_true rfl) (Eq.mpr (by kernel_rfl) hv)
end Go.Sx.Tryz
namespace Go.Sx.Tryz
open Go Go.Sx Go.Proofs
set_option maxRecDepth 100000
set_option linter.unusedVariables false
noncomputable def c143 : Code := (Tryz.f143.body).getD .skip
def a143 : Ann := (.seq .leaf (.seq .leaf .leaf))
theorem ok143 : okC tab 3 true c143 a143 = true := by kernel_rfl
theorem vc143 (a_b a_o : Nat) (h : Heap) (R : Value → Heap → Prop)
  (hv : R (.int .i64 0) h) :
  CallsH Tryz.prog 143 #[.pointer (some ⟨a_b, a_o, none⟩)] h R :=
  calls_of_vc tabOk mixed Tryz.func143 (c := c143) (by kernel_rfl) (n := 3) rfl (rs := [.tmp 2]) (by kernel_rfl) ok143 (args := [.pointer (some ⟨a_b, a_o, none⟩)]) (Nat.le_of_ble_eq_true rfl) (Eq.mpr (by kernel_rfl) hv)
end Go.Sx.Tryz
namespace Go.Sx.Tryz
open Go Go.Sx Go.Proofs
set_option maxRecDepth 100000
set_option linter.unusedVariables false
noncomputable def c121 : Code := (Tryz.f121.body).getD .skip
def a121 : Ann := (.seq .leaf (.seq .leaf (.seq .leaf (.seq .leaf .leaf))))
theorem ok121 : okC tab 16 true c121 a121 = true := by kernel_rfl
theorem vc121 (d_b d_o : Nat) (n_ : Int) (b_ : Sl) (h : Heap) (R : Value → Heap → Prop)
  (hv : ∀ b1 h1, Fresh h (.cells #[.pointer (some ⟨d_b, d_o, none⟩)] 26) b1 h1 →
   ∀ b2 h2, Fresh h1 (.cells #[.slice b_.a b_.l b_.c] 33) b2 h2 →
   ∀ b3 h3, Fresh h2 (.cells #[.nilFunc] 208) b3 h3 →
   CanSt h3 b3 0 [.func (.func 160) #[] #[.pointer (some ⟨b2, 0, none⟩)]] ∧ ∀ h4, Stored h3 b3 0 [.func (.func 160) #[] #[.pointer (some ⟨b2, 0, none⟩)]] h4 →
   ∃ p1 : Option Addr, cellH h4 b1 0 = some (.pointer p1) ∧
   ∃ v1 : Value, cellH h4 b3 0 = some (v1) ∧
   CallsH Tryz.prog 142 #[.pointer p1, .int .i64 n_, .func (.func 161) #[] #[.pointer (some ⟨b2, 0, none⟩), .pointer (some ⟨b1, 0, none⟩), .pointer (some ⟨b3, 0, none⟩)], v1] h4 (fun r1 h5 => ∃ n1 : Int, r1 = .int .i64 n1 ∧
   R (.int .i64 n1) h5)) :
  CallsH Tryz.prog 121 #[.pointer (some ⟨d_b, d_o, none⟩), .int .i64 n_, .slice b_.a b_.l b_.c] h R :=
  calls_of_vc tabOk mixed Tryz.func121 (c := c121) (by kernel_rfl) (n := 16) rfl (rs := [.tmp 6]) (by kernel_rfl) ok121 (args := [.pointer (some ⟨d_b, d_o, none⟩), .int .i64 n_, .slice b_.a b_.l b_.c]) (Nat.le_of_ble_eq_true rfl) (Eq.mpr (by kernel_rfl) hv)
end Go.Sx.Tryz
namespace Go.Sx.Tryz
open Go Go.Sx Go.Proofs
set_option maxRecDepth 100000
set_option linter.unusedVariables false
noncomputable def c160 : Code := (Tryz.f160.body).getD .skip
def a160 : Ann := (.reg (.q 0 (.q 1 (.q 2 (.q 3 (.q 4 (.q 5 (.m 6 (.q 7 (.q 8 (.m 9 (.fin) (.nil)))) (.nil)))))))))
theorem ok160 : okC tab 12 true c160 a160 = true := by kernel_rfl
theorem vc160 (f_b f_o : Nat) (c0_b c0_o : Nat) (h : Heap) (R : Value → Heap → Prop)
  (hv : ∃ x1 : Sl, cellH h f_b f_o = some (.slice x1.a x1.l x1.c) ∧
   ∃ x2 : Sl, cellH h c0_b c0_o = some (.slice x2.a x2.l x2.c) ∧
   RunK Tryz.prog (.sl) (Builtin.append_ #[33, 33] 33 #[.slice x1.a x1.l x1.c, .slice x2.a x2.l x2.c]) h (fun x3 h1 =>
   CanSt h1 f_b f_o [.slice x3.a x3.l x3.c] ∧ ∀ h2, Stored h1 f_b f_o [.slice x3.a x3.l x3.c] h2 →
   R (.tuple #[]) h2)) :
  CallsH Tryz.prog 160 #[.pointer (some ⟨f_b, f_o, none⟩), .pointer (some ⟨c0_b, c0_o, none⟩)] h R :=
  calls_of_vc tabOk mixed Tryz.func160 (c := c160) (by kernel_rfl) (n := 12) rfl (rs := []) (by kernel_rfl) ok160 (args := [.pointer (some ⟨f_b, f_o, none⟩), .pointer (some ⟨c0_b, c0_o, none⟩)]) (Nat.le_of_ble_eq_true rfl) (Eq.mpr (by kernel_rfl) hv)
end Go.Sx.Tryz
namespace Go.Sx.Tryz
open Go Go.Sx Go.Proofs
set_option maxRecDepth 100000
set_option linter.unusedVariables false
noncomputable def c161 : Code := (Tryz.f161.body).getD .skip
def a161 : Ann := (.seq .leaf (.seq (.seq (.reg (.q 0 (.q 1 (.q 2 (.q 3 (.q 4 (.q 5 (.q 6 (.q 7 (.q 8 (.fin))))))))))) (.br (.seq .leaf .leaf) .leaf)) (.seq (.seq .leaf (.br .leaf .leaf)) (.seq .leaf .leaf))))
theorem ok161 : okC tab 29 true c161 a161 = true := by kernel_rfl
theorem vc161 (f_b f_o : Nat) (c0_b c0_o : Nat) (c1_b c1_o : Nat) (c2_b c2_o : Nat) (h : Heap) (R : Value → Heap → Prop)
  (hv : ∃ x1 : Sl, cellH h f_b f_o = some (.slice x1.a x1.l x1.c) ∧
   ∃ x2 : Sl, cellH h c0_b c0_o = some (.slice x2.a x2.l x2.c) ∧
   CondP (decide ((IntKind.i64.wrap (((x1.l : Nat) : Int) + ((x2.l : Nat) : Int)) : Int) > 1048576)) (
   R (.int .i64 21) h) (
   ∃ p1 : Option Addr, cellH h c1_b c1_o = some (.pointer p1) ∧
   NilP p1 (fun b1 o1 =>
   ∃ t1 : Bool, cellH h b1 (o1 + 64) = some (.bool t1) ∧
   CondP t1 (
   ∃ p2 : Option Addr, cellH h c1_b c1_o = some (.pointer p2) ∧
   NilP p2 (fun b2 o2 =>
   ∃ n1 : Int, cellH h b2 (o2 + 65) = some (.int .i64 n1) ∧
   CondP ((n1 : Int) == 0) (
   ∃ v1 : Value, cellH h c2_b c2_o = some (v1) ∧
   CallV Tryz.prog v1 [.pointer (some ⟨f_b, f_o, none⟩)] h (fun r1 h1 => r1 = .tuple #[] ∧
   R (.int .i64 0) h1)) (
   R (.int .i64 0) h))) (
   R (.int .i64 0) h)))) :
  CallsH Tryz.prog 161 #[.pointer (some ⟨f_b, f_o, none⟩), .pointer (some ⟨c0_b, c0_o, none⟩), .pointer (some ⟨c1_b, c1_o, none⟩), .pointer (some ⟨c2_b, c2_o, none⟩)] h R :=
  calls_of_vc tabOk mixed Tryz.func161 (c := c161) (by kernel_rfl) (n := 29) rfl (rs := [.tmp 5]) (by kernel_rfl) ok161 (args := [.pointer (some ⟨f_b, f_o, none⟩), .pointer (some ⟨c0_b, c0_o, none⟩), .pointer (some ⟨c1_b, c1_o, none⟩), .pointer (some ⟨c2_b, c2_o, none⟩)]) (Nat.le_of_ble_eq_true rfl) (Eq.mpr (by kernel_rfl) hv)
end Go.Sx.Tryz
namespace Go.Sx.Tryz
open Go Go.Sx Go.Proofs
set_option maxRecDepth 100000
set_option linter.unusedVariables false
noncomputable def c102 : Code := (Tryz.f102.body).getD .skip
def a102 : Ann := (.seq .leaf (.seq .leaf .leaf))
theorem ok102 : okC tab 8 true c102 a102 = true := by kernel_rfl
theorem vc102 (d_b d_o : Nat) (n_ : Int) (h : Heap) (R : Value → Heap → Prop)
  (hv : CallsH Tryz.prog 142 #[.pointer (some ⟨d_b, d_o, none⟩), .int .i64 n_, .func (.func 143) #[] #[], .func (.func 148) #[] #[]] h (fun r1 h1 => ∃ n1 : Int, r1 = .int .i64 n1 ∧
   R (.int .i64 n1) h1)) :
  CallsH Tryz.prog 102 #[.pointer (some ⟨d_b, d_o, none⟩), .int .i64 n_] h R :=
  calls_of_vc tabOk mixed Tryz.func102 (c := c102) (by kernel_rfl) (n := 8) rfl (rs := [.tmp 4]) (by kernel_rfl) ok102 (args := [.pointer (some ⟨d_b, d_o, none⟩), .int .i64 n_]) (Nat.le_of_ble_eq_true rfl) (Eq.mpr (by kernel_rfl) hv)
end Go.Sx.Tryz
namespace Go.Sx.Tryz
open Go Go.Sx Go.Proofs
set_option maxRecDepth 100000
set_option linter.unusedVariables false
noncomputable def c148 : Code := (Tryz.f148.body).getD .skip
def a148 : Ann := .leaf
theorem ok148 : okC tab 10 true c148 a148 = true := by kernel_rfl
theorem vc148 (f_b f_o : Nat) (h : Heap) (R : Value → Heap → Prop)
  (hv : ∃ x1 : Sl, cellH h f_b f_o = some (.slice x1.a x1.l x1.c) ∧
   CanSt h f_b (f_o + 1) [.int .i64 ((x1.l : Nat) : Int)] ∧ ∀ h1, Stored h f_b (f_o + 1) [.int .i64 ((x1.l : Nat) : Int)] h1 →
   R (.tuple #[]) h1) :
  CallsH Tryz.prog 148 #[.pointer (some ⟨f_b, f_o, none⟩)] h R :=
  calls_of_vc tabOk mixed Tryz.func148 (c := c148) (by kernel_rfl) (n := 10) rfl (rs := []) (by kernel_rfl) ok148 (args := [.pointer (some ⟨f_b, f_o, none⟩)]) (Nat.le_of_ble_eq_true rfl) (Eq.mpr (by kernel_rfl) hv)
end Go.Sx.Tryz
namespace Go.Sx.Tryz
open Go Go.Sx Go.Proofs
set_option maxRecDepth 100000
set_option linter.unusedVariables false
noncomputable def c101 : Code := (Tryz.f101.body).getD .skip
def a101 : Ann := (.seq .leaf (.seq .leaf .leaf))
theorem ok101 : okC tab 12 true c101 a101 = true := by kernel_rfl
theorem vc101 (d_b d_o : Nat) (n_ : Int) (size_ : Int) (h : Heap) (R : Value → Heap → Prop)
  (hv : ∀ b1 h1, Fresh h (.cells #[.int .i64 size_] 3) b1 h1 →
   CallsH Tryz.prog 142 #[.pointer (some ⟨d_b, d_o, none⟩), .int .i64 n_, .func (.func 146) #[] #[.pointer (some ⟨b1, 0, none⟩)], .func (.func 147) #[] #[.pointer (some ⟨b1, 0, none⟩)]] h1 (fun r1 h2 => ∃ n1 : Int, r1 = .int .i64 n1 ∧
   R (.int .i64 n1) h2)) :
  CallsH Tryz.prog 101 #[.pointer (some ⟨d_b, d_o, none⟩), .int .i64 n_, .int .i64 size_] h R :=
  calls_of_vc tabOk mixed Tryz.func101 (c := c101) (by kernel_rfl) (n := 12) rfl (rs := [.tmp 6]) (by kernel_rfl) ok101 (args := [.pointer (some ⟨d_b, d_o, none⟩), .int .i64 n_, .int .i64 size_]) (Nat.le_of_ble_eq_true rfl) (Eq.mpr (by kernel_rfl) hv)
end Go.Sx.Tryz
namespace Go.Sx.Tryz
open Go Go.Sx Go.Proofs
set_option maxRecDepth 100000
set_option linter.unusedVariables false
noncomputable def c146 : Code := (Tryz.f146.body).getD .skip
def a146 : Ann := (.seq .leaf (.seq (.seq (.reg (.q 0 (.q 1 (.q 2 (.q 3 (.q 4 (.q 5 (.q 6 (.q 7 (.q 8 (.q 9 (.q 10 (.fin))))))))))))) (.br (.seq .leaf .leaf) .leaf)) (.seq .leaf .leaf)))
theorem ok146 : okC tab 15 true c146 a146 = true := by kernel_rfl
theorem vc146 (f_b f_o : Nat) (c0_b c0_o : Nat) (h : Heap) (R : Value → Heap → Prop)
  (hv : ∃ n1 : Int, cellH h c0_b c0_o = some (.int .i64 n1) ∧
   CondP (decide ((n1 : Int) < 0)) (
   R (.int .i64 2) h) (
   ∃ n2 : Int, cellH h c0_b c0_o = some (.int .i64 n2) ∧
   ∃ x1 : Sl, cellH h f_b f_o = some (.slice x1.a x1.l x1.c) ∧
   CondP (decide ((n2 : Int) > ((x1.l : Nat) : Int))) (
   R (.int .i64 2) h) (
   R (.int .i64 0) h))) :
  CallsH Tryz.prog 146 #[.pointer (some ⟨f_b, f_o, none⟩), .pointer (some ⟨c0_b, c0_o, none⟩)] h R :=
  calls_of_vc tabOk mixed Tryz.func146 (c := c146) (by kernel_rfl) (n := 15) rfl (rs := [.tmp 3]) (by kernel_rfl) ok146 (args := [.pointer (some ⟨f_b, f_o, none⟩), .pointer (some ⟨c0_b, c0_o, none⟩)]) (Nat.le_of_ble_eq_true rfl) (Eq.mpr (by kernel_rfl) hv)
end Go.Sx.Tryz
namespace Go.Sx.Tryz
open Go Go.Sx Go.Proofs
set_option maxRecDepth 100000
set_option linter.unusedVariables false
noncomputable def c147 : Code := (Tryz.f147.body).getD .skip
def a147 : Ann := (.reg (.q 0 (.q 1 (.q 2 (.q 3 (.q 4 (.q 5 (.q 6 (.q 7 (.q 8 (.q 9 (.q 10 (.q 11 (.q 12 (.q 13 (.q 14 (.q 15 (.q 16 (.m 17 (.q 18 (.q 19 (.m 20 (.fin) (.nil)))) (.nil))))))))))))))))))))
theorem ok147 : okC tab 22 true c147 a147 = true := by kernel_rfl
theorem vc147 (f_b f_o : Nat) (c0_b c0_o : Nat) (h : Heap) (R : Value → Heap → Prop)
  (hv : ∃ x1 : Sl, cellH h f_b f_o = some (.slice x1.a x1.l x1.c) ∧
   ∃ n1 : Int, cellH h c0_b c0_o = some (.int .i64 n1) ∧
   ∃ n2 : Int, cellH h c0_b c0_o = some (.int .i64 n2) ∧
   ((0 : Int) ≤ (0 : Int) ∧ (0 : Int) ≤ n1 ∧ n1 ≤ n2 ∧ n2 ≤ ((x1.c : Nat) : Int)) ∧
   ∃ n3 : Int, cellH h f_b (f_o + 1) = some (.int .i64 n3) ∧
   ∃ n4 : Int, cellH h c0_b c0_o = some (.int .i64 n4) ∧
   CanSt h f_b f_o [.slice (subA x1.a 0 n2.toNat 1) n1.toNat n2.toNat] ∧ ∀ h1, Stored h f_b f_o [.slice (subA x1.a 0 n2.toNat 1) n1.toNat n2.toNat] h1 →
   cellH h1 c0_b c0_o = some (.int .i64 n4) ∧
   CanSt h1 f_b (f_o + 1) [.int .i64 (if n4 < n3 then n4 else n3)] ∧ ∀ h2, Stored h1 f_b (f_o + 1) [.int .i64 (if n4 < n3 then n4 else n3)] h2 →
   R (.tuple #[]) h2) :
  CallsH Tryz.prog 147 #[.pointer (some ⟨f_b, f_o, none⟩), .pointer (some ⟨c0_b, c0_o, none⟩)] h R :=
  calls_of_vc tabOk mixed Tryz.func147 (c := c147) (by kernel_rfl) (n := 22) rfl (rs := []) (by kernel_rfl) ok147 (args := [.pointer (some ⟨f_b, f_o, none⟩), .pointer (some ⟨c0_b, c0_o, none⟩)]) (Nat.le_of_ble_eq_true rfl) (Eq.mpr (by kernel_rfl) hv)
end Go.Sx.Tryz
namespace Go.Sx.Tryz
open Go Go.Sx Go.Proofs
set_option maxRecDepth 100000
set_option linter.unusedVariables false
noncomputable def c99 : Code := (Tryz.f99.body).getD .skip
def a99 : Ann := (.seq .leaf (.seq .leaf .leaf))
theorem ok99 : okC tab 8 true c99 a99 = true := by kernel_rfl
theorem vc99 (d_b d_o : Nat) (n_ : Int) (h : Heap) (R : Value → Heap → Prop)
  (hv : CallsH Tryz.prog 142 #[.pointer (some ⟨d_b, d_o, none⟩), .int .i64 n_, .func (.func 143) #[] #[], .func (.func 144) #[] #[]] h (fun r1 h1 => ∃ n1 : Int, r1 = .int .i64 n1 ∧
   R (.int .i64 n1) h1)) :
  CallsH Tryz.prog 99 #[.pointer (some ⟨d_b, d_o, none⟩), .int .i64 n_] h R :=
  calls_of_vc tabOk mixed Tryz.func99 (c := c99) (by kernel_rfl) (n := 8) rfl (rs := [.tmp 4]) (by kernel_rfl) ok99 (args := [.pointer (some ⟨d_b, d_o, none⟩), .int .i64 n_]) (Nat.le_of_ble_eq_true rfl) (Eq.mpr (by kernel_rfl) hv)
end Go.Sx.Tryz
namespace Go.Sx.Tryz
open Go Go.Sx Go.Proofs
set_option maxRecDepth 100000
set_option linter.unusedVariables false
noncomputable def c144 : Code := (Tryz.f144.body).getD .skip
def a144 : Ann := .leaf
theorem ok144 : okC tab 5 true c144 a144 = true := by kernel_rfl
theorem vc144 (f_b f_o : Nat) (h : Heap) (R : Value → Heap → Prop)
  (hv : CanSt h f_b f_o [.slice none 0 0, .int .i64 0] ∧ ∀ h1, Stored h f_b f_o [.slice none 0 0, .int .i64 0] h1 →
   R (.tuple #[]) h1) :
  CallsH Tryz.prog 144 #[.pointer (some ⟨f_b, f_o, none⟩)] h R :=
  calls_of_vc tabOk mixed Tryz.func144 (c := c144) (by kernel_rfl) (n := 5) rfl (rs := []) (by kernel_rfl) ok144 (args := [.pointer (some ⟨f_b, f_o, none⟩)]) (Nat.le_of_ble_eq_true rfl) (Eq.mpr (by kernel_rfl) hv)
end Go.Sx.Tryz
namespace Go.Sx.Tryz
open Go Go.Sx Go.Proofs
set_option maxRecDepth 100000
set_option linter.unusedVariables false
noncomputable def c37 : Code := (Tryz.f37.body).getD .skip
def a37 : Ann := (.seq .leaf (.seq .leaf (.seq (.seq .leaf (.br (.seq .leaf .leaf) .leaf)) (.seq .leaf .leaf))))
theorem ok37 : okC tab 16 true c37 a37 = true := by kernel_rfl
theorem vc37 (d_b d_o : Nat) (n_ : Int) (h : Heap) (R : Value → Heap → Prop)
  (hv : CallsH Tryz.prog 93 #[.pointer (some ⟨d_b, d_o, none⟩), .int .i64 n_] h (fun r1 h1 => ∃ p1 : Option Addr, r1 = .pointer p1 ∧
   CondP p1.isNone (
   R (.slice none 0 0) h1) (
   NilP p1 (fun b1 o1 =>
   ∃ x1 : Sl, cellH h1 b1 o1 = some (.slice x1.a x1.l x1.c) ∧
   CallsH Tryz.prog 71 #[.slice x1.a x1.l x1.c] h1 (fun r2 h2 => ∃ x2 : Sl, r2 = .slice x2.a x2.l x2.c ∧
   R (.slice x2.a x2.l x2.c) h2))))) :
  CallsH Tryz.prog 37 #[.pointer (some ⟨d_b, d_o, none⟩), .int .i64 n_] h R :=
  calls_of_vc tabOk mixed Tryz.func37 (c := c37) (by kernel_rfl) (n := 16) rfl (rs := [.tmp 4]) (by kernel_rfl) ok37 (args := [.pointer (some ⟨d_b, d_o, none⟩), .int .i64 n_]) (Nat.le_of_ble_eq_true rfl) (Eq.mpr (by kernel_rfl) hv)
end Go.Sx.Tryz
namespace Go.Sx.Tryz
open Go Go.Sx Go.Proofs
set_option maxRecDepth 100000
set_option linter.unusedVariables false
noncomputable def c84 : Code := (Tryz.f84.body).getD .skip
def a84 : Ann := (.seq .leaf (.seq (.seq .leaf (.seq .leaf (.br (.seq .leaf .leaf) .leaf))) (.seq .leaf .leaf)))
theorem ok84 : okC tab 16 true c84 a84 = true := by kernel_rfl
theorem vc84 (d_b d_o : Nat) (n_ : Int) (h : Heap) (R : Value → Heap → Prop)
  (hv : CallsH Tryz.prog 93 #[.pointer (some ⟨d_b, d_o, none⟩), .int .i64 n_] h (fun r1 h1 => ∃ p1 : Option Addr, r1 = .pointer p1 ∧
   CondP (!p1.isNone) (
   NilP p1 (fun b1 o1 =>
   ∃ x1 : Sl, cellH h1 b1 o1 = some (.slice x1.a x1.l x1.c) ∧
   R (.int .i64 ((x1.l : Nat) : Int)) h1)) (
   R (.int .i64 0) h1))) :
  CallsH Tryz.prog 84 #[.pointer (some ⟨d_b, d_o, none⟩), .int .i64 n_] h R :=
  calls_of_vc tabOk mixed Tryz.func84 (c := c84) (by kernel_rfl) (n := 16) rfl (rs := [.tmp 4]) (by kernel_rfl) ok84 (args := [.pointer (some ⟨d_b, d_o, none⟩), .int .i64 n_]) (Nat.le_of_ble_eq_true rfl) (Eq.mpr (by kernel_rfl) hv)
end Go.Sx.Tryz
namespace Go.Sx.Tryz
open Go Go.Sx Go.Proofs
set_option maxRecDepth 100000
set_option linter.unusedVariables false
noncomputable def c14 : Code := (Tryz.f14.body).getD .skip
def a14 : Ann := (.seq .leaf (.br .leaf .leaf))
theorem ok14 : okC tab 16 true c14 a14 = true := by kernel_rfl
theorem vc14 (d_b d_o : Nat) (fuse_ : Int) (h : Heap) (R : Value → Heap → Prop)
  (hv : CanSt h d_b (d_o + 64) [.bool (decide ((fuse_ : Int) ≥ 0))] ∧ ∀ h1, Stored h d_b (d_o + 64) [.bool (decide ((fuse_ : Int) ≥ 0))] h1 →
   CanSt h1 d_b (d_o + 65) [.int .i64 (if 0 > fuse_ then 0 else fuse_)] ∧ ∀ h2, Stored h1 d_b (d_o + 65) [.int .i64 (if 0 > fuse_ then 0 else fuse_)] h2 →
   R (.tuple #[]) h2) :
  CallsH Tryz.prog 14 #[.pointer (some ⟨d_b, d_o, none⟩), .int .i64 fuse_] h R :=
  calls_of_vc tabOk mixed Tryz.func14 (c := c14) (by kernel_rfl) (n := 16) rfl (rs := []) (by kernel_rfl) ok14 (args := [.pointer (some ⟨d_b, d_o, none⟩), .int .i64 fuse_]) (Nat.le_of_ble_eq_true rfl) (Eq.mpr (by kernel_rfl) hv)
end Go.Sx.Tryz
namespace Go.Sx.Tryz
open Go Go.Sx Go.Proofs
set_option maxRecDepth 100000
set_option linter.unusedVariables false
noncomputable def c15 : Code := (Tryz.f15.body).getD .skip
def a15 : Ann := (.seq .leaf (.seq .leaf .leaf))
theorem ok15 : okC tab 11 true c15 a15 = true := by kernel_rfl
theorem vc15 (d_b d_o : Nat) (h : Heap) (R : Value → Heap → Prop)
  (hv : ∃ t1 : Bool, cellH h d_b (d_o + 66) = some (.bool t1) ∧
   R (.bool t1) h) :
  CallsH Tryz.prog 15 #[.pointer (some ⟨d_b, d_o, none⟩)] h R :=
  calls_of_vc tabOk mixed Tryz.func15 (c := c15) (by kernel_rfl) (n := 11) rfl (rs := [.tmp 2]) (by kernel_rfl) ok15 (args := [.pointer (some ⟨d_b, d_o, none⟩)]) (Nat.le_of_ble_eq_true rfl) (Eq.mpr (by kernel_rfl) hv)
end Go.Sx.Tryz
namespace Go.Sx.Tryz
open Go Go.Sx Go.Proofs
set_option linter.unusedVariables false
structure Fl where
  b : List UInt8
  s : Nat
structure Dk where
  f : Nat → Fl
  armed : Bool
  fuse : Nat
  down : Bool
def Dk.set (D : Dk) (i : Nat) (x : Fl) : Dk := { D with f := updF D.f i x }
def Dk.blown (D : Dk) : Bool := D.armed && D.fuse == 0
def Dk.tick (D : Dk) : Dk := if D.armed = true then { D with fuse := D.fuse - 1, down := D.fuse == 0 } else D
def Dk.app (D : Dk) (i : Nat) (x : List UInt8) : Nat × Dk :=
  if D.down = true then (70, D) else if 1048576 < (D.f i).b.length + x.length then (21, D) else if D.blown = true then (70, (D.set i ⟨(D.f i).b ++ x, (D.f i).s⟩).tick) else (0, (D.set i ⟨(D.f i).b ++ x, (D.f i).s⟩).tick)
def Dk.syn (D : Dk) (i : Nat) : Nat × Dk :=
  if D.down = true then (70, D) else if D.blown = true then (70, D.tick) else (0, (D.set i ⟨(D.f i).b, (D.f i).b.length⟩).tick)
def Dk.cut (D : Dk) (i n : Nat) : Nat × Dk :=
  if D.down = true then (70, D) else if (D.f i).b.length < n then (2, D) else if D.blown = true then (70, D.tick) else (0, (D.set i ⟨(D.f i).b.take n, min n (D.f i).s⟩).tick)
def Dk.drp (D : Dk) (i : Nat) : Nat × Dk :=
  if D.down = true then (70, D) else if D.blown = true then (70, D.tick) else (0, (D.set i ⟨[], 0⟩).tick)
theorem Dk.tick_set (D : Dk) (i : Nat) (x : Fl) : D.tick.set i x = (D.set i x).tick := by
  unfold Dk.tick Dk.set; split <;> rfl
structure Dcs (cs : List Value) (vs : Nat → Sl) (D : Dk) : Prop where
  len : cs.length = 68
  file : ∀ i, i < 32 → cs[2 * i]? = some (.slice (vs i).a (vs i).l (vs i).c)
  syn : ∀ i, i < 32 → cs[2 * i + 1]? = some (.int .i64 ((D.f i).s : Int))
  armed : cs[64]? = some (.bool D.armed)
  fuse : cs[65]? = some (.int .i64 (D.fuse : Int)) ∧ D.fuse < 1000
  down : cs[66]? = some (.bool D.down)
  calls : ∃ n : Int, cs[67]? = some (.int .i64 n)
  fit : ∀ i, i < 32 → (D.f i).b.length ≤ 1048576
def fown (vs : Nat → Sl) (D : Dk) (i : Nat) : Asn := own 5 1 (vs i) (bv (D.f i).b)
def Dk.Sy (D : Dk) : Prop := ∀ i, i < 32 → (D.f i).s ≤ (D.f i).b.length
def dsk (d : Nat) (D : Dk) : Asn := exs fun x : List Value × (Nat → Sl) => st (fact (Dcs x.1 x.2 D ∧ D.Sy)) (st (lst d 92 x.1) (bigA 32 (fown x.2 D)))
section
variable {H H' : Heap} {S : PH} {R : List Asn} {d i : Nat} {D : Dk}
theorem dsk_open (hs : Sat H S (dsk d D :: R)) : ∃ cs vs, Dcs cs vs D ∧ Sat H S (lst d 92 cs :: bigA 32 (fown vs D) :: R) := by
  obtain ⟨⟨cs, vs⟩, hs⟩ := hs.open
  obtain ⟨h1, hs⟩ := hs.unst.fact
  exact ⟨cs, vs, h1.1, hs.unst⟩
theorem dsk_sy (hs : Sat H S (dsk d D :: R)) : D.Sy := by
  obtain ⟨⟨cs, vs⟩, hs⟩ := hs.open
  obtain ⟨h1, hs⟩ := hs.unst.fact
  exact h1.2
theorem Dk.Sy.set (hy : D.Sy) {x : Fl} (hx : x.s ≤ x.b.length) : (D.set i x).Sy := by
  intro j hj
  show (updF D.f i x j).s ≤ (updF D.f i x j).b.length
  unfold updF
  split
  · exact hx
  · exact hy j hj
theorem Dk.Sy.tick (hy : D.Sy) : D.tick.Sy := by
  unfold Dk.tick; split
  · exact hy
  · exact hy
theorem dsk_shut {cs : List Value} {vs : Nat → Sl} (hd : Dcs cs vs D) (hy : D.Sy) (hs : Sat H S (lst d 92 cs :: bigA 32 (fown vs D) :: R)) : Sat H S (dsk d D :: R) := by
  refine Sat.shut (A := fun x : List Value × (Nat → Sl) => st (fact (Dcs x.1 x.2 D ∧ D.Sy)) (st (lst d 92 x.1) (bigA 32 (fown x.2 D)))) (cs, vs) ?_
  exact (hs.mkst.addFact ⟨hd, hy⟩).mkst
theorem dsk_file (hi : i < 32) (hs : Sat H S (dsk d D :: R)) : ∃ cs vs, Dcs cs vs D ∧ Sat H S (lst d 92 cs :: own 5 1 (vs i) (bv (D.f i).b) :: bigA 32 (updF (fown vs D) i emp) :: R) := by
  obtain ⟨cs, vs, h1, hs⟩ := dsk_open hs
  exact ⟨cs, vs, h1, (hs.swap.perm (.refl _) |> bigA.get hi).sel [2]⟩
theorem fown_upd {vs : Nat → Sl} {x : Fl} {v : Sl} : fown (updF vs i v) (D.set i x) = updF (fown vs D) i (own 5 1 v (bv x.b)) := by
  funext j
  by_cases h : j = i
  · simp only [fown, Dk.set, updF, h, if_true]
  · simp only [fown, Dk.set, updF, h, if_false]
theorem dsk_back {cs : List Value} {vs : Nat → Sl} {v : Sl} {x : Fl} (hi : i < 32) (hd : Dcs cs (updF vs i v) (D.set i x)) (hy : D.Sy) (hx : x.s ≤ x.b.length) (hs : Sat H S (lst d 92 cs :: own 5 1 v (bv x.b) :: bigA 32 (updF (fown vs D) i emp) :: R)) : Sat H S (dsk d (D.set i x) :: R) := by
  refine dsk_shut hd (hy.set hx) ?_
  rw [fown_upd]
  exact (bigA.put hi (hs.sel [1, 1])).swap
theorem dsk_same {cs : List Value} {vs : Nat → Sl} (hi : i < 32) (hd : Dcs cs vs D) (hy : D.Sy) (hs : Sat H S (lst d 92 cs :: own 5 1 (vs i) (bv (D.f i).b) :: bigA 32 (updF (fown vs D) i emp) :: R)) : Sat H S (dsk d D :: R) := by
  refine dsk_shut hd hy ?_
  have := bigA.put hi (hs.sel [1, 1])
  have e : own 5 1 (vs i) (bv (D.f i).b) = fown vs D i := rfl
  rw [e, updF_self] at this
  exact this.swap
theorem Dcs.putFile {cs : List Value} {vs : Nat → Sl} (h : Dcs cs vs D) (hi : i < 32) (v : Sl) (b : List UInt8) (hb : b.length ≤ 1048576) : Dcs (putL cs (2 * i) [.slice v.a v.l v.c]) (updF vs i v) (D.set i ⟨b, (D.f i).s⟩) := by
  have hl := h.len
  have ne : ∀ j, j ≠ 2 * i → (putL cs (2 * i) [.slice v.a v.l v.c])[j]? = cs[j]? := fun j hj => putL_ne (by omega) hj
  refine ⟨by rw [putL_len (by simp; omega)]; exact hl, fun j hj => ?_, fun j hj => ?_, ?_, ⟨?_, h.fuse.2⟩, ?_, ?_, fun j hj => ?_⟩
  · by_cases e : j = i
    · subst e; rw [putL_at (by omega), updF_same]
    · rw [ne _ (by omega), updF_ne _ _ e]; exact h.file j hj
  · rw [ne _ (by omega)]
    by_cases e : j = i
    · subst e; simp only [Dk.set, updF_same]; exact h.syn j hj
    · simp only [Dk.set, updF_ne _ _ e]; exact h.syn j hj
  · rw [ne _ (by omega)]; exact h.armed
  · rw [ne _ (by omega)]; exact h.fuse.1
  · rw [ne _ (by omega)]; exact h.down
  · rw [ne _ (by omega)]; exact h.calls
  · by_cases e : j = i
    · subst e; simp only [Dk.set, updF_same]; exact hb
    · simp only [Dk.set, updF_ne _ _ e]; exact h.fit j hj
theorem Dcs.putSyn {cs : List Value} {vs : Nat → Sl} (h : Dcs cs vs D) (hi : i < 32) (n : Nat) : Dcs (putL cs (2 * i + 1) [.int .i64 (n : Int)]) vs (D.set i ⟨(D.f i).b, n⟩) := by
  have hl := h.len
  have ne : ∀ j, j ≠ 2 * i + 1 → (putL cs (2 * i + 1) [.int .i64 (n : Int)])[j]? = cs[j]? := fun j hj => putL_ne (by omega) hj
  refine ⟨by rw [putL_len (by simp; omega)]; exact hl, fun j hj => ?_, fun j hj => ?_, ?_, ⟨?_, h.fuse.2⟩, ?_, ?_, fun j hj => ?_⟩
  · rw [ne _ (by omega)]; exact h.file j hj
  · by_cases e : j = i
    · subst e; rw [putL_at (by omega)]; simp only [Dk.set, updF_same]
    · rw [ne _ (by omega)]; simp only [Dk.set, updF_ne _ _ e]; exact h.syn j hj
  · rw [ne _ (by omega)]; exact h.armed
  · rw [ne _ (by omega)]; exact h.fuse.1
  · rw [ne _ (by omega)]; exact h.down
  · rw [ne _ (by omega)]; exact h.calls
  · by_cases e : j = i
    · subst e; simp only [Dk.set, updF_same]; exact h.fit j hj
    · simp only [Dk.set, updF_ne _ _ e]; exact h.fit j hj
theorem Dcs.putArmed {cs : List Value} {vs : Nat → Sl} (h : Dcs cs vs D) (t : Bool) : Dcs (putL cs 64 [.bool t]) vs { D with armed := t } := by
  have hl := h.len
  have ne : ∀ j, j ≠ 64 → (putL cs 64 [.bool t])[j]? = cs[j]? := fun j hj => putL_ne (by omega) hj
  refine ⟨by rw [putL_len (by simp; omega)]; exact hl, fun j hj => ?_, fun j hj => ?_, ?_, ⟨?_, h.fuse.2⟩, ?_, ?_, h.fit⟩
  · rw [ne _ (by omega)]; exact h.file j hj
  · rw [ne _ (by omega)]; exact h.syn j hj
  · exact putL_at (by omega)
  · rw [ne _ (by omega)]; exact h.fuse.1
  · rw [ne _ (by omega)]; exact h.down
  · rw [ne _ (by omega)]; exact h.calls
theorem Dcs.putFuse {cs : List Value} {vs : Nat → Sl} (h : Dcs cs vs D) (n : Nat) (hn : n < 1000) : Dcs (putL cs 65 [.int .i64 (n : Int)]) vs { D with fuse := n } := by
  have hl := h.len
  have ne : ∀ j, j ≠ 65 → (putL cs 65 [.int .i64 (n : Int)])[j]? = cs[j]? := fun j hj => putL_ne (by omega) hj
  refine ⟨by rw [putL_len (by simp; omega)]; exact hl, fun j hj => ?_, fun j hj => ?_, ?_, ⟨?_, hn⟩, ?_, ?_, h.fit⟩
  · rw [ne _ (by omega)]; exact h.file j hj
  · rw [ne _ (by omega)]; exact h.syn j hj
  · rw [ne _ (by omega)]; exact h.armed
  · exact putL_at (by omega)
  · rw [ne _ (by omega)]; exact h.down
  · rw [ne _ (by omega)]; exact h.calls
theorem Dcs.putDown {cs : List Value} {vs : Nat → Sl} (h : Dcs cs vs D) (t : Bool) : Dcs (putL cs 66 [.bool t]) vs { D with down := t } := by
  have hl := h.len
  have ne : ∀ j, j ≠ 66 → (putL cs 66 [.bool t])[j]? = cs[j]? := fun j hj => putL_ne (by omega) hj
  refine ⟨by rw [putL_len (by simp; omega)]; exact hl, fun j hj => ?_, fun j hj => ?_, ?_, ⟨?_, h.fuse.2⟩, ?_, ?_, h.fit⟩
  · rw [ne _ (by omega)]; exact h.file j hj
  · rw [ne _ (by omega)]; exact h.syn j hj
  · rw [ne _ (by omega)]; exact h.armed
  · rw [ne _ (by omega)]; exact h.fuse.1
  · exact putL_at (by omega)
  · rw [ne _ (by omega)]; exact h.calls
theorem Dcs.putCalls {cs : List Value} {vs : Nat → Sl} (h : Dcs cs vs D) (n : Int) : Dcs (putL cs 67 [.int .i64 n]) vs D := by
  have hl := h.len
  have ne : ∀ j, j ≠ 67 → (putL cs 67 [.int .i64 n])[j]? = cs[j]? := fun j hj => putL_ne (by omega) hj
  refine ⟨by rw [putL_len (by simp; omega)]; exact hl, fun j hj => ?_, fun j hj => ?_, ?_, ⟨?_, h.fuse.2⟩, ?_, ?_, h.fit⟩
  · rw [ne _ (by omega)]; exact h.file j hj
  · rw [ne _ (by omega)]; exact h.syn j hj
  · rw [ne _ (by omega)]; exact h.armed
  · rw [ne _ (by omega)]; exact h.fuse.1
  · rw [ne _ (by omega)]; exact h.down
  · exact ⟨n, putL_at (by omega)⟩
theorem at_spec (hi : i < 32) {K : Value → Heap → Prop} (hk : K (.pointer (some ⟨d, 2 * i, none⟩)) H) : CallsH Tryz.prog 93 #[.pointer (some ⟨d, 0, none⟩), .int .i64 (i : Int)] H K := by
  apply vc93
  refine CondP.of (fun hc => by simp at hc; omega) fun _ => CondP.of (fun hc => by simp at hc; omega) fun _ => ⟨⟨by omega, by omega⟩, rfl, ?_⟩
  rw [show 0 + (i : Int).toNat * 2 = 2 * i by omega]
  exact hk
theorem blow_spec (hs : Sat H S (dsk d D :: R)) {K : Value → Heap → Prop} (hk : ∀ H', Sat H' S (dsk d D.tick :: R) → K (.bool D.blown) H') : CallsH Tryz.prog 171 #[.pointer (some ⟨d, 0, none⟩)] H K := by
  apply vc171
  have hy := dsk_sy hs
  obtain ⟨cs, vs, hd, hs⟩ := dsk_open hs
  obtain ⟨n, hn⟩ := hd.calls
  refine ⟨n, hs.cell _ hn, ?_⟩
  refine hs.store (by simp [hd.len]) fun h1 hs1 => ?_
  have hd1 := hd.putCalls (IntKind.i64.wrap (n + 1))
  refine ⟨_, hs1.cell _ hd1.armed, CondP.of (fun hc => ?_) (fun hc => ?_)⟩
  · have ha : D.armed = false := by simpa using hc
    have := hk h1 (dsk_shut (D := D.tick) (by rw [Dk.tick, ha]; simpa using hd1) hy.tick (by rw [Dk.tick, ha]; simpa using hs1))
    rw [Dk.blown, ha] at this
    exact this
  · have ha : D.armed = true := by simpa using hc
    refine ⟨_, hs1.cell _ hd1.fuse.1, ?_⟩
    refine hs1.store (by simp [hd1.len]) fun h2 hs2 => ?_
    have hd2 := hd1.putDown ((D.fuse : Int) == 0)
    have hs2 : Sat h2 S (lst d 92 (putL (putL cs 67 [.int .i64 (IntKind.i64.wrap (n + 1))]) 66 [.bool ((D.fuse : Int) == 0)]) :: bigA 32 (fown vs D) :: R) := hs2
    refine ⟨_, hs2.cell _ hd2.fuse.1, ?_⟩
    have hf := hd.fuse.2
    have e : (if 0 > IntKind.i64.wrap ((D.fuse : Int) - 1) then 0 else IntKind.i64.wrap ((D.fuse : Int) - 1)) = ((D.fuse - 1 : Nat) : Int) := by
      rw [i64_in (by omega) (by omega)]; split <;> omega
    rw [e]
    refine hs2.store (by simp [hd2.len]) fun h3 hs3 => ?_
    have hd3 := hd2.putFuse (D.fuse - 1) (by omega)
    refine ⟨_, hs3.cell _ hd3.down, ?_⟩
    have hb : (((D.fuse : Int)) == 0) = (D.fuse == 0) := by
      by_cases h : D.fuse = 0
      · simp [h]
      · have : ¬ (D.fuse : Int) = 0 := by omega
        rw [beq_eq_false_iff_ne.2 h, beq_eq_false_iff_ne.2 this]
    have ht : D.tick = { D with fuse := D.fuse - 1, down := ((D.fuse : Int)) == 0 } := by rw [Dk.tick, if_pos ha, hb]
    have := hk h3 (dsk_shut (D := D.tick) (by rw [ht]; exact hd3) hy.tick (by rw [ht]; exact hs3))
    rw [Dk.blown, ha, Bool.true_and, ← hb] at this
    exact this
end
end Go.Sx.Tryz
namespace Go.Sx.Tryz
open Go Go.Sx Go.Proofs
set_option linter.unusedVariables false
section
variable {H H' : Heap} {S : PH} {R : List Asn} {d i : Nat} {D : Dk}
theorem Dk.set_set (D : Dk) (i : Nat) (x y : Fl) : (D.set i x).set i y = D.set i y := by unfold Dk.set; simp only [updF_upd]
theorem Dk.set_f (D : Dk) (i : Nat) (x : Fl) : (D.set i x).f i = x := updF_same _ _ _
theorem Dk.set_self (D : Dk) (i : Nat) : D.set i (D.f i) = D := by unfold Dk.set; rw [updF_self]
theorem add_spec {b2 : Nat} {x : Sl} {xs : List UInt8} (hi : i < 32) (hs : Sat H S (dsk d D :: lst b2 33 [.slice x.a x.l x.c] :: R)) (hx : RdB S x xs) (hfit : (D.f i).b.length + xs.length ≤ 1048576)
    {K : Value → Heap → Prop} (hk : ∀ H', Sat H' S (dsk d (D.set i ⟨(D.f i).b ++ xs, (D.f i).s⟩) :: lst b2 33 [.slice x.a x.l x.c] :: R) → K (.tuple #[]) H') : CallsH Tryz.prog 160 #[.pointer (some ⟨d, 2 * i, none⟩), .pointer (some ⟨b2, 0, none⟩)] H K := by
  apply vc160
  have hy := dsk_sy hs
  obtain ⟨cs, vs, hd, hs⟩ := dsk_file hi hs
  refine ⟨vs i, hs.cell _ (hd.file i hi), x, (hs.pick 3 rfl).cell 0 rfl, ?_⟩
  have hl := (own.len hs.swap).1
  rw [bv_len] at hl
  obtain ⟨hxl, hxr⟩ := hx.reads hs
  refine append_own el33 hs.swap (m := x.l) (c := x.c) (news := bv xs) (by rw [bv_len]; omega) ?_ (bv_one _) (by omega) (by unfold maxLen; omega) fun v' h1 hv' hs1 => ?_
  · rcases hxr with h | ⟨b, o, h, h'⟩
    · exact .inl h
    · exact .inr ⟨b, o, h, h'⟩
  rw [← bv_append] at hs1
  refine hs1.swap.store (by simp [hd.len]; omega) fun h2 hs2 => hk h2 ?_
  exact dsk_back (x := ⟨(D.f i).b ++ xs, (D.f i).s⟩) hi (hd.putFile hi v' _ (by rw [List.length_append]; exact hfit)) hy (by have := hy i hi; simp only [List.length_append]; omega) hs2
theorem fileLen (hi : i < 32) {cs : List Value} {vs : Nat → Sl} (hs : Sat H S (lst d 92 cs :: own 5 1 (vs i) (bv (D.f i).b) :: bigA 32 (updF (fown vs D) i emp) :: R)) : (vs i).l = (D.f i).b.length := by
  have hl := (own.len hs.swap).1
  rw [bv_len] at hl; omega
theorem turn_spec {mayV doV : Value} {D1 : Dk} {R' : List Asn} {e : Nat} (hi : i < 32) (hs : Sat H S (dsk d D :: R)) (hdown : D.down = false)
    {K : Value → Heap → Prop}
    (hmay : ∀ (K' : Value → Heap → Prop), (∀ H', Sat H' S (dsk d D1 :: R) → K' (.int .i64 (e : Int)) H') → CallV Tryz.prog mayV [.pointer (some ⟨d, 2 * i, none⟩)] H K')
    (hbad : e ≠ 0 → ∀ H', Sat H' S (dsk d D1 :: R) → K (.int .i64 (e : Int)) H')
    (hblown : e = 0 → D1.blown = true → ∀ H', Sat H' S (dsk d D1.tick :: R) → K (.int .i64 70) H')
    (hdo : e = 0 → D1.blown = false → ∀ H', Sat H' S (dsk d D1.tick :: R) → CallV Tryz.prog doV [.pointer (some ⟨d, 2 * i, none⟩)] H' fun v h => v = .tuple #[] ∧ K (.int .i64 0) h) :
    CallsH Tryz.prog 142 #[.pointer (some ⟨d, 0, none⟩), .int .i64 (i : Int), mayV, doV] H K := by
  apply vc142
  refine at_spec hi ⟨_, rfl, ?_⟩
  obtain ⟨cs, vs, hd, hs'⟩ := dsk_open hs
  refine ⟨_, hs'.cell _ hd.down, CondP.of (fun hc => by rw [hdown] at hc; cases hc) fun _ => CondP.of (fun hc => by cases hc) fun _ => ?_⟩
  refine hmay _ fun h2 hs2 => ⟨_, rfl, CondP.of (fun hc => hbad (by intro h; subst h; simp at hc) h2 hs2) fun hc => ?_⟩
  have he : e = 0 := by
    simp at hc; omega
  refine .inl ⟨171, _, _, rfl, call171, blow_spec hs2 fun h3 hs3 => ⟨_, rfl, CondP.of (fun hb => hblown he hb h3 hs3) fun hb => hdo he hb h3 hs3⟩⟩
theorem turn_down {mayV doV : Value} (hi : i < 32) (hs : Sat H S (dsk d D :: R)) (hdown : D.down = true) {K : Value → Heap → Prop} (hk : K (.int .i64 70) H) :
    CallsH Tryz.prog 142 #[.pointer (some ⟨d, 0, none⟩), .int .i64 (i : Int), mayV, doV] H K := by
  apply vc142
  refine at_spec hi ⟨_, rfl, ?_⟩
  obtain ⟨cs, vs, hd, hs'⟩ := dsk_open hs
  exact ⟨_, hs'.cell _ hd.down, CondP.of (fun _ => hk) fun hc => by rw [hdown] at hc; cases hc⟩
theorem always_spec {a : Nat} {o : Nat} {K : Value → Heap → Prop} (hk : K (.int .i64 0) H) : CallV Tryz.prog (.func (.func 143) #[] #[]) [.pointer (some ⟨a, o, none⟩)] H K :=
  .inl ⟨143, #[], #[], rfl, call143, vc143 a o H K hk⟩
theorem app_spec {x : Sl} {xs : List UInt8} (hi : i < 32) (hs : Sat H S (dsk d D :: R)) (hx : RdB S x xs) (hlen : xs.length < 1000000000)
    {K : Value → Heap → Prop} (hk : ∀ H', Sat H' S (dsk d (D.app i xs).2 :: R) → K (.int .i64 ((D.app i xs).1 : Int)) H') :
    CallsH Tryz.prog 121 #[.pointer (some ⟨d, 0, none⟩), .int .i64 (i : Int), .slice x.a x.l x.c] H K := by
  apply vc121
  intro b1 h1 hf1 b2 h2 hf2 b3 h3 hf3
  have hs1 : Sat h1 S (lst b1 26 [.pointer (some ⟨d, 0, none⟩)] :: dsk d D :: R) := hs.fresh hf1
  have hs2 : Sat h2 S (lst b2 33 [.slice x.a x.l x.c] :: lst b1 26 [.pointer (some ⟨d, 0, none⟩)] :: dsk d D :: R) := hs1.fresh hf2
  have hs3 : Sat h3 S (lst b3 208 [.nilFunc] :: lst b2 33 [.slice x.a x.l x.c] :: lst b1 26 [.pointer (some ⟨d, 0, none⟩)] :: dsk d D :: R) := hs2.fresh hf3
  refine hs3.store (Nat.le_refl _) fun h4 hs4 => ?_
  have hs4 : Sat h4 S (lst b3 208 [.func (.func 160) #[] #[.pointer (some ⟨b2, 0, none⟩)]] :: lst b2 33 [.slice x.a x.l x.c] :: lst b1 26 [.pointer (some ⟨d, 0, none⟩)] :: dsk d D :: R) := hs4
  refine ⟨_, (hs4.pick 2 rfl).cell 0 rfl, _, hs4.cell 0 rfl, ?_⟩
  have hs5 := hs4.sel [3, 1]
  have fin : ∀ {D' : Dk} {n : Nat}, D.app i xs = (n, D') → ∀ H', Sat H' S (dsk d D' :: lst b2 33 [.slice x.a x.l x.c] :: lst b3 208 [.func (.func 160) #[] #[.pointer (some ⟨b2, 0, none⟩)]] :: lst b1 26 [.pointer (some ⟨d, 0, none⟩)] :: R) → K (.int .i64 (n : Int)) H' := by
    intro D' n e H' hs'
    have := hk H' (by rw [e]; exact ((hs'.del 1).del 1).del 1)
    rw [e] at this; exact this
  have hadd : ∀ {D : Dk} {h : Heap} (hfit : (D.f i).b.length + xs.length ≤ 1048576) (hs : Sat h S (dsk d D :: lst b2 33 [.slice x.a x.l x.c] :: lst b3 208 [.func (.func 160) #[] #[.pointer (some ⟨b2, 0, none⟩)]] :: lst b1 26 [.pointer (some ⟨d, 0, none⟩)] :: R)) (K : Value → Heap → Prop),
      (∀ H', Sat H' S (dsk d (D.set i ⟨(D.f i).b ++ xs, (D.f i).s⟩) :: lst b2 33 [.slice x.a x.l x.c] :: lst b3 208 [.func (.func 160) #[] #[.pointer (some ⟨b2, 0, none⟩)]] :: lst b1 26 [.pointer (some ⟨d, 0, none⟩)] :: R) → K (.tuple #[]) H') →
      CallV Tryz.prog (.func (.func 160) #[] #[.pointer (some ⟨b2, 0, none⟩)]) [.pointer (some ⟨d, 2 * i, none⟩)] h K := by
    intro D h hfit hs K hk
    exact .inl ⟨160, #[], _, rfl, call160, add_spec hi hs hx hfit hk⟩
  by_cases hdown : D.down = true
  · exact turn_down hi hs5 hdown ⟨_, rfl, fin (by rw [Dk.app, if_pos hdown]) _ hs5⟩
  have hdown' : D.down = false := by simpa using hdown
  by_cases hlong : 1048576 < (D.f i).b.length + xs.length
  · refine turn_spec (e := 21) (D1 := D) (R' := []) hi hs5 hdown' (fun K' hK => .inl ⟨161, #[], _, rfl, call161, vc161 d (2 * i) b2 0 b1 0 b3 0 _ _ ?_⟩) (fun _ H' hs' => ⟨_, rfl, fin (by rw [Dk.app, if_neg hdown, if_pos hlong]) _ hs'⟩) (fun h => by cases h) (fun h => by cases h)
    obtain ⟨cs, vs, hd, hs6⟩ := dsk_file hi hs5
    refine ⟨vs i, hs6.cell _ (hd.file i hi), x, (hs6.pick 3 rfl).cell 0 rfl, ?_⟩
    have hl := fileLen hi hs6
    have hxl := RdB.len hx
    have hft := hd.fit i hi
    rw [i64_add (by omega)]
    exact CondP.of (fun _ => hK _ hs5) (fun hc => by simp at hc; omega)
  have hfit : (D.f i).b.length + xs.length ≤ 1048576 := by omega
  have hmay : ∀ (K' : Value → Heap → Prop), (∀ H', Sat H' S (dsk d (if D.blown = true then D.set i ⟨(D.f i).b ++ xs, (D.f i).s⟩ else D) :: lst b2 33 [.slice x.a x.l x.c] :: lst b3 208 [.func (.func 160) #[] #[.pointer (some ⟨b2, 0, none⟩)]] :: lst b1 26 [.pointer (some ⟨d, 0, none⟩)] :: R) → K' (.int .i64 ((0 : Nat) : Int)) H') →
      CallV Tryz.prog (.func (.func 161) #[] #[.pointer (some ⟨b2, 0, none⟩), .pointer (some ⟨b1, 0, none⟩), .pointer (some ⟨b3, 0, none⟩)]) [.pointer (some ⟨d, 2 * i, none⟩)] h4 K' := by
    intro K' hK
    refine .inl ⟨161, #[], _, rfl, call161, vc161 d (2 * i) b2 0 b1 0 b3 0 _ _ ?_⟩
    obtain ⟨cs, vs, hd, hs6⟩ := dsk_file hi hs5
    refine ⟨vs i, hs6.cell _ (hd.file i hi), x, (hs6.pick 3 rfl).cell 0 rfl, ?_⟩
    have hl := fileLen hi hs6
    have hxl := RdB.len hx
    rw [i64_add (by omega)]
    refine CondP.of (fun hc => by simp at hc; omega) (fun _ => ⟨_, (hs6.pick 5 rfl).cell 0 rfl, NilP.of rfl ⟨_, hs6.cell _ hd.armed, CondP.of (fun ha => ⟨_, (hs6.pick 5 rfl).cell 0 rfl, NilP.of rfl ⟨_, hs6.cell _ hd.fuse.1, CondP.of (fun hf => ?_) (fun hf => ?_)⟩⟩) (fun ha => ?_)⟩⟩)
    · have hb : D.blown = true := by
        have : D.fuse = 0 := by simp at hf; omega
        rw [Dk.blown, ha, this]; rfl
      rw [if_pos hb] at hK
      refine ⟨_, (hs5.pick 2 rfl).cell 0 rfl, hadd hfit hs5 _ fun H' hs' => ⟨rfl, hK H' hs'⟩⟩
    · have hb : ¬ D.blown = true := by
        have : D.fuse ≠ 0 := by rintro h; rw [h] at hf; simp at hf
        rw [Dk.blown, ha]; simpa using this
      rw [if_neg hb] at hK
      exact hK _ hs5
    · have hb : ¬ D.blown = true := by rw [Dk.blown, ha]; simp
      rw [if_neg hb] at hK
      exact hK _ hs5
  by_cases hb : D.blown = true
  · rw [if_pos hb] at hmay
    refine turn_spec (e := 0) (R' := []) hi hs5 hdown' hmay (fun h => absurd rfl h) (fun _ _ H' hs' => ⟨_, rfl, fin (by rw [Dk.app, if_neg hdown, if_neg hlong, if_pos hb]) _ hs'⟩) (fun _ hb' => ?_)
    have : (D.set i ⟨(D.f i).b ++ xs, (D.f i).s⟩).blown = D.blown := rfl
    rw [this, hb] at hb'; cases hb'
  · rw [if_neg hb] at hmay
    refine turn_spec (e := 0) (R' := []) hi hs5 hdown' hmay (fun h => absurd rfl h) (fun _ hb' => absurd hb' hb) (fun _ _ H' hs' => ?_)
    have htf : ∀ D : Dk, D.tick.f = D.f := fun D => by unfold Dk.tick; split <;> rfl
    refine hadd (D := D.tick) (by rw [htf]; exact hfit) hs' _ fun h hs7 => ⟨rfl, _, rfl, fin (by rw [Dk.app, if_neg hdown, if_neg hlong, if_neg hb]) _ ?_⟩
    rw [htf, Dk.tick_set] at hs7
    exact hs7
end
end Go.Sx.Tryz
namespace Go.Sx.Tryz
open Go Go.Sx Go.Proofs
set_option linter.unusedVariables false
section
variable {H H' : Heap} {S : PH} {R : List Asn} {d i : Nat} {D : Dk}
theorem tick_f (D : Dk) : D.tick.f = D.f := by unfold Dk.tick; split <;> rfl
theorem syn_spec (hi : i < 32) (hs : Sat H S (dsk d D :: R))
    {K : Value → Heap → Prop} (hk : ∀ H', Sat H' S (dsk d (D.syn i).2 :: R) → K (.int .i64 ((D.syn i).1 : Int)) H') :
    CallsH Tryz.prog 102 #[.pointer (some ⟨d, 0, none⟩), .int .i64 (i : Int)] H K := by
  apply vc102
  have fin : ∀ {D' : Dk} {n : Nat}, D.syn i = (n, D') → ∀ H', Sat H' S (dsk d D' :: R) → K (.int .i64 (n : Int)) H' := by
    intro D' n e H' hs'
    have := hk H' (by rw [e]; exact hs')
    rw [e] at this; exact this
  by_cases hdown : D.down = true
  · exact turn_down hi hs hdown ⟨_, rfl, fin (by rw [Dk.syn, if_pos hdown]) _ hs⟩
  refine turn_spec (e := 0) (D1 := D) (R' := []) hi hs (by simpa using hdown) (fun K' hK => always_spec (hK _ hs)) (fun h => absurd rfl h) (fun _ hb H' hs' => ⟨_, rfl, fin (by rw [Dk.syn, if_neg hdown, if_pos hb]) _ hs'⟩) (fun _ hb H' hs' => ?_)
  refine .inl ⟨148, #[], #[], rfl, call148, vc148 d (2 * i) _ _ ?_⟩
  obtain ⟨cs, vs, hd, hs1⟩ := dsk_file hi hs'
  refine ⟨vs i, hs1.cell _ (hd.file i hi), ?_⟩
  have hl := fileLen hi hs1
  rw [hl]
  refine hs1.store (by simp [hd.len]; omega) fun h2 hs2 => ⟨rfl, _, rfl, fin (by rw [Dk.syn, if_neg hdown, if_neg (by simp [hb])]) _ ?_⟩
  have := dsk_back (vs := vs) (v := vs i) (x := ⟨(D.tick.f i).b, (D.tick.f i).b.length⟩) hi (by rw [updF_self]; exact hd.putSyn hi _) (dsk_sy hs') (Nat.le_refl _) hs2
  rw [Dk.tick_set, tick_f] at this
  exact this
theorem drp_spec (hi : i < 32) (hs : Sat H S (dsk d D :: R))
    {K : Value → Heap → Prop} (hk : ∀ H', Sat H' S (dsk d (D.drp i).2 :: R) → K (.int .i64 ((D.drp i).1 : Int)) H') :
    CallsH Tryz.prog 99 #[.pointer (some ⟨d, 0, none⟩), .int .i64 (i : Int)] H K := by
  apply vc99
  have fin : ∀ {D' : Dk} {n : Nat}, D.drp i = (n, D') → ∀ H', Sat H' S (dsk d D' :: R) → K (.int .i64 (n : Int)) H' := by
    intro D' n e H' hs'
    have := hk H' (by rw [e]; exact hs')
    rw [e] at this; exact this
  by_cases hdown : D.down = true
  · exact turn_down hi hs hdown ⟨_, rfl, fin (by rw [Dk.drp, if_pos hdown]) _ hs⟩
  refine turn_spec (e := 0) (D1 := D) (R' := []) hi hs (by simpa using hdown) (fun K' hK => always_spec (hK _ hs)) (fun h => absurd rfl h) (fun _ hb H' hs' => ⟨_, rfl, fin (by rw [Dk.drp, if_neg hdown, if_pos hb]) _ hs'⟩) (fun _ hb H' hs' => ?_)
  refine .inl ⟨144, #[], #[], rfl, call144, vc144 d (2 * i) _ _ ?_⟩
  obtain ⟨cs, vs, hd, hs1⟩ := dsk_file hi hs'
  refine hs1.store (by simp [hd.len]; omega) fun h2 hs2 => ⟨rfl, _, rfl, fin (by rw [Dk.drp, if_neg hdown, if_neg (by simp [hb])]) _ ?_⟩
  have hs3 := own.new 5 1 (hs2.del 1)
  have e : putL cs (2 * i) [.slice none 0 0, .int .i64 0] = putL (putL cs (2 * i) [.slice none 0 0]) (2 * i + 1) [.int .i64 ((0 : Nat) : Int)] := by
    have hl := hd.len
    apply List.ext_getElem?
    intro j
    rw [putL_get (by simp; omega), putL_get (by rw [putL_len (by simp; omega)]; simp; omega), putL_get (by simp; omega)]
    simp only [List.length_cons, List.length_nil]
    by_cases h1 : j < 2 * i
    · rw [if_pos h1, if_pos (by omega)]
      rw [if_pos h1]
    · rw [if_neg h1]
      by_cases h2 : j = 2 * i
      · subst h2
        rw [if_pos (by omega), if_pos (by omega), if_neg (by omega), if_pos (by omega)]
        simp
      · by_cases h3 : j = 2 * i + 1
        · subst h3
          rw [if_pos (by omega), if_neg (by omega), if_pos (by omega)]
          simp
        · rw [if_neg (by omega), if_neg (by omega), if_neg (by omega), if_neg (by omega), if_neg (by omega)]
  have hd1 := (hd.putFile hi ⟨none, 0, 0⟩ [] (by simp)).putSyn hi 0
  rw [Dk.set_set, Dk.set_f, ← e] at hd1
  have := dsk_back (x := ⟨[], 0⟩) hi hd1 (dsk_sy hs') (Nat.le_refl _) (hs3.swap)
  rw [Dk.tick_set] at this
  exact this
theorem own.cut {v : Sl} {xs : List Value} {T : TypeId} (h : Sat H S (own T 1 v xs :: R)) {n : Nat} (hn : n ≤ v.l) : Sat H S (own T 1 ⟨subA v.a 0 n 1, n, n⟩ (xs.take n) :: R) := by
  obtain ⟨⟨k, ⟨k1, k2, ⟨h1, h2⟩, h3, hs⟩, h4, h5⟩, h6⟩ := h
  refine ⟨⟨k, ⟨k1, k2, ⟨by show (xs.take n).length = n * 1; rw [List.length_take]; omega, ?_⟩, h3, hs⟩, h4, h5⟩, h6⟩
  rcases h2 with ⟨rfl, rfl⟩ | ⟨g, cur, g1, g2, g3, g4, g5, g6⟩
  · left
    have : n = 0 := by simpa using hn
    subst this
    exact ⟨rfl, rfl⟩
  · right
    refine ⟨g, cur, ?_, g2, Nat.le_refl _, Nat.le_trans hn (Nat.le_trans g3 g4), ?_, ?_⟩
    · rw [subA_zero (by intro a ha; rw [g1] at ha; cases ha; rfl)]; exact g1
    · show n * 1 ≤ cur.size
      omega
    · rw [← g6, List.take_take]; congr 1; show n * 1 = _; omega
theorem cut_spec {n : Nat} (hi : i < 32) (hs : Sat H S (dsk d D :: R)) (hn : n < 1000000000)
    {K : Value → Heap → Prop} (hk : ∀ H', Sat H' S (dsk d (D.cut i n).2 :: R) → K (.int .i64 ((D.cut i n).1 : Int)) H') :
    CallsH Tryz.prog 101 #[.pointer (some ⟨d, 0, none⟩), .int .i64 (i : Int), .int .i64 (n : Int)] H K := by
  apply vc101
  intro b1 h1 hf1
  have hs1 : Sat h1 S (lst b1 3 [.int .i64 (n : Int)] :: dsk d D :: R) := hs.fresh hf1
  have hs2 := hs1.swap
  have fin : ∀ {D' : Dk} {m : Nat}, D.cut i n = (m, D') → ∀ H', Sat H' S (dsk d D' :: lst b1 3 [.int .i64 (n : Int)] :: R) → K (.int .i64 (m : Int)) H' := by
    intro D' m e H' hs'
    have := hk H' (by rw [e]; exact hs'.del 1)
    rw [e] at this; exact this
  by_cases hdown : D.down = true
  · exact turn_down hi hs2 hdown ⟨_, rfl, fin (by rw [Dk.cut, if_pos hdown]) _ hs2⟩
  by_cases hlong : (D.f i).b.length < n
  · refine turn_spec (e := 2) (D1 := D) (R' := []) hi hs2 (by simpa using hdown) (fun K' hK => .inl ⟨146, #[], _, rfl, call146, vc146 d (2 * i) b1 0 _ _ ?_⟩) (fun _ H' hs' => ⟨_, rfl, fin (by rw [Dk.cut, if_neg hdown, if_pos hlong]) _ hs'⟩) (fun h => by cases h) (fun h => by cases h)
    obtain ⟨cs, vs, hd, hs6⟩ := dsk_file hi hs2
    have hl := fileLen hi hs6
    refine ⟨_, (hs2.pick 1 rfl).cell 0 rfl, CondP.of (fun hc => by simp at hc; omega) fun _ => ⟨_, (hs2.pick 1 rfl).cell 0 rfl, vs i, hs6.cell _ (hd.file i hi), CondP.of (fun _ => hK _ hs2) fun hc => by simp at hc; omega⟩⟩
  refine turn_spec (e := 0) (D1 := D) (R' := []) hi hs2 (by simpa using hdown) (fun K' hK => .inl ⟨146, #[], _, rfl, call146, vc146 d (2 * i) b1 0 _ _ ?_⟩) (fun h => absurd rfl h) (fun _ hb H' hs' => ⟨_, rfl, fin (by rw [Dk.cut, if_neg hdown, if_neg hlong, if_pos hb]) _ hs'⟩) (fun _ hb H' hs' => ?_)
  · obtain ⟨cs, vs, hd, hs6⟩ := dsk_file hi hs2
    have hl := fileLen hi hs6
    refine ⟨_, (hs2.pick 1 rfl).cell 0 rfl, CondP.of (fun hc => by simp at hc; omega) fun _ => ⟨_, (hs2.pick 1 rfl).cell 0 rfl, vs i, hs6.cell _ (hd.file i hi), CondP.of (fun hc => by simp at hc; omega) fun _ => hK _ hs2⟩⟩
  · refine .inl ⟨147, #[], _, rfl, call147, vc147 d (2 * i) b1 0 _ _ ?_⟩
    have hsy := dsk_sy hs'
    obtain ⟨cs, vs, hd, hs6⟩ := dsk_file hi hs'
    have hl := fileLen hi hs6
    rw [tick_f] at hl
    have hlc := (own.len hs6.swap).2
    have hb1 : Sat H' S _ := hs6.pick 3 rfl
    have hlong' : n ≤ (vs i).l := by omega
    refine ⟨vs i, hs6.cell _ (hd.file i hi), _, hb1.cell 0 rfl, _, hb1.cell 0 rfl, ⟨by omega, by omega, by omega, by omega⟩, _, hs6.cell _ (hd.syn i hi), _, hb1.cell 0 rfl, ?_⟩
    simp only [Int.toNat_natCast]
    refine hs6.store (by simp [hd.len]; omega) fun h2 hs7 => ⟨(hs7.pick 3 rfl).cell 0 rfl, ?_⟩
    have hd1 := hd.putFile hi ⟨subA (vs i).a 0 n 1, n, n⟩ ((D.tick.f i).b.take n) (by rw [List.length_take]; have := hd.fit i hi; omega)
    have e : (if (n : Int) < ((D.tick.f i).s : Int) then (n : Int) else ((D.tick.f i).s : Int)) = ((min n (D.tick.f i).s : Nat) : Int) := by
      split <;> omega
    rw [e]
    refine hs7.store (by simp [hd1.len]; omega) fun h3 hs8 => ⟨trivial, _, rfl, fin (by rw [Dk.cut, if_neg hdown, if_neg hlong, if_neg (by simp [hb])]) _ ?_⟩
    have hd2 := hd1.putSyn hi (min n (D.tick.f i).s)
    rw [Dk.set_set, Dk.set_f] at hd2
    have hs9 := own.cut hs8.swap hlong'
    rw [bv, ← List.map_take] at hs9
    have := dsk_back (x := ⟨(D.tick.f i).b.take n, min n (D.tick.f i).s⟩) hi hd2 hsy (by have := hsy i hi; simp only [List.length_take]; omega) (hs9.swap)
    rw [Dk.tick_set, tick_f] at this
    exact this
theorem read_spec (hi : i < 32) (hs : Sat H S (dsk d D :: R))
    {K : Value → Heap → Prop} (hk : ∀ (v : Sl) H' S', PH.le S S' → RdB S' v (D.f i).b → Sat H' S' (dsk d D :: R) → K (.slice v.a v.l v.c) H') :
    CallsH Tryz.prog 37 #[.pointer (some ⟨d, 0, none⟩), .int .i64 (i : Int)] H K := by
  apply vc37
  refine at_spec hi ⟨_, rfl, CondP.of (fun hc => by cases hc) fun _ => NilP.of rfl ?_⟩
  obtain ⟨cs, vs, hd, hs6⟩ := dsk_file hi hs
  refine ⟨vs i, hs6.cell _ (hd.file i hi), ?_⟩
  have hft := hd.fit i hi
  refine clone_spec hs6 (own.reads hs6.swap) (by omega) fun v h1 hv hs7 => ⟨v, rfl, ?_⟩
  obtain ⟨S', q1, q2, q3⟩ := own.fixd hs7
  exact hk v h1 S' q1 q2 (dsk_same hi hd (dsk_sy hs) q3)
theorem size_spec (hi : i < 32) (hs : Sat H S (dsk d D :: R))
    {K : Value → Heap → Prop} (hk : K (.int .i64 ((D.f i).b.length : Int)) H) :
    CallsH Tryz.prog 84 #[.pointer (some ⟨d, 0, none⟩), .int .i64 (i : Int)] H K := by
  apply vc84
  refine at_spec hi ⟨_, rfl, CondP.of (fun _ => NilP.of rfl ?_) fun hc => by cases hc⟩
  obtain ⟨cs, vs, hd, hs6⟩ := dsk_file hi hs
  refine ⟨vs i, hs6.cell _ (hd.file i hi), ?_⟩
  rw [fileLen hi hs6]; exact hk
theorem down_spec (hs : Sat H S (dsk d D :: R)) {K : Value → Heap → Prop} (hk : K (.bool D.down) H) : CallsH Tryz.prog 15 #[.pointer (some ⟨d, 0, none⟩)] H K := by
  apply vc15
  obtain ⟨cs, vs, hd, hs1⟩ := dsk_open hs
  exact ⟨_, hs1.cell _ hd.down, hk⟩
theorem arm_spec {n : Nat} (hn : n < 1000) (hs : Sat H S (dsk d D :: R)) {K : Value → Heap → Prop} (hk : ∀ H', Sat H' S (dsk d { D with armed := true, fuse := n } :: R) → K (.tuple #[]) H') :
    CallsH Tryz.prog 14 #[.pointer (some ⟨d, 0, none⟩), .int .i64 (n : Int)] H K := by
  apply vc14
  obtain ⟨cs, vs, hd, hs1⟩ := dsk_open hs
  refine hs1.store (by simp [hd.len]) fun h1 hs2 => ?_
  have e1 : decide ((n : Int) ≥ 0) = true := by simp
  have e2 : (if (0 : Int) > (n : Int) then (0 : Int) else (n : Int)) = (n : Int) := by rw [if_neg (by omega)]
  have hd1 := hd.putArmed (decide ((n : Int) ≥ 0))
  rw [e2]
  refine hs2.store (by rw [Nat.zero_add, hd1.len]; simp) fun h2 hs3 => hk h2 ?_
  have hd2 := hd1.putFuse n hn
  rw [e1] at hd2 hs3
  have hy : D.Sy := dsk_sy hs
  exact dsk_shut hd2 hy hs3
def Dk.new : Dk := { f := fun _ => ⟨[], 0⟩, armed := false, fuse := 0, down := false }
theorem bigA_new {n : Nat} {A : Nat → Asn} (hA : ∀ i, A i fun _ => none) (hs : Sat H S R) : Sat H S (bigA n A :: R) := by
  unfold bigA
  induction n with
  | zero => exact hs.emp
  | succ n ih =>
    have h1 := Sat.unast ih
    have h2 : Sat H S (A n :: ((List.range n).map A ++ R)) := by
      obtain ⟨⟨k, g1, g2, g3⟩, g4⟩ := h1
      exact ⟨⟨k, ⟨fun _ => none, k, hA n, g1, ⟨(fun _ _ h => by cases h), (fun _ _ h => h), (fun _ => .inl rfl)⟩⟩, g2, g3⟩, g4⟩
    refine Sat.mkast ?_
    rw [List.range_succ, List.map_append, List.append_assoc]
    exact h2.perm List.perm_middle.symm
def newCell (j : Nat) : Value := if j < 64 then (if j % 2 = 0 then .slice none 0 0 else .int .i64 0) else if j = 64 then .bool false else if j = 65 then .int .i64 0 else if j = 66 then .bool false else .int .i64 0
theorem newCells_get {j : Nat} (h : j < 68) : ((List.range 68).map newCell)[j]? = some (newCell j) := by simp [h]
theorem new_spec (hs : Sat H S R) {K : Value → Heap → Prop} (hk : ∀ d H', Sat H' S (dsk d Dk.new :: R) → K (.pointer (some ⟨d, 0, none⟩)) H') : CallsH Tryz.prog 10 #[] H K := by
  apply vc10
  intro b h1 hf
  have e : ∀ l : List Value, l = (List.range 68).map newCell → Sat h1 S (blk b (.cells l.toArray 92) :: R) → Sat h1 S (lst b 92 ((List.range 68).map newCell) :: R) := fun l hl h => by rw [hl] at h; exact h
  have hs1 := e _ (by rfl) (hs.fresh hf)
  refine hk b h1 (dsk_shut (vs := fun _ => ⟨none, 0, 0⟩) ⟨by simp, fun i hi => ?_, fun i hi => ?_, by rfl, ⟨by rfl, by decide⟩, by rfl, ⟨0, by rfl⟩, fun i hi => by simp [Dk.new]⟩ (fun i hi => by simp [Dk.new]) (bigA_new (fun i => ⟨by simp [Dk.new, bv], .inl ⟨rfl, by simp [Dk.new, bv]⟩⟩) hs1).swap)
  · rw [newCells_get (by omega)]
    simp only [newCell]
    rw [if_pos (by omega), if_pos (by omega)]
  · rw [newCells_get (by omega)]
    simp only [newCell]
    rw [if_pos (by omega), if_neg (by omega)]
    rfl
end
end Go.Sx.Tryz
namespace Go.Sx.Tryz
open Go Go.Sx Go.Proofs
set_option maxRecDepth 100000
set_option linter.unusedVariables false
noncomputable def c98 : Code := (Tryz.f98.body).getD .skip
def a98 : Ann := (.seq .leaf (.seq .leaf (.seq .leaf .leaf)))
theorem ok98 : okC tab 18 true c98 a98 = true := by kernel_rfl
theorem vc98 (j_b j_o : Nat) (e_ : Int) (h : Heap) (R : Value → Heap → Prop)
  (hv : ∃ t1 : Bool, cellH h j_b (j_o + 9) = some (.bool t1) ∧
   CondP t1 (
   CanSt h j_b (j_o + 9) [.bool true] ∧ ∀ h1, Stored h j_b (j_o + 9) [.bool true] h1 →
   R (.bool ((e_ : Int) == 0)) h1) (
   CanSt h j_b (j_o + 9) [.bool ((e_ : Int) != 0)] ∧ ∀ h2, Stored h j_b (j_o + 9) [.bool ((e_ : Int) != 0)] h2 →
   R (.bool ((e_ : Int) == 0)) h2)) :
  CallsH Tryz.prog 98 #[.pointer (some ⟨j_b, j_o, none⟩), .int .i64 e_] h R :=
  calls_of_vc tabOk mixed Tryz.func98 (c := c98) (by kernel_rfl) (n := 18) rfl (rs := [.tmp 4]) (by kernel_rfl) ok98 (args := [.pointer (some ⟨j_b, j_o, none⟩), .int .i64 e_]) (Nat.le_of_ble_eq_true rfl) (Eq.mpr (by kernel_rfl) hv)
end Go.Sx.Tryz
namespace Go.Sx.Tryz
open Go Go.Sx Go.Proofs
set_option maxRecDepth 100000
set_option linter.unusedVariables false
noncomputable def c92 : Code := (Tryz.f92.body).getD .skip
def a92 : Ann := (.seq .leaf (.seq .leaf .leaf))
theorem ok92 : okC tab 12 true c92 a92 = true := by kernel_rfl
theorem vc92 (j_b j_o : Nat) (h : Heap) (R : Value → Heap → Prop)
  (hv : ∃ p1 : Option Addr, cellH h j_b j_o = some (.pointer p1) ∧
   R (.bool p1.isNone) h) :
  CallsH Tryz.prog 92 #[.pointer (some ⟨j_b, j_o, none⟩)] h R :=
  calls_of_vc tabOk mixed Tryz.func92 (c := c92) (by kernel_rfl) (n := 12) rfl (rs := [.tmp 2]) (by kernel_rfl) ok92 (args := [.pointer (some ⟨j_b, j_o, none⟩)]) (Nat.le_of_ble_eq_true rfl) (Eq.mpr (by kernel_rfl) hv)
end Go.Sx.Tryz
namespace Go.Sx.Tryz
open Go Go.Sx Go.Proofs
set_option maxRecDepth 100000
set_option linter.unusedVariables false
noncomputable def c77 : Code := (Tryz.f77.body).getD .skip
def a77 : Ann := (.seq .leaf (.seq (.inn (.seq .leaf (.br (.seq .leaf .leaf) (.seq .leaf (.br (.seq .leaf .leaf) .leaf))))) (.seq .leaf .leaf)))
theorem ok77 : okC tab 11 true c77 a77 = true := by kernel_rfl
theorem vc77 (j_b j_o : Nat) (h : Heap) (R : Value → Heap → Prop)
  (hv : CallsH Tryz.prog 92 #[.pointer (some ⟨j_b, j_o, none⟩)] h (fun r1 h1 => ∃ t1 : Bool, r1 = .bool t1 ∧
   CondP t1 (
   R (.int .i64 1) h1) (
   ∃ t2 : Bool, cellH h1 j_b (j_o + 9) = some (.bool t2) ∧
   CondP t2 (
   R (.int .i64 70) h1) (
   R (.int .i64 0) h1)))) :
  CallsH Tryz.prog 77 #[.pointer (some ⟨j_b, j_o, none⟩)] h R :=
  calls_of_vc tabOk mixed Tryz.func77 (c := c77) (by kernel_rfl) (n := 11) rfl (rs := [.tmp 2]) (by kernel_rfl) ok77 (args := [.pointer (some ⟨j_b, j_o, none⟩)]) (Nat.le_of_ble_eq_true rfl) (Eq.mpr (by kernel_rfl) hv)
end Go.Sx.Tryz
namespace Go.Sx.Tryz
open Go Go.Sx Go.Proofs
set_option maxRecDepth 100000
set_option linter.unusedVariables false
noncomputable def c91 : Code := (Tryz.f91.body).getD .skip
def a91 : Ann := (.seq .leaf (.seq (.seq .leaf (.br (.seq .leaf .leaf) .leaf)) (.seq .leaf .leaf)))
theorem ok91 : okC tab 7 true c91 a91 = true := by kernel_rfl
theorem vc91 (j_b j_o : Nat) (h : Heap) (R : Value → Heap → Prop)
  (hv : ∃ t1 : Bool, cellH h j_b (j_o + 9) = some (.bool t1) ∧
   CondP t1 (
   R (.int .i64 70) h) (
   R (.int .i64 0) h)) :
  CallsH Tryz.prog 91 #[.pointer (some ⟨j_b, j_o, none⟩)] h R :=
  calls_of_vc tabOk mixed Tryz.func91 (c := c91) (by kernel_rfl) (n := 7) rfl (rs := [.tmp 2]) (by kernel_rfl) ok91 (args := [.pointer (some ⟨j_b, j_o, none⟩)]) (Nat.le_of_ble_eq_true rfl) (Eq.mpr (by kernel_rfl) hv)
end Go.Sx.Tryz
namespace Go.Sx.Tryz
open Go Go.Sx Go.Proofs
set_option maxRecDepth 100000
set_option linter.unusedVariables false
noncomputable def c85 : Code := (Tryz.f85.body).getD .skip
def a85 : Ann := (.seq .leaf (.seq (.reg (.q 0 (.q 1 (.q 2 (.q 3 (.q 4 (.q 5 (.q 6 (.q 7 (.q 8 (.q 9 (.q 10 (.q 11 (.q 12 (.q 13 (.fin)))))))))))))))) .leaf))
theorem ok85 : okC tab 16 true c85 a85 = true := by kernel_rfl
theorem vc85 (j_b j_o : Nat) (h : Heap) (R : Value → Heap → Prop)
  (hv : ∃ x1 : Sl, cellH h j_b (j_o + 8) = some (.slice x1.a x1.l x1.c) ∧
   ∃ x2 : Sl, cellH h j_b (j_o + 8) = some (.slice x2.a x2.l x2.c) ∧
   ((0 : Int) ≤ IntKind.i64.wrap (((x2.l : Nat) : Int) - 1) ∧ (IntKind.i64.wrap (((x2.l : Nat) : Int) - 1) : Int) < ((x1.l : Nat) : Int)) ∧
   NilP x1.a (fun b1 o1 =>
   ∃ n1 : Int, cellH h b1 (o1 + ((IntKind.i64.wrap (((x2.l : Nat) : Int) - 1)).toNat) * 5) = some (.int .i64 n1) ∧
   R (.int .i64 n1) h)) :
  CallsH Tryz.prog 85 #[.pointer (some ⟨j_b, j_o, none⟩)] h R :=
  calls_of_vc tabOk mixed Tryz.func85 (c := c85) (by kernel_rfl) (n := 16) rfl (rs := [.tmp 2]) (by kernel_rfl) ok85 (args := [.pointer (some ⟨j_b, j_o, none⟩)]) (Nat.le_of_ble_eq_true rfl) (Eq.mpr (by kernel_rfl) hv)
end Go.Sx.Tryz
namespace Go.Sx.Tryz
open Go Go.Sx Go.Proofs
set_option maxRecDepth 100000
set_option linter.unusedVariables false
noncomputable def c86 : Code := (Tryz.f86.body).getD .skip
def a86 : Ann := (.seq .leaf (.seq (.seq .leaf (.join [(24, .one (.b))] .leaf (.br (.seq .leaf .leaf) .leaf))) (.seq (.seq .leaf (.inn (.loop [(2, .one (.sl)), (4, .one (.p))] (.seq (.seq (.reg (.q 0 (.q 1 (.q 2 (.q 3 (.q 4 (.q 5 (.q 6 (.q 7 (.q 8 (.q 9 (.q 10 (.fin))))))))))))) (.br .leaf .leaf)) (.seq (.inn (.seq .leaf (.br .leaf .leaf))) (.seq (.seq .leaf .leaf) .leaf)))))) (.seq .leaf .leaf))))
theorem ok86 : okC tab 55 true c86 a86 = true := by kernel_rfl
theorem vc86 (j_b j_o : Nat) (h : Heap) (R : Value → Heap → Prop)
  (hv : ∃ x1 : Sl, cellH h j_b (j_o + 8) = some (.slice x1.a x1.l x1.c) ∧
   ∃ J1 : Bool → Heap → Prop, (∀ t1 : Bool, ∀ h1, J1 t1 h1 → ∀ _ : Env,
   CondP t1 (
   R (.slice none 0 0) h1) (
   ∃ n1 : Int, cellH h1 j_b (j_o + 1) = some (.int .i64 n1) ∧
   ∀ b1 h2, Fresh h1 (.cells #[.int .i64 0] 3) b1 h2 →
   CanSt h2 b1 0 [.int .i64 n1] ∧ ∀ h3, Stored h2 b1 0 [.int .i64 n1] h3 →
   ∃ (I1 : Sl → Option Addr → Heap → Prop) (mu1 : Sl → Option Addr → Heap → Nat), I1 ⟨none, 0, 0⟩ (some ⟨b1, 0, none⟩) h3 ∧ (∀ x2 : Sl, ∀ p1 : Option Addr, ∀ h4, I1 x2 p1 h4 → ∀ _ : Env,
   NilP p1 (fun b2 o1 =>
   ∃ n2 : Int, cellH h4 b2 o1 = some (.int .i64 n2) ∧
   ∃ n3 : Int, cellH h4 j_b (j_o + 1) = some (.int .i64 n3) ∧
   ∃ n4 : Int, cellH h4 j_b (j_o + 2) = some (.int .i64 n4) ∧
   CondP (decide ((n2 : Int) < (IntKind.i64.wrap (n3 + n4)))) (
   ∃ x3 : Sl, cellH h4 j_b (j_o + 8) = some (.slice x3.a x3.l x3.c) ∧
   CallsH Tryz.prog 125 #[.slice x3.a x3.l x3.c, .func (.func 126) #[] #[.pointer p1]] h4 (fun r1 h5 => ∃ t2 : Bool, r1 = .bool t2 ∧
   CondP (!t2) (
   NilP p1 (fun b3 o2 =>
   ∃ n5 : Int, cellH h5 b3 o2 = some (.int .i64 n5) ∧
   ∀ b4 h6, Fresh h5 (.cells #[.int .i64 n5] 3) b4 h6 →
   RunK Tryz.prog (.sl) (Builtin.append_ #[45, 45] 45 #[.slice x2.a x2.l x2.c, .slice (some ⟨b4, 0, none⟩) 1 1]) h6 (fun x4 h7 =>
   NilP p1 (fun b5 o3 =>
   ∃ n6 : Int, cellH h7 b5 o3 = some (.int .i64 n6) ∧
   ∀ b6 h8, Fresh h7 (.cells #[.int .i64 0] 3) b6 h8 →
   CanSt h8 b6 0 [.int .i64 n6] ∧ ∀ h9, Stored h8 b6 0 [.int .i64 n6] h9 →
   ∃ n7 : Int, cellH h9 b6 0 = some (.int .i64 n7) ∧
   CanSt h9 b6 0 [.int .i64 (IntKind.i64.wrap (n7 + 1))] ∧ ∀ h10, Stored h9 b6 0 [.int .i64 (IntKind.i64.wrap (n7 + 1))] h10 →
   I1 x4 (some ⟨b6, 0, none⟩) h10 ∧ mu1 x4 (some ⟨b6, 0, none⟩) h10 < mu1 x2 p1 h4)))) (
   NilP p1 (fun b7 o4 =>
   ∃ n8 : Int, cellH h5 b7 o4 = some (.int .i64 n8) ∧
   ∀ b8 h11, Fresh h5 (.cells #[.int .i64 0] 3) b8 h11 →
   CanSt h11 b8 0 [.int .i64 n8] ∧ ∀ h12, Stored h11 b8 0 [.int .i64 n8] h12 →
   ∃ n9 : Int, cellH h12 b8 0 = some (.int .i64 n9) ∧
   CanSt h12 b8 0 [.int .i64 (IntKind.i64.wrap (n9 + 1))] ∧ ∀ h13, Stored h12 b8 0 [.int .i64 (IntKind.i64.wrap (n9 + 1))] h13 →
   I1 x2 (some ⟨b8, 0, none⟩) h13 ∧ mu1 x2 (some ⟨b8, 0, none⟩) h13 < mu1 x2 p1 h4)))) (
   R (.slice x2.a x2.l x2.c) h4))))) ∧
   CondP (decide ((((x1.l : Nat) : Int) : Int) > 0)) (
   ∃ x5 : Sl, cellH h j_b (j_o + 8) = some (.slice x5.a x5.l x5.c) ∧
   ((0 : Int) ≤ IntKind.i64.wrap (((x1.l : Nat) : Int) - 1) ∧ (IntKind.i64.wrap (((x1.l : Nat) : Int) - 1) : Int) < ((x5.l : Nat) : Int)) ∧
   NilP x5.a (fun b9 o5 =>
   ∃ n10 : Int, cellH h b9 (o5 + ((IntKind.i64.wrap (((x1.l : Nat) : Int) - 1)).toNat) * 5 + 1) = some (.int .u64 n10) ∧
   J1 (decide ((n10 : Int) ≥ 4611686018427387904)) h)) (
   J1 false h)) :
  CallsH Tryz.prog 86 #[.pointer (some ⟨j_b, j_o, none⟩)] h R :=
  calls_of_vc tabOk mixed Tryz.func86 (c := c86) (by kernel_rfl) (n := 55) rfl (rs := [.tmp 2]) (by kernel_rfl) ok86 (args := [.pointer (some ⟨j_b, j_o, none⟩)]) (Nat.le_of_ble_eq_true rfl) (Eq.mpr (by kernel_rfl) hv)
end Go.Sx.Tryz
namespace Go.Sx.Tryz
open Go Go.Sx Go.Proofs
set_option maxRecDepth 100000
set_option linter.unusedVariables false
noncomputable def c125 : Code := (Tryz.f125.body).getD .skip
def a125 : Ann := (.seq .leaf (.seq .leaf .leaf))
theorem ok125 : okC tab 9 true c125 a125 = true := by kernel_rfl
theorem vc125 (s_ : Sl) (f_ : Value) (h : Heap) (R : Value → Heap → Prop)
  (hv : CallsH Tryz.prog 163 #[.slice s_.a s_.l s_.c, f_] h (fun r1 h1 => ∃ n1 : Int, r1 = .int .i64 n1 ∧
   R (.bool (decide ((n1 : Int) ≥ 0))) h1)) :
  CallsH Tryz.prog 125 #[.slice s_.a s_.l s_.c, f_] h R :=
  calls_of_vc tabOk mixed Tryz.func125 (c := c125) (by kernel_rfl) (n := 9) rfl (rs := [.tmp 4]) (by kernel_rfl) ok125 (args := [.slice s_.a s_.l s_.c, f_]) (Nat.le_of_ble_eq_true rfl) (Eq.mpr (by kernel_rfl) hv)
end Go.Sx.Tryz
namespace Go.Sx.Tryz
open Go Go.Sx Go.Proofs
set_option maxRecDepth 100000
set_option linter.unusedVariables false
noncomputable def c163 : Code := (Tryz.f163.body).getD .skip
def a163 : Ann := (.seq .leaf (.seq (.seq .leaf (.inn (.loop [(8, .one (.i .i64))] (.seq .leaf (.seq (.br .leaf .leaf) (.seq (.inn (.seq .leaf (.seq .leaf (.br (.seq .leaf .leaf) .leaf)))) .leaf)))))) (.seq .leaf .leaf)))
theorem ok163 : okC tab 19 true c163 a163 = true := by kernel_rfl
theorem vc163 (s_ : Sl) (f_ : Value) (h : Heap) (R : Value → Heap → Prop)
  (hv : ∃ (I1 : Int → Heap → Prop) (mu1 : Int → Heap → Nat), I1 0 h ∧ (∀ n1 : Int, ∀ h1, I1 n1 h1 → ∀ _ : Env,
   CondP (decide ((n1 : Int) < ((s_.l : Nat) : Int))) (
   ((0 : Int) ≤ n1 ∧ (n1 : Int) < ((s_.l : Nat) : Int)) ∧
   NilP s_.a (fun b1 o1 =>
   ∃ n2 : Int, ∃ n3 : Int, ∃ t1 : Bool, ∃ n4 : Int, ∃ n5 : Int, CellsAt h1 b1 (o1 + n1.toNat * 5) [.int .i64 n2, .int .u64 n3, .bool t1, .int .u64 n4, .int .u64 n5] ∧
   CallV Tryz.prog f_ [.agg #[.int .i64 n2, .int .u64 n3, .bool t1, .int .u64 n4, .int .u64 n5]] h1 (fun r1 h2 => ∃ t2 : Bool, r1 = .bool t2 ∧
   CondP t2 (
   R (.int .i64 n1) h2) (
   I1 (IntKind.i64.wrap (n1 + 1)) h2 ∧ mu1 (IntKind.i64.wrap (n1 + 1)) h2 < mu1 n1 h1)))) (
   R (.int .i64 (-1)) h1))) :
  CallsH Tryz.prog 163 #[.slice s_.a s_.l s_.c, f_] h R :=
  calls_of_vc tabOk mixed Tryz.func163 (c := c163) (by kernel_rfl) (n := 19) rfl (rs := [.tmp 4]) (by kernel_rfl) ok163 (args := [.slice s_.a s_.l s_.c, f_]) (Nat.le_of_ble_eq_true rfl) (Eq.mpr (by kernel_rfl) hv)
end Go.Sx.Tryz
namespace Go.Sx.Tryz
open Go Go.Sx Go.Proofs
set_option maxRecDepth 100000
set_option linter.unusedVariables false
noncomputable def c126 : Code := (Tryz.f126.body).getD .skip
def a126 : Ann := (.seq .leaf (.seq .leaf .leaf))
theorem ok126 : okC tab 8 true c126 a126 = true := by kernel_rfl
theorem vc126 (s_0 : Int) (s_1 : Int) (s_2 : Bool) (s_3 : Int) (s_4 : Int) (c0_b c0_o : Nat) (h : Heap) (R : Value → Heap → Prop)
  (hv : ∀ b1 h1, Fresh h (.cells #[.int .i64 s_0, .int .u64 s_1, .bool s_2, .int .u64 s_3, .int .u64 s_4] 107) b1 h1 →
   ∃ n1 : Int, cellH h1 b1 0 = some (.int .i64 n1) ∧
   ∃ n2 : Int, cellH h1 c0_b c0_o = some (.int .i64 n2) ∧
   R (.bool ((n1 : Int) == n2)) h1) :
  CallsH Tryz.prog 126 #[.agg #[.int .i64 s_0, .int .u64 s_1, .bool s_2, .int .u64 s_3, .int .u64 s_4], .pointer (some ⟨c0_b, c0_o, none⟩)] h R :=
  calls_of_vc tabOk mixed Tryz.func126 (c := c126) (by kernel_rfl) (n := 8) rfl (rs := [.tmp 3]) (by kernel_rfl) ok126 (args := [.agg #[.int .i64 s_0, .int .u64 s_1, .bool s_2, .int .u64 s_3, .int .u64 s_4], .pointer (some ⟨c0_b, c0_o, none⟩)]) (Nat.le_of_ble_eq_true rfl) (Eq.mpr (by kernel_rfl) hv)
end Go.Sx.Tryz
namespace Go.Sx.Tryz
open Go Go.Sx Go.Proofs
set_option maxRecDepth 100000
set_option linter.unusedVariables false
noncomputable def c87 : Code := (Tryz.f87.body).getD .skip
def a87 : Ann := (.seq .leaf (.seq .leaf .leaf))
theorem ok87 : okC tab 26 true c87 a87 = true := by kernel_rfl
theorem vc87 (j_b j_o : Nat) (file_ : Int) (b_ : Sl) (h : Heap) (R : Value → Heap → Prop)
  (hv : ∃ p1 : Option Addr, cellH h j_b j_o = some (.pointer p1) ∧
   CallsH Tryz.prog 121 #[.pointer p1, .int .i64 file_, .slice b_.a b_.l b_.c] h (fun r1 h1 => ∃ n1 : Int, r1 = .int .i64 n1 ∧
   CallsH Tryz.prog 98 #[.pointer (some ⟨j_b, j_o, none⟩), .int .i64 n1] h1 (fun r2 h2 => ∃ t1 : Bool, r2 = .bool t1 ∧
   CondP t1 (
   ∃ p2 : Option Addr, cellH h2 j_b j_o = some (.pointer p2) ∧
   CallsH Tryz.prog 102 #[.pointer p2, .int .i64 file_] h2 (fun r3 h3 => ∃ n2 : Int, r3 = .int .i64 n2 ∧
   CallsH Tryz.prog 98 #[.pointer (some ⟨j_b, j_o, none⟩), .int .i64 n2] h3 (fun r4 h4 => ∃ t2 : Bool, r4 = .bool t2 ∧
   R (.bool t2) h4))) (
   R (.bool false) h2)))) :
  CallsH Tryz.prog 87 #[.pointer (some ⟨j_b, j_o, none⟩), .int .i64 file_, .slice b_.a b_.l b_.c] h R :=
  calls_of_vc tabOk mixed Tryz.func87 (c := c87) (by kernel_rfl) (n := 26) rfl (rs := [.tmp 6]) (by kernel_rfl) ok87 (args := [.pointer (some ⟨j_b, j_o, none⟩), .int .i64 file_, .slice b_.a b_.l b_.c]) (Nat.le_of_ble_eq_true rfl) (Eq.mpr (by kernel_rfl) hv)
end Go.Sx.Tryz
namespace Go.Sx.Tryz
open Go Go.Sx Go.Proofs
set_option maxRecDepth 100000
set_option linter.unusedVariables false
noncomputable def c49 : Code := (Tryz.f49.body).getD .skip
def a49 : Ann := (.seq .leaf (.seq (.seq .leaf (.br (.seq .leaf .leaf) .leaf)) (.seq (.reg (.q 0 (.q 1 (.q 2 (.q 3 (.q 4 (.q 5 (.q 6 (.q 7 (.q 8 (.q 9 (.q 10 (.q 11 (.q 12 (.q 13 (.fin)))))))))))))))) .leaf)))
theorem ok49 : okC tab 18 true c49 a49 = true := by kernel_rfl
theorem vc49 (j_b j_o : Nat) (h : Heap) (R : Value → Heap → Prop)
  (hv : CallsH Tryz.prog 92 #[.pointer (some ⟨j_b, j_o, none⟩)] h (fun r1 h1 => ∃ t1 : Bool, r1 = .bool t1 ∧
   CondP t1 (
   R (.tuple #[.int .u64 0, .int .u64 0]) h1) (
   ∃ n1 : Int, cellH h1 j_b (j_o + 4) = some (.int .u64 n1) ∧
   ∃ n2 : Int, cellH h1 j_b (j_o + 4 + 1) = some (.int .u64 n2) ∧
   R (.tuple #[.int .u64 n1, .int .u64 n2]) h1))) :
  CallsH Tryz.prog 49 #[.pointer (some ⟨j_b, j_o, none⟩)] h R :=
  calls_of_vc tabOk mixed Tryz.func49 (c := c49) (by kernel_rfl) (n := 18) rfl (rs := [.tmp 2, .tmp 3]) (by kernel_rfl) ok49 (args := [.pointer (some ⟨j_b, j_o, none⟩)]) (Nat.le_of_ble_eq_true rfl) (Eq.mpr (by kernel_rfl) hv)
end Go.Sx.Tryz
namespace Go.Sx.Tryz
open Go Go.Sx Go.Proofs
set_option maxRecDepth 100000
set_option linter.unusedVariables false
noncomputable def c50 : Code := (Tryz.f50.body).getD .skip
def a50 : Ann := (.seq .leaf (.seq (.seq .leaf (.br (.seq .leaf .leaf) .leaf)) (.seq .leaf (.seq (.reg (.q 0 (.q 1 (.q 2 (.q 3 (.q 4 (.q 5 (.fin)))))))) .leaf))))
theorem ok50 : okC tab 15 true c50 a50 = true := by kernel_rfl
theorem vc50 (j_b j_o : Nat) (h : Heap) (R : Value → Heap → Prop)
  (hv : CallsH Tryz.prog 92 #[.pointer (some ⟨j_b, j_o, none⟩)] h (fun r1 h1 => ∃ t1 : Bool, r1 = .bool t1 ∧
   CondP t1 (
   R (.tuple #[.int .u64 0, .int .u64 0]) h1) (
   CallsH Tryz.prog 78 #[.pointer (some ⟨j_b, j_o + 4, none⟩)] h1 (fun r2 h2 => ∃ n1 : Int, ∃ n2 : Int, ∃ x1 : Sl, r2 = .agg #[.int .u64 n1, .int .u64 n2, .slice x1.a x1.l x1.c] ∧
   ∀ b1 h3, Fresh h2 (.cells #[.int .u64 0, .int .u64 0, .slice none 0 0] 85) b1 h3 →
   CanSt h3 b1 0 [.int .u64 n1, .int .u64 n2, .slice x1.a x1.l x1.c] ∧ ∀ h4, Stored h3 b1 0 [.int .u64 n1, .int .u64 n2, .slice x1.a x1.l x1.c] h4 →
   ∃ n3 : Int, cellH h4 b1 0 = some (.int .u64 n3) ∧
   ∃ n4 : Int, cellH h4 b1 1 = some (.int .u64 n4) ∧
   R (.tuple #[.int .u64 n3, .int .u64 n4]) h4)))) :
  CallsH Tryz.prog 50 #[.pointer (some ⟨j_b, j_o, none⟩)] h R :=
  calls_of_vc tabOk mixed Tryz.func50 (c := c50) (by kernel_rfl) (n := 15) rfl (rs := [.tmp 2, .tmp 3]) (by kernel_rfl) ok50 (args := [.pointer (some ⟨j_b, j_o, none⟩)]) (Nat.le_of_ble_eq_true rfl) (Eq.mpr (by kernel_rfl) hv)
end Go.Sx.Tryz
namespace Go.Sx.Tryz
open Go Go.Sx Go.Proofs
set_option maxRecDepth 100000
set_option linter.unusedVariables false
noncomputable def c53 : Code := (Tryz.f53.body).getD .skip
def a53 : Ann := (.seq .leaf (.seq .leaf .leaf))
theorem ok53 : okC tab 12 true c53 a53 = true := by kernel_rfl
theorem vc53 (j_b j_o : Nat) (h : Heap) (R : Value → Heap → Prop)
  (hv : CallsH Tryz.prog 92 #[.pointer (some ⟨j_b, j_o, none⟩)] h (fun r1 h1 => ∃ t1 : Bool, r1 = .bool t1 ∧
   CondP (!t1) (
   ∃ t2 : Bool, cellH h1 j_b (j_o + 9) = some (.bool t2) ∧
   R (.bool t2) h1) (
   R (.bool false) h1))) :
  CallsH Tryz.prog 53 #[.pointer (some ⟨j_b, j_o, none⟩)] h R :=
  calls_of_vc tabOk mixed Tryz.func53 (c := c53) (by kernel_rfl) (n := 12) rfl (rs := [.tmp 2]) (by kernel_rfl) ok53 (args := [.pointer (some ⟨j_b, j_o, none⟩)]) (Nat.le_of_ble_eq_true rfl) (Eq.mpr (by kernel_rfl) hv)
end Go.Sx.Tryz
namespace Go.Sx.Tryz
open Go Go.Sx Go.Proofs
set_option linter.unusedVariables false
structure Seg where
  file : Nat
  head : Hd
def segV1 (x : Seg) : List Value := .int .i64 (x.file : Int) :: hdV x.head
def segV (l : List Seg) : List Value := l.flatMap segV1
theorem segV1_len (x : Seg) : (segV1 x).length = 5 := rfl
theorem segV_len (l : List Seg) : (segV l).length = l.length * 5 := flat_len segV1_len l
def ownS (v : Sl) (l : List Seg) : Asn := own 107 5 v (segV l)
structure Jn where
  d : Nat
  first : Nat
  many : Nat
  each : Nat
  log : Lg
  segs : List Seg
  broken : Bool
def jcs (J : Jn) (ve vs : Sl) : List Value := [.pointer (some ⟨J.d, 0, none⟩), .int .i64 (J.first : Int), .int .i64 (J.many : Int), .int .i64 (J.each : Int)] ++ lgV J.log.fi J.log.ft ve ++ [.slice vs.a vs.l vs.c, .bool J.broken]
def jA (jb : Nat) (J : Jn) : Asn := exs fun x : Sl × Sl => st (lst jb 97 (jcs J x.1 x.2)) (st (ownE x.1 J.log.es) (ownS x.2 J.segs))
section
variable {H H' : Heap} {S : PH} {R : List Asn} {jb : Nat} {J : Jn}
theorem jA_open (hs : Sat H S (jA jb J :: R)) : ∃ ve vs, Sat H S (lst jb 97 (jcs J ve vs) :: ownE ve J.log.es :: ownS vs J.segs :: R) := by
  obtain ⟨⟨ve, vs⟩, hs⟩ := hs.open
  exact ⟨ve, vs, (hs.unst.swap.unst).sel [2]⟩
theorem jA_shut {ve vs : Sl} (hs : Sat H S (lst jb 97 (jcs J ve vs) :: ownE ve J.log.es :: ownS vs J.segs :: R)) : Sat H S (jA jb J :: R) := by
  refine Sat.shut (A := fun x : Sl × Sl => st (lst jb 97 (jcs J x.1 x.2)) (st (ownE x.1 J.log.es) (ownS x.2 J.segs))) (ve, vs) ?_
  exact ((hs.sel [1, 1]).mkst.swap).mkst
theorem ownS.len {v : Sl} {l : List Seg} (h : Sat H S (ownS v l :: R)) : v.l = l.length ∧ v.l ≤ v.c := by
  obtain ⟨h1, h2⟩ := own.len h
  rw [segV_len] at h1
  exact ⟨by omega, h2⟩
theorem ownS.at {v : Sl} {l : List Seg} (h : Sat H S (ownS v l :: R)) {k : Nat} (hk : k < l.length) : ∃ g, v.a = some ⟨g, 0, none⟩ ∧ CellsAt H g (0 + k * 5) (segV1 l[k]) := by
  obtain ⟨g, h1, h2⟩ := own.cells h (by rw [segV_len]; omega)
  have := cells_sub h2 (k * 5) 5
  rw [segV, flat_at segV1_len hk] at this
  exact ⟨g, h1, this⟩
def Jn.note (J : Jn) (e : Nat) : Jn := { J with broken := J.broken || e != 0 }
theorem done_spec {e : Nat} (hs : Sat H S (jA jb J :: R)) {K : Value → Heap → Prop} (hK : ∀ H', Sat H' S (jA jb (J.note e) :: R) → K (.bool (e == 0)) H') : CallsH Tryz.prog 98 #[.pointer (some ⟨jb, 0, none⟩), .int .i64 (e : Int)] H K := by
  apply vc98
  obtain ⟨ve, vs, hs1⟩ := jA_open hs
  have eb : ((e : Int) == 0) = (e == 0) := by have := beq_nat_int e 0; simpa using this
  have en : ((e : Int) != 0) = (e != 0) := by show (!((e : Int) == 0)) = !(e == 0); rw [eb]
  rw [eb, en]
  refine ⟨_, hs1.cell 9 rfl, CondP.of (fun hc => ?_) (fun hc => ?_)⟩
  · refine hs1.store (by simp [jcs, lgV]) fun h1 hs2 => hK h1 (jA_shut (J := J.note e) (ve := ve) (vs := vs) ?_)
    have e1 : (J.note e).broken = true := by show (J.broken || _) = true; rw [hc]; rfl
    show Sat h1 S (lst jb 97 (jcs (J.note e) ve vs) :: _)
    have e2 : jcs (J.note e) ve vs = putL (jcs J ve vs) 9 [.bool true] := by
      unfold jcs
      rw [e1]; rfl
    rw [e2]; exact hs2
  · refine hs1.store (by simp [jcs, lgV]) fun h1 hs2 => hK h1 (jA_shut (J := J.note e) (ve := ve) (vs := vs) ?_)
    have e1 : (J.note e).broken = (e != 0) := by show (J.broken || _) = _; rw [hc]; rfl
    have e2 : jcs (J.note e) ve vs = putL (jcs J ve vs) 9 [.bool (e != 0)] := by
      unfold jcs
      rw [e1]; rfl
    rw [e2]; exact hs2
theorem none_spec (hs : Sat H S (jA jb J :: R)) {K : Value → Heap → Prop} (hK : K (.bool false) H) : CallsH Tryz.prog 92 #[.pointer (some ⟨jb, 0, none⟩)] H K := by
  apply vc92
  obtain ⟨ve, vs, hs1⟩ := jA_open hs
  exact ⟨_, hs1.cell 0 rfl, hK⟩
theorem ready_spec (hs : Sat H S (jA jb J :: R)) {K : Value → Heap → Prop} (hK : K (.int .i64 ((if J.broken = true then 70 else 0 : Nat) : Int)) H) : CallsH Tryz.prog 77 #[.pointer (some ⟨jb, 0, none⟩)] H K := by
  apply vc77
  refine none_spec hs ⟨_, rfl, CondP.of (fun hc => by cases hc) fun _ => ?_⟩
  obtain ⟨ve, vs, hs1⟩ := jA_open hs
  exact ⟨_, hs1.cell 9 rfl, CondP.of (fun hc => by rw [if_pos hc] at hK; exact hK) fun hc => by rw [if_neg (by rw [hc]; simp)] at hK; exact hK⟩
theorem answer_spec (hs : Sat H S (jA jb J :: R)) {K : Value → Heap → Prop} (hK : K (.int .i64 ((if J.broken = true then 70 else 0 : Nat) : Int)) H) : CallsH Tryz.prog 91 #[.pointer (some ⟨jb, 0, none⟩)] H K := by
  apply vc91
  obtain ⟨ve, vs, hs1⟩ := jA_open hs
  exact ⟨_, hs1.cell 9 rfl, CondP.of (fun hc => by rw [if_pos hc] at hK; exact hK) fun hc => by rw [if_neg (by rw [hc]; simp)] at hK; exact hK⟩
theorem broken_spec (hs : Sat H S (jA jb J :: R)) {K : Value → Heap → Prop} (hK : K (.bool J.broken) H) : CallsH Tryz.prog 53 #[.pointer (some ⟨jb, 0, none⟩)] H K := by
  apply vc53
  refine none_spec hs ⟨_, rfl, CondP.of (fun _ => ?_) fun hc => by cases hc⟩
  obtain ⟨ve, vs, hs1⟩ := jA_open hs
  exact ⟨_, hs1.cell 9 rfl, hK⟩
theorem floor_spec (hs : Sat H S (jA jb J :: R)) {K : Value → Heap → Prop} (hK : K (.tuple #[.int .u64 (J.log.fi : Int), .int .u64 (J.log.ft : Int)]) H) : CallsH Tryz.prog 49 #[.pointer (some ⟨jb, 0, none⟩)] H K := by
  apply vc49
  refine none_spec hs ⟨_, rfl, CondP.of (fun hc => by cases hc) fun _ => ?_⟩
  obtain ⟨ve, vs, hs1⟩ := jA_open hs
  exact ⟨_, hs1.cell 4 rfl, _, hs1.cell 5 rfl, hK⟩
theorem lastJ_spec (hs : Sat H S (jA jb J :: R)) (hlen : J.log.es.length < 1000000000) {K : Value → Heap → Prop} (hK : ∀ H', Sat H' S (jA jb J :: R) → K (.tuple #[.int .u64 (J.log.last.1.i : Int), .int .u64 (J.log.last.1.t : Int)]) H') : CallsH Tryz.prog 50 #[.pointer (some ⟨jb, 0, none⟩)] H K := by
  apply vc50
  refine none_spec hs ⟨_, rfl, CondP.of (fun hc => by cases hc) fun _ => ?_⟩
  obtain ⟨ve, vs, hs1⟩ := jA_open hs
  refine last_spec (pre := [.pointer (some ⟨J.d, 0, none⟩), .int .i64 (J.first : Int), .int .i64 (J.many : Int), .int .i64 (J.each : Int)]) (post := [.slice vs.a vs.l vs.c, .bool J.broken]) hs1 hlen fun h2 hs2 => ⟨_, _, _, rfl, ?_⟩
  intro b1 h3 f3
  have hs3 := hs2.fresh f3
  refine Sat.store (T := 85) (l := [.int .u64 0, .int .u64 0, .slice none 0 0]) hs3 (Nat.le_refl _) fun h4 hs4 => ?_
  have hs4 : Sat h4 S (lst b1 85 (eV J.log.last) :: lst jb 97 (jcs J ve vs) :: ownE ve J.log.es :: ownS vs J.segs :: R) := hs4
  exact ⟨_, hs4.cell 0 rfl, _, hs4.cell 1 rfl, hK h4 (jA_shut hs4.drop)⟩
theorem current_spec (hs : Sat H S (jA jb J :: R)) {k : Nat} (hk : J.segs.length = k + 1) (hlen : k < 1000000) {K : Value → Heap → Prop} (hK : K (.int .i64 ((J.segs[k]'(by omega)).file : Int)) H) : CallsH Tryz.prog 85 #[.pointer (some ⟨jb, 0, none⟩)] H K := by
  apply vc85
  obtain ⟨ve, vs, hs1⟩ := jA_open hs
  have hl := (ownS.len (hs1.pick 2 rfl)).1
  have hc := hs1.cell 8 (v := .slice vs.a vs.l vs.c) rfl
  have e : IntKind.i64.wrap (((vs.l : Nat) : Int) - 1) = (k : Int) := by rw [i64_in (by omega) (by omega)]; omega
  refine ⟨vs, hc, vs, hc, ?_⟩
  rw [e]
  obtain ⟨g, ga, gc⟩ := ownS.at (hs1.pick 2 rfl) (k := k) (by omega)
  refine ⟨⟨by omega, by omega⟩, NilP.of ga ⟨_, ?_, hK⟩⟩
  have := gc.get 0 _ rfl
  simpa using this
def Jn.write (J : Jn) (D : Dk) (f : Nat) (xs : List UInt8) : Bool × Dk × Jn :=
  let a := D.app f xs
  if a.1 = 0 then ((a.2.syn f).1 == 0, (a.2.syn f).2, (J.note a.1).note (a.2.syn f).1) else (false, a.2, J.note a.1)
theorem write_spec {D : Dk} {f : Nat} {x : Sl} {xs : List UInt8} (hf : f < 32) (hs : Sat H S (jA jb J :: dsk J.d D :: R)) (hx : RdB S x xs) (hlen : xs.length < 1000000000)
    {K : Value → Heap → Prop} (hK : ∀ H', Sat H' S (jA jb (J.write D f xs).2.2 :: dsk J.d (J.write D f xs).2.1 :: R) → K (.bool (J.write D f xs).1) H') : CallsH Tryz.prog 87 #[.pointer (some ⟨jb, 0, none⟩), .int .i64 (f : Int), .slice x.a x.l x.c] H K := by
  apply vc87
  obtain ⟨ve, vs, hs1⟩ := jA_open hs
  refine ⟨_, hs1.cell 0 rfl, ?_⟩
  refine app_spec hf hs.swap hx hlen fun h1 hs2 => ⟨_, rfl, done_spec hs2.swap fun h2 hs3 => ⟨_, rfl, CondP.of (fun hc => ?_) (fun hc => ?_)⟩⟩
  · have h0 : (D.app f xs).1 = 0 := by simpa using hc
    have e : J.write D f xs = (((D.app f xs).2.syn f).1 == 0, ((D.app f xs).2.syn f).2, (J.note (D.app f xs).1).note ((D.app f xs).2.syn f).1) := by rw [Jn.write, if_pos h0]
    obtain ⟨ve', vs', hs4⟩ := jA_open hs3
    refine ⟨_, hs4.cell 0 rfl, syn_spec hf hs3.swap fun h3 hs5 => ⟨_, rfl, done_spec hs5.swap fun h4 hs6 => ⟨_, rfl, ?_⟩⟩⟩
    have := hK h4 (by rw [e]; exact hs6)
    rw [e] at this; exact this
  · have h0 : ¬ (D.app f xs).1 = 0 := by simpa using hc
    have e : J.write D f xs = (false, (D.app f xs).2, J.note (D.app f xs).1) := by rw [Jn.write, if_neg h0]
    have := hK h2 (by rw [e]; exact hs3)
    rw [e] at this; exact this
end
end Go.Sx.Tryz
namespace Go.Sx.Tryz
open Go Go.Sx Go.Proofs
set_option linter.unusedVariables false
section
variable {H H' : Heap} {S : PH} {R : List Asn} {jb : Nat} {J : Jn}
theorem indexS_spec {v : Sl} {l : List Seg} {f : Value} {p : Seg → Bool} (hs : Sat H S (ownS v l :: R)) (hlen : l.length < 1000000)
    (hf : ∀ x ∈ l, ∀ h (K : Value → Heap → Prop), Sat h S (ownS v l :: R) → (∀ h', Sat h' S (ownS v l :: R) → K (.bool (p x)) h') → CallV Tryz.prog f [.agg (segV1 x).toArray] h K)
    {K : Value → Heap → Prop} (hK : ∀ h', Sat h' S (ownS v l :: R) → K (.bool (l.any p)) h') : CallsH Tryz.prog 125 #[.slice v.a v.l v.c, f] H K := by
  apply vc125
  apply vc163
  obtain ⟨hl, _⟩ := ownS.len hs
  refine ⟨fun n h => ∃ i : Nat, n = i ∧ i ≤ l.length ∧ (∀ j (hj : j < l.length), j < i → p l[j] = false) ∧ Sat h S (ownS v l :: R), fun n _ => l.length - n.toNat, ⟨0, rfl, Nat.zero_le _, fun j _ h => by omega, hs⟩, ?_⟩
  rintro n h1 ⟨i, rfl, hi, hp, hs1⟩ _
  refine CondP.of (fun hc => ?_) (fun hc => ?_)
  · have hc : i < l.length := by simp at hc; omega
    refine ⟨⟨by omega, by omega⟩, ?_⟩
    obtain ⟨g, ga, gc⟩ := ownS.at hs1 hc
    refine NilP.of ga ⟨_, _, _, _, _, gc, ?_⟩
    refine hf l[i] (List.getElem_mem hc) h1 _ hs1 fun h2 hs2 => ⟨_, rfl, CondP.of (fun ht => ⟨_, rfl, ?_⟩) (fun ht => ?_)⟩
    · have : l.any p = true := List.any_eq_true.2 ⟨l[i], List.getElem_mem hc, ht⟩
      have h3 := hK h2 hs2
      rw [this] at h3
      rw [decide_eq_true (by omega : (i : Int) ≥ 0)]; exact h3
    · refine ⟨⟨i + 1, i64_succ (by omega), hc, fun j hj hji => ?_, hs2⟩, ?_⟩
      · rcases Nat.lt_or_ge j i with h | h
        · exact hp j hj h
        · have : j = i := by omega
          subst this; exact ht
      · show l.length - (IntKind.i64.wrap ((i : Int) + 1)).toNat < l.length - i
        rw [i64_succ (by omega)]; show l.length - (i + 1) < _; omega
  · have hc : i = l.length := by simp at hc; omega
    subst hc
    have : l.any p = false := by
      rw [List.any_eq_false]
      intro x hx
      obtain ⟨j, hj, rfl⟩ := List.getElem_of_mem hx
      rw [hp j hj hj]; simp
    have h3 := hK h1 hs1
    rw [this] at h3
    exact ⟨_, rfl, h3⟩
def Jn.freeL (J : Jn) (k : Nat) : List Nat := ((List.range k).map (J.first + ·)).filter fun n => !(J.segs.any fun x => x.file == n)
def Jn.full (J : Jn) : Bool := match J.segs.getLast? with | some x => decide (MaxI ≤ x.head.serial) | none => false
def Jn.free (J : Jn) : List Nat := if J.full = true then [] else J.freeL J.many
theorem freeL_succ (J : Jn) (k : Nat) : J.freeL (k + 1) = J.freeL k ++ (if (J.segs.any fun x => x.file == J.first + k) = true then [] else [J.first + k]) := by
  unfold Jn.freeL
  rw [List.range_succ, List.map_append, List.filter_append]
  simp only [List.map_cons, List.map_nil, List.filter_cons, List.filter_nil]
  congr 1
  cases J.segs.any fun x => x.file == J.first + k <;> simp
theorem freeL_len (J : Jn) (k : Nat) : (J.freeL k).length ≤ k := by
  have := List.length_filter_le (fun n => !(J.segs.any fun x => x.file == n)) ((List.range k).map (J.first + ·))
  simp only [List.length_map, List.length_range] at this
  exact this
theorem free_spec (hs : Sat H S (jA jb J :: R)) (hb : J.first + J.many ≤ 32) (hsl : J.segs.length < 1000000)
    {K : Value → Heap → Prop} (hK : ∀ (x : Sl) H', Sat H' S (ownI x J.free :: jA jb J :: R) → K (.slice x.a x.l x.c) H') : CallsH Tryz.prog 86 #[.pointer (some ⟨jb, 0, none⟩)] H K := by
  apply vc86
  obtain ⟨ve, vs, hs1⟩ := jA_open hs
  have hl := (ownS.len (hs1.pick 2 rfl)).1
  have hc8 := hs1.cell 8 (v := .slice vs.a vs.l vs.c) rfl
  refine ⟨vs, hc8, fun t h => t = J.full ∧ h = H, ?_, ?_⟩
  · rintro t h1 ⟨rfl, rfl⟩ _
    refine CondP.of (fun hc => ?_) (fun hc => ?_)
    · have e : J.free = [] := by rw [Jn.free, if_pos hc]
      have := hK ⟨none, 0, 0⟩ h1 (by rw [e]; exact own.new 3 1 hs)
      exact this
    have e : J.free = J.freeL J.many := by rw [Jn.free, if_neg (by rw [hc]; simp)]
    refine ⟨_, hs1.cell 1 rfl, ?_⟩
    intro b1 h2 f2
    have hs2 : Sat h2 S (lst b1 3 [.int .i64 0] :: jA jb J :: R) := hs.fresh f2
    refine hs2.store (Nat.le_refl _) fun h3 hs3 => ?_
    have hs3 : Sat h3 S (lst b1 3 [.int .i64 ((J.first + 0 : Nat) : Int)] :: jA jb J :: R) := hs3
    refine ⟨fun x p h => ∃ k b : Nat, p = some ⟨b, 0, none⟩ ∧ k ≤ J.many ∧ Sat h S (ownI x (J.freeL k) :: lst b 3 [.int .i64 ((J.first + k : Nat) : Int)] :: jA jb J :: R),
      fun x p h => match p with | some a => (match cellH h a.block 0 with | some (.int _ n) => ((J.first + J.many : Nat) : Int).toNat - n.toNat | _ => 0) | none => 0, ⟨0, b1, rfl, Nat.zero_le _, own.new 3 1 hs3⟩, ?_⟩
    rintro x p h4 ⟨k, b, rfl, hk, hs4⟩ _
    have c1 := (hs4.pick 1 rfl).cell 0 (v := .int .i64 ((J.first + k : Nat) : Int)) rfl
    obtain ⟨ve4, vs4, hs5⟩ := jA_open (hs4.pick 2 rfl)
    refine NilP.of rfl ⟨_, c1, _, hs5.cell 1 rfl, _, hs5.cell 2 rfl, ?_⟩
    rw [i64_add (by omega)]
    have hfl := freeL_len J k
    refine CondP.of (fun hc => ?_) (fun hc => ?_)
    · have hk' : k < J.many := by simp at hc; omega
      refine ⟨vs4, hs5.cell 8 rfl, ?_⟩
      have hs6 := hs5.pick 2 rfl
      have hs6 : Sat h4 S (ownS vs4 J.segs :: lst jb 97 (jcs J ve4 vs4) :: ownE ve4 J.log.es :: ownI x (J.freeL k) :: lst b 3 [.int .i64 ((J.first + k : Nat) : Int)] :: R) := hs6
      refine indexS_spec (p := fun y => y.file == J.first + k) hs6 hsl (fun y hy h K' hs' hK' => ?_) fun h5 hs7 => ?_
      · refine .inl ⟨126, #[], _, rfl, call126, vc126 _ _ _ _ _ b 0 _ _ ?_⟩
        intro b3 h6 f3
        have hs8 := hs'.fresh f3
        have hs8 : Sat h6 S (lst b3 107 (segV1 y) :: ownS vs4 J.segs :: lst jb 97 (jcs J ve4 vs4) :: ownE ve4 J.log.es :: ownI x (J.freeL k) :: lst b 3 [.int .i64 ((J.first + k : Nat) : Int)] :: R) := hs8
        refine ⟨_, hs8.cell 0 rfl, _, (hs8.pick 5 rfl).cell 0 rfl, ?_⟩
        rw [beq_nat_int]
        exact hK' h6 hs8.drop
      · have hs7 : Sat h5 S (ownS vs4 J.segs :: lst jb 97 (jcs J ve4 vs4) :: ownE ve4 J.log.es :: ownI x (J.freeL k) :: lst b 3 [.int .i64 ((J.first + k : Nat) : Int)] :: R) := hs7
        have hs9 := jA_shut (hs7.sel [1, 1])
        have hs9 : Sat h5 S (jA jb J :: ownI x (J.freeL k) :: lst b 3 [.int .i64 ((J.first + k : Nat) : Int)] :: R) := hs9
        have next : ∀ (x' : Sl) (h : Heap), Sat h S (ownI x' (J.freeL (k + 1)) :: lst b 3 [.int .i64 ((J.first + k : Nat) : Int)] :: jA jb J :: R) →
            NilP (some ⟨b, 0, none⟩) (fun b5 o3 => ∃ n6 : Int, cellH h b5 o3 = some (.int .i64 n6) ∧ ∀ b6 h8, Fresh h (.cells #[.int .i64 0] 3) b6 h8 →
              CanSt h8 b6 0 [.int .i64 n6] ∧ ∀ h9, Stored h8 b6 0 [.int .i64 n6] h9 → ∃ n7 : Int, cellH h9 b6 0 = some (.int .i64 n7) ∧
              CanSt h9 b6 0 [.int .i64 (IntKind.i64.wrap (n7 + 1))] ∧ ∀ h10, Stored h9 b6 0 [.int .i64 (IntKind.i64.wrap (n7 + 1))] h10 →
              (∃ k b : Nat, some (⟨b6, 0, none⟩ : Addr) = some ⟨b, 0, none⟩ ∧ k ≤ J.many ∧ Sat h10 S (ownI x' (J.freeL k) :: lst b 3 [.int .i64 ((J.first + k : Nat) : Int)] :: jA jb J :: R)) ∧
              (match cellH h10 b6 0 with | some (.int _ n) => ((J.first + J.many : Nat) : Int).toNat - n.toNat | _ => 0) < (match cellH h4 b 0 with | some (.int _ n) => ((J.first + J.many : Nat) : Int).toNat - n.toNat | _ => 0)) := by
          intro x' h hs10
          refine NilP.of rfl ⟨_, (hs10.pick 1 rfl).cell 0 rfl, ?_⟩
          intro b6 h8 f6
          have hs11 : Sat h8 S (lst b6 3 [.int .i64 0] :: ownI x' (J.freeL (k + 1)) :: lst b 3 [.int .i64 ((J.first + k : Nat) : Int)] :: jA jb J :: R) := hs10.fresh f6
          refine hs11.store (Nat.le_refl _) fun h9 hs12 => ?_
          have hs12 : Sat h9 S (lst b6 3 [.int .i64 ((J.first + k : Nat) : Int)] :: ownI x' (J.freeL (k + 1)) :: lst b 3 [.int .i64 ((J.first + k : Nat) : Int)] :: jA jb J :: R) := hs12
          refine ⟨_, hs12.cell 0 rfl, ?_⟩
          rw [i64_succ (by omega)]
          refine hs12.store (Nat.le_refl _) fun h10 hs13 => ?_
          have hs13 : Sat h10 S (lst b6 3 [.int .i64 ((J.first + (k + 1) : Nat) : Int)] :: ownI x' (J.freeL (k + 1)) :: lst b 3 [.int .i64 ((J.first + k : Nat) : Int)] :: jA jb J :: R) := hs13
          refine ⟨⟨k + 1, b6, rfl, hk', (hs13.sel [1]).del 2⟩, ?_⟩
          rw [hs13.cell 0 (v := .int .i64 ((J.first + (k + 1) : Nat) : Int)) rfl, c1]
          simp only [Int.toNat_natCast]
          omega
        refine ⟨_, rfl, CondP.of (fun ha => ?_) (fun ha => ?_)⟩
        · have ha : (J.segs.any fun y => y.file == J.first + k) = false := by simpa using ha
          have e2 : J.freeL (k + 1) = J.freeL k ++ [J.first + k] := by rw [freeL_succ, if_neg (by rw [ha]; simp)]
          refine NilP.of rfl ⟨_, (hs9.pick 2 rfl).cell 0 rfl, ?_⟩
          intro b4 h6 f4
          have hs10 : Sat h6 S (lst b4 3 (iV [J.first + k]) :: jA jb J :: ownI x (J.freeL k) :: lst b 3 [.int .i64 ((J.first + k : Nat) : Int)] :: R) := hs9.fresh f4
          have hxl := (ownI.len (hs10.pick 2 rfl)).1
          refine append_one el45 (v := x) (xs := iV (J.freeL k)) (hs10.sel [0, 1]) rfl (iV_one _) (by omega) (by unfold maxLen; omega) fun x' h7 hx' hs11 => ?_
          have e3 : iV (J.freeL k) ++ iV [J.first + k] = iV (J.freeL (k + 1)) := by rw [e2]; simp [iV]
          rw [e3] at hs11
          exact next x' h7 (hs11.sel [0, 1])
        · have ha : (J.segs.any fun y => y.file == J.first + k) = true := by simpa using ha
          have e2 : J.freeL (k + 1) = J.freeL k := by rw [freeL_succ, if_pos ha, List.append_nil]
          exact next x h5 (by rw [e2]; exact hs9.sel [1, 1])
    · have hk' : k = J.many := by simp at hc; omega
      subst hk'
      exact hK x h4 (by rw [e]; exact hs4.del 1)
  · refine CondP.of (fun hc => ⟨vs, hc8, ?_⟩) (fun hc => ?_)
    · have h0 : 0 < J.segs.length := by simp at hc; omega
      obtain ⟨k, hk⟩ : ∃ k, J.segs.length = k + 1 := ⟨J.segs.length - 1, by omega⟩
      have ew : IntKind.i64.wrap (((vs.l : Nat) : Int) - 1) = (k : Int) := by rw [i64_in (by omega) (by omega)]; omega
      rw [ew]
      obtain ⟨g, ga, gc⟩ := ownS.at (hs1.pick 2 rfl) (k := k) (by omega)
      refine ⟨⟨by omega, by omega⟩, NilP.of ga ⟨((J.segs[k]'(by omega)).head.serial : Int), ?_, ?_, rfl⟩⟩
      · have := gc.get 1 _ rfl
        simpa using this
      · have : J.full = decide (MaxI ≤ (J.segs[k]'(by omega)).head.serial) := by
          unfold Jn.full
          rw [List.getLast?_eq_getElem?, show J.segs.length - 1 = k by omega, List.getElem?_eq_getElem (by omega)]
        rw [this]
        exact decide_eq_decide.2 (by unfold MaxI; omega)
    · have h0 : J.segs = [] := List.eq_nil_of_length_eq_zero (by simp at hc; omega)
      exact ⟨by rw [Jn.full, h0]; rfl, rfl⟩
end
end Go.Sx.Tryz
namespace Go.Sx.Tryz
open Go Go.Sx Go.Proofs
set_option maxRecDepth 100000
set_option linter.unusedVariables false
noncomputable def c42 : Code := (Tryz.f42.body).getD .skip
def a42 : Ann := (.seq .leaf (.seq .leaf (.seq (.seq .leaf (.br (.seq .leaf .leaf) .leaf)) (.seq .leaf (.join [] (.seq .leaf (.br (.reg (.q 0 (.q 1 (.q 2 (.q 3 (.q 4 (.q 5 (.q 6 (.q 7 (.q 8 (.q 9 (.q 10 (.q 11 (.q 12 (.q 13 (.q 14 (.q 15 (.m 16 (.fin) (.nil))))))))))))))))))) .leaf)) (.seq .leaf (.seq .leaf (.seq .leaf (.seq .leaf (.seq .leaf (.seq (.seq .leaf (.br (.seq .leaf .leaf) .leaf)) (.seq (.reg (.q 0 (.q 1 (.q 2 (.q 3 (.q 4 (.q 5 (.q 6 (.q 7 (.m 8 (.m 9 (.q 10 (.q 11 (.m 12 (.fin) (.nil)))) (.nil)) (.nil))))))))))) (.seq .leaf .leaf)))))))))))))
theorem ok42 : okC tab 75 true c42 a42 = true := by kernel_rfl
theorem vc42 (j_b j_o : Nat) (h_0 : Int) (h_1 : Bool) (h_2 : Int) (h_3 : Int) (h : Heap) (R : Value → Heap → Prop)
  (hv : ∀ b1 h1, Fresh h (.cells #[.int .u64 h_0, .bool h_1, .int .u64 h_2, .int .u64 h_3] 103) b1 h1 →
   CallsH Tryz.prog 86 #[.pointer (some ⟨j_b, j_o, none⟩)] h1 (fun r1 h2 => ∃ x1 : Sl, r1 = .slice x1.a x1.l x1.c ∧
   CondP ((((x1.l : Nat) : Int) : Int) == 0) (
   R (.bool false) h2) (
   ((0 : Int) ≤ 0 ∧ (0 : Int) < ((x1.l : Nat) : Int)) ∧
   NilP x1.a (fun b2 o1 =>
   ∃ n1 : Int, cellH h2 b2 o1 = some (.int .i64 n1) ∧
   ∃ J1 : Heap → Prop, (∀ h3, J1  h3 → ∀ _ : Env,
   ∀ b3 h4, Fresh h3 (.cells #[.slice none 0 0] 145) b3 h4 →
   ∃ n2 : Int, cellH h4 b1 0 = some (.int .u64 n2) ∧
   ∀ b4 h5, Fresh h4 (.cells #[.int .u64 n2] 32) b4 h5 →
   CallsH Tryz.prog 80 #[.pointer (some ⟨b3, 0, none⟩), .slice (some ⟨b4, 0, none⟩) 1 1] h5 (fun r2 h6 => r2 = .tuple #[] ∧
   ∃ t1 : Bool, cellH h6 b1 1 = some (.bool t1) ∧
   CallsH Tryz.prog 104 #[.pointer (some ⟨b3, 0, none⟩), .bool t1] h6 (fun r3 h7 => r3 = .tuple #[] ∧
   ∃ n3 : Int, cellH h7 b1 2 = some (.int .u64 n3) ∧
   ∃ n4 : Int, cellH h7 b1 3 = some (.int .u64 n4) ∧
   ∀ b5 h8, Fresh h7 (.cells #[.int .u64 n3, .int .u64 n4] 32) b5 h8 →
   CallsH Tryz.prog 80 #[.pointer (some ⟨b3, 0, none⟩), .slice (some ⟨b5, 0, none⟩) 2 2] h8 (fun r4 h9 => r4 = .tuple #[] ∧
   CallsH Tryz.prog 83 #[.pointer (some ⟨b3, 0, none⟩)] h9 (fun r5 h10 => ∃ x2 : Sl, r5 = .slice x2.a x2.l x2.c ∧
   CallsH Tryz.prog 82 #[.int .u8 1, .slice x2.a x2.l x2.c] h10 (fun r6 h11 => ∃ x3 : Sl, ∃ n5 : Int, r6 = .tuple #[.slice x3.a x3.l x3.c, .int .i64 n5] ∧
   CallsH Tryz.prog 87 #[.pointer (some ⟨j_b, j_o, none⟩), .int .i64 n1, .slice x3.a x3.l x3.c] h11 (fun r7 h12 => ∃ t2 : Bool, r7 = .bool t2 ∧
   CondP (!t2) (
   R (.bool false) h12) (
   ∃ x4 : Sl, cellH h12 j_b (j_o + 8) = some (.slice x4.a x4.l x4.c) ∧
   ∃ n6 : Int, ∃ t3 : Bool, ∃ n7 : Int, ∃ n8 : Int, CellsAt h12 b1 0 [.int .u64 n6, .bool t3, .int .u64 n7, .int .u64 n8] ∧
   ∀ b6 h13, Fresh h12 (.cells #[.int .i64 n1, .int .u64 n6, .bool t3, .int .u64 n7, .int .u64 n8] 107) b6 h13 →
   cellH h13 j_b (j_o + 8) = some (.slice x4.a x4.l x4.c) ∧
   RunK Tryz.prog (.sl) (Builtin.append_ #[95, 95] 95 #[.slice x4.a x4.l x4.c, .slice (some ⟨b6, 0, none⟩) 1 1]) h13 (fun x5 h14 =>
   CanSt h14 j_b (j_o + 8) [.slice x5.a x5.l x5.c] ∧ ∀ h15, Stored h14 j_b (j_o + 8) [.slice x5.a x5.l x5.c] h15 →
   R (.bool true) h15))))))))) ∧
   ∃ x6 : Sl, cellH h2 j_b (j_o + 8) = some (.slice x6.a x6.l x6.c) ∧
   CondP (decide ((((x6.l : Nat) : Int) : Int) > 0)) (
   ∃ x7 : Sl, cellH h2 j_b (j_o + 8) = some (.slice x7.a x7.l x7.c) ∧
   ∃ x8 : Sl, cellH h2 j_b (j_o + 8) = some (.slice x8.a x8.l x8.c) ∧
   ((0 : Int) ≤ IntKind.i64.wrap (((x8.l : Nat) : Int) - 1) ∧ (IntKind.i64.wrap (((x8.l : Nat) : Int) - 1) : Int) < ((x7.l : Nat) : Int)) ∧
   NilP x7.a (fun b7 o2 =>
   ∃ n9 : Int, cellH h2 b7 (o2 + ((IntKind.i64.wrap (((x8.l : Nat) : Int) - 1)).toNat) * 5 + 1) = some (.int .u64 n9) ∧
   CanSt h2 b1 0 [.int .u64 (IntKind.u64.wrap (n9 + 1))] ∧ ∀ h16, Stored h2 b1 0 [.int .u64 (IntKind.u64.wrap (n9 + 1))] h16 →
   J1  h16)) (
   J1  h2))))) :
  CallsH Tryz.prog 42 #[.pointer (some ⟨j_b, j_o, none⟩), .agg #[.int .u64 h_0, .bool h_1, .int .u64 h_2, .int .u64 h_3]] h R :=
  calls_of_vc tabOk mixed Tryz.func42 (c := c42) (by kernel_rfl) (n := 75) rfl (rs := [.tmp 4]) (by kernel_rfl) ok42 (args := [.pointer (some ⟨j_b, j_o, none⟩), .agg #[.int .u64 h_0, .bool h_1, .int .u64 h_2, .int .u64 h_3]]) (Nat.le_of_ble_eq_true rfl) (Eq.mpr (by kernel_rfl) hv)
end Go.Sx.Tryz
