/-
  Part 5 of the proof: SxZ, V94, V127, V128, V129, V164, V165, V179, K15, V38, K16, K17, V10, V93, V171, V142, V143, V121, V160, V161, V102, V148, V101, V146, V147, V99, V144, V37, V84, V14, V15, K08, K09.
-/
import Derived.Test.YtegikhoholfcmaaGreatM04
import Derived.MapKept
namespace Go.Sx
set_option linter.unusedVariables false
def mget : List (Int × Int) → Int → Option Int
  | [], _ => none
  | x :: l, a => if a = x.1 then some x.2 else mget l a
def mpE (l : List (Int × Int)) (es : List MapEntry) : Prop := es.map (fun e => (e.key, e.val)) = l.map fun x => (Value.int .i64 x.1, Value.int .u64 x.2)
def mp (b : Nat) (l : List (Int × Int)) : Asn := fun k => ∃ es c, k b = some (.map es c) ∧ mpE l es.toList
theorem findNow_mp : ∀ {l : List (Int × Int)} {es : List MapEntry} (a : Int) (i : Nat), mpE l es → ∃ r, Instr.findNow (.int .i64) (.int .i64 a) es i = some r ∧ (match mget l a with | none => r = none | some v => ∃ j, r = some (j, .int .u64 v))
  | [], [], a, i, _ => ⟨none, rfl, rfl⟩
  | x :: l, e :: es, a, i, h => by
    simp only [mpE, List.map_cons, List.cons.injEq, Prod.mk.injEq] at h
    obtain ⟨⟨hk, hv⟩, h⟩ := h
    unfold Instr.findNow
    rw [hk, hv]
    simp only [Instr.sameNow, if_true]
    by_cases ha : a = x.1
    · subst ha
      refine ⟨some (i, .int .u64 x.2), by simp, ?_⟩
      simp [mget]
    · obtain ⟨r, h1, h2⟩ := findNow_mp a (i + 1) (l := l) (es := es) h
      refine ⟨r, ?_, ?_⟩
      · rw [beq_eq_false_iff_ne.2 ha]; exact h1
      · rw [mget, if_neg ha]; exact h2
  | [], _ :: _, _, _, h => by simp [mpE] at h
  | _ :: _, [], _, _, h => by simp [mpE] at h
section
variable {H H' : Heap} {S : PH} {R : List Asn}
theorem Sat.mp_blk {b : Nat} {l : List (Int × Int)} (h : Sat H S (mp b l :: R)) : ∃ es c, mpE l es.toList ∧ Sat H S (Sx.blk b (.map es c) :: R) := by
  obtain ⟨⟨k, ⟨k1, k2, ⟨es, c, g1, g2⟩, h2, hs⟩, h3, h4⟩, h5⟩ := h
  exact ⟨es, c, g2, ⟨k, ⟨k1, k2, g1, h2, hs⟩, h3, h4⟩, h5⟩
theorem Sat.blk_mp {b : Nat} {l : List (Int × Int)} {es : Array MapEntry} {c : Nat} (hm : mpE l es.toList) (h : Sat H S (Sx.blk b (.map es c) :: R)) : Sat H S (mp b l :: R) := h.weak fun k hk => ⟨es, c, hk, hm⟩
theorem makeMap_run {P : Program} {t : TypeId} (hs : Sat H S R) {K : Option Nat → Heap → Prop} (hk : ∀ b H', Sat H' S (mp b [] :: R) → K (some b) H') : RunK P .m (Instr.makeMap t none) H K := by
  intro w hw
  subst hw
  refine ⟨some w.heap.size, w.alloc (.map #[] 0), ?_, ⟨rfl, rfl, rfl⟩, hk _ _ ?_⟩
  · simp only [Instr.makeMap, Sem.run_bind, Sem.run_pure, Result.andThen_ok, run_newObj_alloc, K1.mk]
  · have h1 : Sat (w.heap.push (.map #[] 0)) S (Sx.blk w.heap.size (.map #[] 0) :: R) := hs.fresh ⟨rfl, rfl⟩
    exact h1.blk_mp (es := #[]) (l := []) rfl
theorem mapUpdate_run {P : Program} {t kt vt : TypeId} (ht : P.underlying t = some (.map kt vt)) (hkt : P.underlying kt = some (.int .i64)) {b : Nat} {l : List (Int × Int)} {a v : Int} (hn : mget l a = none) (hs : Sat H S (mp b l :: R)) {K : Heap → Prop}
    (hk : ∀ H', Sat H' S (mp b (l ++ [(a, v)]) :: R) → K H') : RunU P (Instr.mapUpdate t (.map (some b)) (.int .i64 a) (.int .u64 v)) H K := by
  intro w hw
  subst hw
  obtain ⟨es, c, hm, hs1⟩ := hs.mp_blk
  have hb := Sat.blk hs1
  obtain ⟨r, h1, h2⟩ := findNow_mp a 0 hm
  rw [hn] at h2
  simp only at h2
  subst h2
  have hf := MapKept.run_findKey (P := P) (w := w) hkt h1
  have hc := MapKept.run_checkKey (P := P) (w := w) hkt (k := .int .i64 a) (show (IntKind.i64 : IntKind) = IntKind.i64 from rfl) false 9999
  refine ⟨w.putObj b (.map (es.push { key := .int .i64 a, val := .int .u64 v, born := c }) (c + 1)), ?_, ⟨rfl, rfl, rfl⟩, hk _ ?_⟩
  · simp only [Instr.mapUpdate, Sem.run_bind, run_underlying ht, Result.andThen_ok, getObj, Sem.run, hb, hc, hf]
    simp [setObj, Sem.run, hb, World.putObj]
  · have h3 : Sat (w.putObj b (.map (es.push { key := .int .i64 a, val := .int .u64 v, born := c }) (c + 1))).heap S (Sx.blk b (.map (es.push { key := .int .i64 a, val := .int .u64 v, born := c }) (c + 1)) :: R) := hs1.setB
    refine h3.blk_mp ?_
    simp only [mpE, Array.toList_push, List.map_append, List.map_cons, List.map_nil] at hm ⊢
    rw [hm]
theorem lookup_run {P : Program} {t kt vt : TypeId} (ht : P.underlying t = some (.map kt vt)) (hkt : P.underlying kt = some (.int .i64)) {b : Nat} {l : List (Int × Int)} {a v : Int} (hn : mget l a = some v) (hs : Sat H S (mp b l :: R)) :
    ∀ w : World, w.heap = H → (Instr.lookup t (.map (some b)) (.int .i64 a) false).run P w = .ok (.int .u64 v) w := by
  intro w hw
  subst hw
  obtain ⟨es, c, hm, hs1⟩ := hs.mp_blk
  have hb := Sat.blk hs1
  obtain ⟨r, h1, h2⟩ := findNow_mp a 0 hm
  rw [hn] at h2
  obtain ⟨j, rfl⟩ := h2
  have hf := MapKept.run_findKey (P := P) (w := w) hkt h1
  have hc := MapKept.run_checkKey (P := P) (w := w) hkt (k := .int .i64 a) (show (IntKind.i64 : IntKind) = IntKind.i64 from rfl) es.isEmpty 9999
  have hc' : (Instr.checkKey es.isEmpty 10000 kt (.int .i64 a)).run P w = .ok () w := hc
  simp only [Instr.lookup, Sem.run_bind, run_underlying ht, Result.andThen_ok, getObj, Sem.run, hb]
  simp [Result.andThen, hc', hf]
end
end Go.Sx
namespace Go.Sx.Tryz
open Go Go.Sx Go.Proofs
set_option maxRecDepth 100000
set_option linter.unusedVariables false
noncomputable def c94 : Code := (Tryz.f94.body).getD .skip
def a94 : Ann := (.seq .leaf (.seq .leaf (.seq (.seq .leaf (.inn (.loop [(2, .one (.sl)), (11, .one (.i .i64))] (.seq .leaf (.seq (.br .leaf .leaf) (.seq (.inn (.seq .leaf (.seq .leaf (.seq .leaf (.br (.seq .leaf .leaf) .leaf))))) .leaf)))))) (.seq .leaf (.seq .leaf .leaf)))))
theorem ok94 : okC tab 35 true c94 a94 = true := by kernel_rfl
theorem vc94 (files_ : Sl) (h : Heap) (R : Value → Heap → Prop)
  (hv : RunK Tryz.prog (.m) (Instr.makeMap 193 none) h (fun m1 h1 =>
   ∀ b1 h2, Fresh h1 (.cells #[.map none] 193) b1 h2 →
   CanSt h2 b1 0 [.map m1] ∧ ∀ h3, Stored h2 b1 0 [.map m1] h3 →
   ∃ (I1 : Sl → Int → Heap → Prop) (mu1 : Sl → Int → Heap → Nat), I1 ⟨none, 0, 0⟩ 0 h3 ∧ (∀ x1 : Sl, ∀ n1 : Int, ∀ h4, I1 x1 n1 h4 → ∀ _ : Env,
   CondP (decide ((n1 : Int) < ((files_.l : Nat) : Int))) (
   ((0 : Int) ≤ n1 ∧ (n1 : Int) < ((files_.l : Nat) : Int)) ∧
   NilP files_.a (fun b2 o1 =>
   ∃ x2 : Sl, cellH h4 b2 (o1 + n1.toNat) = some (.slice x2.a x2.l x2.c) ∧
   CallsH Tryz.prog 39 #[.slice x2.a x2.l x2.c] h4 (fun r1 h5 => ∃ n2 : Int, ∃ t1 : Bool, ∃ n3 : Int, ∃ n4 : Int, ∃ t2 : Bool, r1 = .tuple #[.agg #[.int .u64 n2, .bool t1, .int .u64 n3, .int .u64 n4], .bool t2] ∧
   ∀ b3 h6, Fresh h5 (.cells #[.int .u64 0, .bool false, .int .u64 0, .int .u64 0] 103) b3 h6 →
   CanSt h6 b3 0 [.int .u64 n2, .bool t1, .int .u64 n3, .int .u64 n4] ∧ ∀ h7, Stored h6 b3 0 [.int .u64 n2, .bool t1, .int .u64 n3, .int .u64 n4] h7 →
   CondP t2 (
   ∃ m2 : Option Nat, cellH h7 b1 0 = some (.map m2) ∧
   ∃ n5 : Int, cellH h7 b3 0 = some (.int .u64 n5) ∧
   RunU Tryz.prog (Instr.mapUpdate 193 (.map m2) (.int .i64 n1) (.int .u64 n5)) h7 (fun h8 =>
   ∀ b4 h9, Fresh h8 (.cells #[.int .i64 n1] 3) b4 h9 →
   RunK Tryz.prog (.sl) (Builtin.append_ #[45, 45] 45 #[.slice x1.a x1.l x1.c, .slice (some ⟨b4, 0, none⟩) 1 1]) h9 (fun x3 h10 =>
   I1 x3 (IntKind.i64.wrap (n1 + 1)) h10 ∧ mu1 x3 (IntKind.i64.wrap (n1 + 1)) h10 < mu1 x1 n1 h4))) (
   I1 x1 (IntKind.i64.wrap (n1 + 1)) h7 ∧ mu1 x1 (IntKind.i64.wrap (n1 + 1)) h7 < mu1 x1 n1 h4)))) (
   CallsH Tryz.prog 127 #[.slice x1.a x1.l x1.c, .func (.func 128) #[] #[.pointer (some ⟨b1, 0, none⟩)]] h4 (fun r2 h11 => r2 = .tuple #[] ∧
   R (.slice x1.a x1.l x1.c) h11))))) :
  CallsH Tryz.prog 94 #[.slice files_.a files_.l files_.c] h R :=
  calls_of_vc tabOk mixed Tryz.func94 (c := c94) (by kernel_rfl) (n := 35) rfl (rs := [.tmp 2]) (by kernel_rfl) ok94 (args := [.slice files_.a files_.l files_.c]) (Nat.le_of_ble_eq_true rfl) (Eq.mpr (by kernel_rfl) hv)
end Go.Sx.Tryz
namespace Go.Sx.Tryz
open Go Go.Sx Go.Proofs
set_option maxRecDepth 100000
set_option linter.unusedVariables false
noncomputable def c127 : Code := (Tryz.f127.body).getD .skip
def a127 : Ann := .leaf
theorem ok127 : okC tab 9 true c127 a127 = true := by kernel_rfl
theorem vc127 (x_ : Sl) (cmp_ : Value) (h : Heap) (R : Value → Heap → Prop)
  (hv : CallsH Tryz.prog 164 #[.slice x_.a x_.l x_.c, .int .i64 ((x_.l : Nat) : Int), cmp_] h (fun r1 h1 => r1 = .tuple #[] ∧
   R (.tuple #[]) h1)) :
  CallsH Tryz.prog 127 #[.slice x_.a x_.l x_.c, cmp_] h R :=
  calls_of_vc tabOk mixed Tryz.func127 (c := c127) (by kernel_rfl) (n := 9) rfl (rs := []) (by kernel_rfl) ok127 (args := [.slice x_.a x_.l x_.c, cmp_]) (Nat.le_of_ble_eq_true rfl) (Eq.mpr (by kernel_rfl) hv)
end Go.Sx.Tryz
namespace Go.Sx.Tryz
open Go Go.Sx Go.Proofs
set_option maxRecDepth 100000
set_option linter.unusedVariables false
noncomputable def c128 : Code := (Tryz.f128.body).getD .skip
def a128 : Ann := (.seq .leaf (.seq .leaf .leaf))
theorem ok128 : okC tab 13 true c128 a128 = true := by kernel_rfl
theorem vc128 (a_ : Int) (b_ : Int) (c0_b c0_o : Nat) (h : Heap) (R : Value → Heap → Prop)
  (hv : ∃ m1 : Option Nat, cellH h c0_b c0_o = some (.map m1) ∧
   ∃ n1 : Int, (∀ w : World, w.heap = h → (Instr.lookup 193 (.map m1) (.int .i64 a_) false).run Tryz.prog w = .ok (.int .u64 n1) w) ∧
   ∃ m2 : Option Nat, cellH h c0_b c0_o = some (.map m2) ∧
   ∃ n2 : Int, (∀ w : World, w.heap = h → (Instr.lookup 193 (.map m2) (.int .i64 b_) false).run Tryz.prog w = .ok (.int .u64 n2) w) ∧
   CallsH Tryz.prog 129 #[.int .u64 n1, .int .u64 n2] h (fun r1 h1 => ∃ n3 : Int, r1 = .int .i64 n3 ∧
   R (.int .i64 n3) h1)) :
  CallsH Tryz.prog 128 #[.int .i64 a_, .int .i64 b_, .pointer (some ⟨c0_b, c0_o, none⟩)] h R :=
  calls_of_vc tabOk mixed Tryz.func128 (c := c128) (by kernel_rfl) (n := 13) rfl (rs := [.tmp 5]) (by kernel_rfl) ok128 (args := [.int .i64 a_, .int .i64 b_, .pointer (some ⟨c0_b, c0_o, none⟩)]) (Nat.le_of_ble_eq_true rfl) (Eq.mpr (by kernel_rfl) hv)
end Go.Sx.Tryz
namespace Go.Sx.Tryz
open Go Go.Sx Go.Proofs
set_option maxRecDepth 100000
set_option linter.unusedVariables false
noncomputable def c129 : Code := (Tryz.f129.body).getD .skip
def a129 : Ann := (.seq .leaf (.seq .leaf (.seq .leaf (.seq (.seq .leaf (.br (.seq (.seq .leaf (.br (.seq .leaf .leaf) .leaf)) (.seq .leaf .leaf)) .leaf)) (.seq (.seq .leaf (.br (.seq .leaf .leaf) .leaf)) (.seq (.seq .leaf (.br (.seq .leaf .leaf) .leaf)) (.seq (.seq .leaf (.br (.seq .leaf .leaf) .leaf)) (.seq .leaf .leaf))))))))
theorem ok129 : okC tab 20 true c129 a129 = true := by kernel_rfl
theorem vc129 (x_ : Int) (y_ : Int) (h : Heap) (R : Value → Heap → Prop)
  (hv : CallsH Tryz.prog 165 #[.int .u64 x_] h (fun r1 h1 => ∃ t1 : Bool, r1 = .bool t1 ∧
   CallsH Tryz.prog 165 #[.int .u64 y_] h1 (fun r2 h2 => ∃ t2 : Bool, r2 = .bool t2 ∧
   CondP t1 (
   CondP t2 (
   R (.int .i64 0) h2) (
   R (.int .i64 (-1)) h2)) (
   CondP t2 (
   R (.int .i64 1) h2) (
   CondP (decide ((x_ : Int) < y_)) (
   R (.int .i64 (-1)) h2) (
   CondP (decide ((x_ : Int) > y_)) (
   R (.int .i64 1) h2) (
   R (.int .i64 0) h2))))))) :
  CallsH Tryz.prog 129 #[.int .u64 x_, .int .u64 y_] h R :=
  calls_of_vc tabOk mixed Tryz.func129 (c := c129) (by kernel_rfl) (n := 20) rfl (rs := [.tmp 4]) (by kernel_rfl) ok129 (args := [.int .u64 x_, .int .u64 y_]) (Nat.le_of_ble_eq_true rfl) (Eq.mpr (by kernel_rfl) hv)
end Go.Sx.Tryz
namespace Go.Sx.Tryz
open Go Go.Sx Go.Proofs
set_option maxRecDepth 100000
set_option linter.unusedVariables false
noncomputable def c164 : Code := (Tryz.f164.body).getD .skip
def a164 : Ann := (.seq .leaf (.seq .leaf (.seq (.inn (.loop [(7, .one (.i .i64)), (8, .one (.i .i64))] (.seq (.seq .leaf (.br .leaf .leaf)) (.inn (.seq .leaf (.seq .leaf .leaf)))))) (.seq .leaf (.inn (.loop [(6, .one (.i .i64))] (.seq (.seq .leaf (.br .leaf .leaf)) (.inn (.seq .leaf (.seq (.inn (.loop [(7, .one (.i .i64)), (8, .one (.i .i64))] (.seq (.seq .leaf (.br .leaf .leaf)) (.inn (.seq .leaf (.seq .leaf .leaf)))))) (.seq (.seq .leaf (.seq .leaf (.br .leaf .leaf))) .leaf)))))))))))
theorem ok164 : okC tab 63 true c164 a164 = true := by kernel_rfl
theorem vc164 (data_ : Sl) (n_ : Int) (cmp_ : Value) (h : Heap) (R : Value → Heap → Prop)
  (hv : ∃ (I1 : Int → Int → Heap → Prop) (mu1 : Int → Int → Heap → Nat), I1 0 20 h ∧ (∀ n1 : Int, ∀ n2 : Int, ∀ h1, I1 n1 n2 h1 → ∀ _ : Env,
   CondP (decide ((n2 : Int) ≤ n_)) (
   CallsH Tryz.prog 179 #[.slice data_.a data_.l data_.c, .int .i64 n1, .int .i64 n2, cmp_] h1 (fun r1 h2 => r1 = .tuple #[] ∧
   I1 n2 (IntKind.i64.wrap (n2 + 20)) h2 ∧ mu1 n2 (IntKind.i64.wrap (n2 + 20)) h2 < mu1 n1 n2 h1)) (
   CallsH Tryz.prog 179 #[.slice data_.a data_.l data_.c, .int .i64 n1, .int .i64 n_, cmp_] h1 (fun r2 h3 => r2 = .tuple #[] ∧
   ∃ (I2 : Int → Heap → Prop) (mu2 : Int → Heap → Nat), I2 20 h3 ∧ (∀ n3 : Int, ∀ h4, I2 n3 h4 → ∀ _ : Env,
   CondP (decide ((n3 : Int) < n_)) (
   ∃ (I3 : Int → Int → Heap → Prop) (mu3 : Int → Int → Heap → Nat), I3 0 (IntKind.i64.wrap (2 * n3)) h4 ∧ (∀ n4 : Int, ∀ n5 : Int, ∀ h5, I3 n4 n5 h5 → ∀ _ : Env,
   CondP (decide ((n5 : Int) ≤ n_)) (
   CallsH Tryz.prog 180 #[.slice data_.a data_.l data_.c, .int .i64 n4, .int .i64 (IntKind.i64.wrap (n4 + n3)), .int .i64 n5, cmp_] h5 (fun r3 h6 => r3 = .tuple #[] ∧
   I3 n5 (IntKind.i64.wrap (n5 + (IntKind.i64.wrap (2 * n3)))) h6 ∧ mu3 n5 (IntKind.i64.wrap (n5 + (IntKind.i64.wrap (2 * n3)))) h6 < mu3 n4 n5 h5)) (
   CondP (decide ((IntKind.i64.wrap (n4 + n3) : Int) < n_)) (
   CallsH Tryz.prog 180 #[.slice data_.a data_.l data_.c, .int .i64 n4, .int .i64 (IntKind.i64.wrap (n4 + n3)), .int .i64 n_, cmp_] h5 (fun r4 h7 => r4 = .tuple #[] ∧
   I2 (IntKind.i64.wrap (n3 * 2)) h7 ∧ mu2 (IntKind.i64.wrap (n3 * 2)) h7 < mu2 n3 h4)) (
   I2 (IntKind.i64.wrap (n3 * 2)) h5 ∧ mu2 (IntKind.i64.wrap (n3 * 2)) h5 < mu2 n3 h4)))) (
   R (.tuple #[]) h4)))))) :
  CallsH Tryz.prog 164 #[.slice data_.a data_.l data_.c, .int .i64 n_, cmp_] h R :=
  calls_of_vc tabOk mixed Tryz.func164 (c := c164) (by kernel_rfl) (n := 63) rfl (rs := []) (by kernel_rfl) ok164 (args := [.slice data_.a data_.l data_.c, .int .i64 n_, cmp_]) (Nat.le_of_ble_eq_true rfl) (Eq.mpr (by kernel_rfl) hv)
end Go.Sx.Tryz
namespace Go.Sx.Tryz
open Go Go.Sx Go.Proofs
set_option maxRecDepth 100000
set_option linter.unusedVariables false
noncomputable def c165 : Code := (Tryz.f165.body).getD .skip
def a165 : Ann := (.seq .leaf (.seq .leaf .leaf))
theorem ok165 : okC tab 6 true c165 a165 = true := by kernel_rfl
theorem vc165 (x_ : Int) (h : Heap) (R : Value → Heap → Prop)
  (hv : R (.bool ((x_ : Int) != x_)) h) :
  CallsH Tryz.prog 165 #[.int .u64 x_] h R :=
  calls_of_vc tabOk mixed Tryz.func165 (c := c165) (by kernel_rfl) (n := 6) rfl (rs := [.tmp 2]) (by kernel_rfl) ok165 (args := [.int .u64 x_]) (Nat.le_of_ble_eq_true rfl) (Eq.mpr (by kernel_rfl) hv)
end Go.Sx.Tryz
namespace Go.Sx.Tryz
open Go Go.Sx Go.Proofs
set_option maxRecDepth 100000
set_option linter.unusedVariables false
noncomputable def c179 : Code := (Tryz.f179.body).getD .skip
def a179 : Ann := (.seq .leaf (.inn (.loop [(8, .one (.i .i64))] (.seq (.seq .leaf (.br .leaf .leaf)) (.seq (.inn (.seq .leaf (.inn (.loop [(9, .one (.i .i64))] (.seq (.seq (.reg (.q 0 (.q 1 (.q 2 (.q 3 (.q 4 (.q 5 (.q 6 (.q 7 (.q 8 (.q 9 (.q 10 (.q 11 (.q 12 (.q 13 (.m 14 (.q 15 (.q 16 (.fin))) (.nil))))))))))))))))) (.br .leaf .leaf)) (.seq (.inn (.reg (.q 0 (.q 1 (.q 2 (.q 3 (.q 4 (.q 5 (.q 6 (.q 7 (.q 8 (.q 9 (.q 10 (.q 11 (.q 12 (.q 13 (.q 14 (.m 15 (.q 16 (.m 17 (.fin) (.nil))) (.nil))))))))))))))))))) .leaf)))))) .leaf)))))
theorem ok179 : okC tab 53 true c179 a179 = true := by kernel_rfl
theorem vc179 (data_ : Sl) (a_ : Int) (b_ : Int) (cmp_ : Value) (h : Heap) (R : Value → Heap → Prop)
  (hv : ∃ (I1 : Int → Heap → Prop) (mu1 : Int → Heap → Nat), I1 (IntKind.i64.wrap (a_ + 1)) h ∧ (∀ n1 : Int, ∀ h1, I1 n1 h1 → ∀ _ : Env,
   CondP (decide ((n1 : Int) < b_)) (
   ∃ (I2 : Int → Heap → Prop) (mu2 : Int → Heap → Nat), I2 n1 h1 ∧ (∀ n2 : Int, ∀ h2, I2 n2 h2 → ∀ _ : Env,
   CondP (decide ((n2 : Int) > a_)) (
   ((0 : Int) ≤ n2 ∧ (n2 : Int) < ((data_.l : Nat) : Int)) ∧
   NilP data_.a (fun b1 o1 =>
   ∃ n3 : Int, cellH h2 b1 (o1 + n2.toNat) = some (.int .i64 n3) ∧
   ((0 : Int) ≤ IntKind.i64.wrap (n2 - 1) ∧ (IntKind.i64.wrap (n2 - 1) : Int) < ((data_.l : Nat) : Int)) ∧
   NilP data_.a (fun b2 o2 =>
   ∃ n4 : Int, cellH h2 b2 (o2 + (IntKind.i64.wrap (n2 - 1)).toNat) = some (.int .i64 n4) ∧
   CallV Tryz.prog cmp_ [.int .i64 n3, .int .i64 n4] h2 (fun r1 h3 => ∃ n5 : Int, r1 = .int .i64 n5 ∧
   CondP (decide ((n5 : Int) < 0)) (
   ((0 : Int) ≤ IntKind.i64.wrap (n2 - 1) ∧ (IntKind.i64.wrap (n2 - 1) : Int) < ((data_.l : Nat) : Int)) ∧
   NilP data_.a (fun b3 o3 =>
   ∃ n6 : Int, cellH h3 b3 (o3 + (IntKind.i64.wrap (n2 - 1)).toNat) = some (.int .i64 n6) ∧
   ((0 : Int) ≤ n2 ∧ (n2 : Int) < ((data_.l : Nat) : Int)) ∧
   NilP data_.a (fun b4 o4 =>
   ∃ n7 : Int, cellH h3 b4 (o4 + n2.toNat) = some (.int .i64 n7) ∧
   ((0 : Int) ≤ n2 ∧ (n2 : Int) < ((data_.l : Nat) : Int)) ∧
   NilP data_.a (fun b5 o5 =>
   CanSt h3 b5 (o5 + n2.toNat) [.int .i64 n6] ∧ ∀ h4, Stored h3 b5 (o5 + n2.toNat) [.int .i64 n6] h4 →
   ((0 : Int) ≤ IntKind.i64.wrap (n2 - 1) ∧ (IntKind.i64.wrap (n2 - 1) : Int) < ((data_.l : Nat) : Int)) ∧
   NilP data_.a (fun b6 o6 =>
   CanSt h4 b6 (o6 + (IntKind.i64.wrap (n2 - 1)).toNat) [.int .i64 n7] ∧ ∀ h5, Stored h4 b6 (o6 + (IntKind.i64.wrap (n2 - 1)).toNat) [.int .i64 n7] h5 →
   I2 (IntKind.i64.wrap (n2 - 1)) h5 ∧ mu2 (IntKind.i64.wrap (n2 - 1)) h5 < mu2 n2 h2))))) (
   I1 (IntKind.i64.wrap (n1 + 1)) h3 ∧ mu1 (IntKind.i64.wrap (n1 + 1)) h3 < mu1 n1 h1))))) (
   I1 (IntKind.i64.wrap (n1 + 1)) h2 ∧ mu1 (IntKind.i64.wrap (n1 + 1)) h2 < mu1 n1 h1))) (
   R (.tuple #[]) h1))) :
  CallsH Tryz.prog 179 #[.slice data_.a data_.l data_.c, .int .i64 a_, .int .i64 b_, cmp_] h R :=
  calls_of_vc tabOk mixed Tryz.func179 (c := c179) (by kernel_rfl) (n := 53) rfl (rs := []) (by kernel_rfl) ok179 (args := [.slice data_.a data_.l data_.c, .int .i64 a_, .int .i64 b_, cmp_]) (Nat.le_of_ble_eq_true rfl) (Eq.mpr (by kernel_rfl) hv)
end Go.Sx.Tryz
namespace Go.Sx.Tryz
open Go Go.Sx Go.Proofs
set_option linter.unusedVariables false
section
variable {H H' : Heap} {S : PH} {R : List Asn}
theorem putL_take {l : List Value} {off n : Nat} {vs : List Value} (h : off + vs.length ≤ n) (hn : n ≤ l.length) : (putL l off vs).take n = putL (l.take n) off vs := by
  apply List.ext_getElem?
  intro j
  rw [List.getElem?_take, putL_get (by omega), putL_get (by rw [List.length_take]; omega)]
  by_cases h1 : j < n
  · rw [if_pos h1, List.getElem?_take, if_pos h1]
  · rw [if_neg h1, if_neg (by omega), if_neg (by omega), List.getElem?_take, if_neg h1]
theorem own_store {T : TypeId} {sz : Nat} {v : Sl} {xs : List Value} (h : Sat H S (own T sz v xs :: R)) {off : Nat} {vs : List Value} (ho : off + vs.length ≤ xs.length) (hp : 0 < xs.length) {g : Nat} (hg : v.a = some ⟨g, 0, none⟩)
    {K : Heap → Prop} (hk : ∀ H', Sat H' S (own T sz v (putL xs off vs) :: R) → K H') : CanSt H g off vs ∧ ∀ H', Stored H g off vs H' → K H' := by
  have h0 := h
  obtain ⟨⟨k, ⟨k1, k2, ⟨h1, h2⟩, h3, hs⟩, h4, h5⟩, h6⟩ := h
  rcases h2 with ⟨e, rfl⟩ | ⟨g', cur, g1, g2, g3, g4, g5, g6⟩
  · simp at hp
  · rw [hg] at g1; cases g1
    have hb : Sat H S (lst g T cur.toList :: R) := ⟨⟨k, ⟨k1, k2, g2, h3, hs⟩, h4, h5⟩, h6⟩
    have hcl : xs.length ≤ cur.toList.length := by rw [← g6, List.length_take]; omega
    refine hb.store (by omega) fun H' hs' => hk H' (hs'.weak fun k hk => ⟨?_, .inr ⟨g, (putL cur.toList off vs).toArray, hg, hk, g3, g4, ?_, ?_⟩⟩)
    · rw [putL_len ho]; exact h1
    · have : (putL cur.toList off vs).toArray.size = cur.size := by rw [List.size_toArray, putL_len (by omega), Array.length_toList]
      rw [this]; exact g5
    · have e : v.l * sz = xs.length := h1.symm
      rw [e, List.toList_toArray, putL_take ho hcl, ← e, g6]
def iV (l : List Nat) : List Value := l.map fun (n : Nat) => .int .i64 (n : Int)
theorem iV_len (l : List Nat) : (iV l).length = l.length := by simp [iV]
theorem iV_put (l : List Nat) {j : Nat} (hj : j < l.length) (n : Nat) : putL (iV l) j [.int .i64 (n : Int)] = iV (l.set j n) := by
  unfold putL iV
  rw [List.set_eq_take_append_cons_drop, if_pos hj]
  simp
def ownI (v : Sl) (l : List Nat) : Asn := own 3 1 v (iV l)
theorem ownI.len {v : Sl} {l : List Nat} (h : Sat H S (ownI v l :: R)) : v.l = l.length ∧ v.l ≤ v.c := by
  obtain ⟨h1, h2⟩ := own.len h
  rw [iV_len] at h1
  exact ⟨by omega, h2⟩
theorem ownI.at {v : Sl} {l : List Nat} (h : Sat H S (ownI v l :: R)) {k : Nat} (hk : k < l.length) : ∃ g, v.a = some ⟨g, 0, none⟩ ∧ ∀ j (hj : j < l.length), cellH H g (0 + j) = some (.int .i64 (l[j] : Int)) := by
  obtain ⟨g, h1, h2⟩ := own.cells h (by rw [iV_len]; omega)
  exact ⟨g, h1, fun j hj => h2.get j _ (by simp [iV, hj])⟩
theorem ownI_store {v : Sl} {l : List Nat} (h : Sat H S (ownI v l :: R)) {j n : Nat} (hj : j < l.length) {g : Nat} (hg : v.a = some ⟨g, 0, none⟩)
    {K : Heap → Prop} (hk : ∀ H', Sat H' S (ownI v (l.set j n) :: R) → K H') : CanSt H g (0 + j) [.int .i64 (n : Int)] ∧ ∀ H', Stored H g (0 + j) [.int .i64 (n : Int)] H' → K H' := by
  rw [Nat.zero_add]
  refine own_store h (by rw [iV_len]; simp; omega) (by rw [iV_len]; omega) hg fun H' hs' => hk H' ?_
  rw [iV_put l hj] at hs'
  exact hs'
theorem swap_perm {l : List Nat} {j : Nat} (h : j + 1 < l.length) : ((l.set (j + 1) l[j]).set j l[j + 1]).Perm l := by
  have e : l = l.take j ++ l[j] :: l[j + 1] :: l.drop (j + 2) := by
    conv => lhs; rw [← List.take_append_drop j l, List.drop_eq_getElem_cons (by omega), List.drop_eq_getElem_cons h]
  have e2 : (l.set (j + 1) l[j]).set j l[j + 1] = l.take j ++ l[j + 1] :: l[j] :: l.drop (j + 2) := by
    apply List.ext_getElem?
    intro k
    have ht : (l.take j).length = j := by rw [List.length_take]; omega
    rcases Nat.lt_trichotomy k j with hk | hk | hk
    · rw [List.getElem?_set_ne (by omega), List.getElem?_set_ne (by omega), List.getElem?_append_left (by omega), List.getElem?_take, if_pos hk]
    · subst hk
      rw [List.getElem?_set_self (by simp; omega), List.getElem?_append_right (by omega), ht]; simp
    · rw [List.getElem?_set_ne (by omega), List.getElem?_append_right (by omega), ht]
      by_cases hk1 : k = j + 1
      · subst hk1
        rw [List.getElem?_set_self (by omega)]
        have : j + 1 - j = 1 := by omega
        rw [this]; simp
      · rw [List.getElem?_set_ne (by omega)]
        have : k - j = (k - j - 2) + 2 := by omega
        rw [this]
        simp only [List.getElem?_cons_succ, List.getElem?_drop]
        congr 1; omega
  rw [e2]
  conv => rhs; rw [e]
  exact .append_left _ (.swap _ _ _)
def Ord1 (ser : Nat → Nat) (l : List Nat) (n j : Nat) : Prop := ∀ a b, a < b → b < n → b ≠ j → ser (l.getD a 0) ≤ ser (l.getD b 0)
def Ord (ser : Nat → Nat) (l : List Nat) (n : Nat) : Prop := ∀ a b, a < b → b < n → ser (l.getD a 0) ≤ ser (l.getD b 0)
theorem getD_at {l : List Nat} {j : Nat} (h : j < l.length) : l.getD j 0 = l[j] := by simp [List.getD_eq_getElem?_getD, h]
theorem swap_getD {l : List Nat} {j : Nat} (h : j + 1 < l.length) (k : Nat) : ((l.set (j + 1) l[j]).set j l[j + 1]).getD k 0 = if k = j then l.getD (j + 1) 0 else if k = j + 1 then l.getD j 0 else l.getD k 0 := by
  simp only [List.getD_eq_getElem?_getD]
  by_cases h1 : k = j
  · subst h1
    rw [if_pos rfl, List.getElem?_set_self (by simp; omega), List.getElem?_eq_getElem h]
  · rw [if_neg h1, List.getElem?_set_ne (Ne.symm h1)]
    by_cases h2 : k = j + 1
    · subst h2
      rw [if_pos rfl, List.getElem?_set_self (by omega), List.getElem?_eq_getElem (by omega)]
    · rw [if_neg h2, List.getElem?_set_ne (Ne.symm h2)]
theorem insertion_spec {v : Sl} {L0 : List Nat} {ser : Nat → Nat} {cmp : Value} (hs : Sat H S (ownI v L0 :: R)) (hlen : L0.length < 1000000)
    (hcmp : ∀ l h x y (K : Value → Heap → Prop), x ∈ L0 → y ∈ L0 → Sat h S (ownI v l :: R) → (∀ h' (n : Int), (n < 0 ↔ ser x < ser y) → Sat h' S (ownI v l :: R) → K (.int .i64 n) h') → CallV Tryz.prog cmp [.int .i64 (x : Int), .int .i64 (y : Int)] h K)
    {K : Value → Heap → Prop} (hK : ∀ h' l, l.Perm L0 → Ord ser l l.length → Sat h' S (ownI v l :: R) → K (.tuple #[]) h') : CallsH Tryz.prog 179 #[.slice v.a v.l v.c, .int .i64 0, .int .i64 (L0.length : Int), cmp] H K := by
  apply vc179
  have hl := (ownI.len hs).1
  refine ⟨fun n1 h => ∃ (i : Nat) (l : List Nat), n1 = i ∧ 0 < i ∧ l.Perm L0 ∧ Ord ser l (min i l.length) ∧ Sat h S (ownI v l :: R), fun n1 _ => L0.length - n1.toNat, ⟨1, L0, by rw [show (0 : Int) + 1 = 1 from rfl]; exact i64_in (by decide) (by decide), by omega, .refl _, fun a b h1 h2 => by omega, hs⟩, ?_⟩
  rintro n1 h1 ⟨i, l, rfl, hi, hp, ho, hs1⟩ _
  have hll := hp.length_eq
  refine CondP.of (fun hc => ?_) (fun hc => ?_)
  rotate_left
  · have : L0.length ≤ i := by simp at hc; omega
    rw [Nat.min_eq_right (by omega)] at ho
    exact hK h1 l hp ho hs1
  have hc : i < L0.length := by simp at hc; omega
  rw [Nat.min_eq_left (by omega)] at ho
  have next : ∀ (h : Heap) (l' : List Nat), l'.Perm L0 → Ord ser l' (i + 1) → Sat h S (ownI v l' :: R) →
      (∃ (i' : Nat) (l : List Nat), IntKind.i64.wrap ((i : Int) + 1) = i' ∧ 0 < i' ∧ l.Perm L0 ∧ Ord ser l (min i' l.length) ∧ Sat h S (ownI v l :: R)) ∧ L0.length - (IntKind.i64.wrap ((i : Int) + 1)).toNat < L0.length - (i : Int).toNat := by
    intro h l' hp' ho' hs'
    rw [i64_succ (by omega)]
    refine ⟨⟨i + 1, l', rfl, by omega, hp', ?_, hs'⟩, ?_⟩
    · rw [Nat.min_eq_left (by have := hp'.length_eq; omega)]; exact ho'
    · show L0.length - (i + 1) < L0.length - i; omega
  refine ⟨fun n2 h => ∃ (j : Nat) (l : List Nat), n2 = j ∧ j ≤ i ∧ l.Perm L0 ∧ Ord1 ser l (i + 1) j ∧ Sat h S (ownI v l :: R), fun n2 _ => n2.toNat, ⟨i, l, rfl, Nat.le_refl _, hp, fun a b h1 h2 h3 => ho a b h1 (by omega), hs1⟩, ?_⟩
  rintro n2 h2 ⟨j, l, rfl, hj, hp, ho, hs2⟩ _
  have hll := hp.length_eq
  refine CondP.of (fun hc2 => ?_) (fun hc2 => ?_)
  rotate_left
  · have : j = 0 := by simp at hc2; omega
    subst this
    exact next h2 l hp (fun a b h1 h2 => ho a b h1 h2 (by omega)) hs2
  have hj0 : 0 < j := by simp at hc2; omega
  obtain ⟨j, rfl⟩ : ∃ j', j = j' + 1 := ⟨j - 1, by omega⟩
  obtain ⟨g, ga, gc⟩ := ownI.at hs2 (k := 0) (by omega)
  have e1 : IntKind.i64.wrap (((j + 1 : Nat) : Int) - 1) = (j : Int) := by rw [i64_in (by omega) (by omega)]; omega
  rw [e1]
  simp only [Int.toNat_natCast]
  refine ⟨⟨by omega, by omega⟩, NilP.of ga ⟨_, gc (j + 1) (by omega), ⟨by omega, by omega⟩, NilP.of ga ⟨_, gc j (by omega), ?_⟩⟩⟩
  refine hcmp l h2 l[j + 1] l[j] _ (hp.mem_iff.1 (List.getElem_mem _)) (hp.mem_iff.1 (List.getElem_mem _)) hs2 fun h3 n5 hn5 hs3 => ⟨n5, rfl, CondP.of (fun hc3 => ?_) (fun hc3 => ?_)⟩
  · have hlt : ser l[j + 1] < ser l[j] := hn5.1 (of_decide_eq_true hc3)
    obtain ⟨g', ga', gc'⟩ := ownI.at hs3 (k := 0) (by omega)
    rw [ga] at ga'; cases ga'
    refine ⟨⟨by omega, by omega⟩, NilP.of ga ⟨_, gc' j (by omega), ⟨by omega, by omega⟩, NilP.of ga ⟨_, gc' (j + 1) (by omega), ⟨by omega, by omega⟩, NilP.of ga ?_⟩⟩⟩
    refine ownI_store hs3 (j := j + 1) (by omega) ga fun h4 hs4 => ⟨⟨by omega, by omega⟩, NilP.of ga ?_⟩
    refine ownI_store hs4 (j := j) (by simp; omega) ga fun h5 hs5 => ⟨⟨j, _, rfl, by omega, (swap_perm (by omega)).trans hp, ?_, hs5⟩, by omega⟩
    intro a b hab hb hbj
    rw [← getD_at (by omega), ← getD_at (by omega)] at hlt
    rw [swap_getD (by omega), swap_getD (by omega)]
    by_cases hb1 : b = j + 1
    · subst hb1
      rw [if_neg hbj, if_pos rfl]
      by_cases ha : a = j
      · rw [if_pos ha]; omega
      · rw [if_neg ha, if_neg (by omega)]
        exact ho a j (by omega) (by omega) (by omega)
    · rw [if_neg hbj, if_neg hb1]
      by_cases ha : a = j
      · rw [if_pos ha]; exact ho (j + 1) b (by omega) hb (by omega)
      · rw [if_neg ha]
        by_cases ha1 : a = j + 1
        · rw [if_pos ha1]; exact ho j b (by omega) hb (by omega)
        · rw [if_neg ha1]; exact ho a b hab hb (by omega)
  · have hge : ser (l.getD j 0) ≤ ser (l.getD (j + 1) 0) := by
      rw [getD_at (by omega), getD_at (by omega)]
      have h : ¬ n5 < 0 := of_decide_eq_false hc3
      rw [hn5] at h; omega
    refine next h3 l hp (fun a b hab hb => ?_) hs3
    by_cases hbj : b = j + 1
    · subst hbj
      by_cases ha : a = j
      · subst ha; exact hge
      · exact Nat.le_trans (ho a j (by omega) (by omega) (by omega)) hge
    · exact ho a b hab hb hbj
end
end Go.Sx.Tryz
namespace Go.Sx.Tryz
open Go Go.Sx Go.Proofs
set_option maxRecDepth 100000
set_option linter.unusedVariables false
noncomputable def c38 : Code := (Tryz.f38.body).getD .skip
def a38 : Ann := (.seq .leaf (.seq .leaf (.seq (.seq .leaf (.inn (.loop [(3, .one (.sl)), (11, .one (.i .i64))] (.seq .leaf (.seq (.br .leaf .leaf) (.seq (.inn (.seq .leaf (.seq .leaf (.br (.seq .leaf .leaf) .leaf)))) .leaf)))))) (.seq .leaf .leaf))))
theorem ok38 : okC tab 33 true c38 a38 = true := by kernel_rfl
theorem vc38 (files_ : Sl) (h : Heap) (R : Value → Heap → Prop)
  (hv : ∀ b1 h1, Fresh h (.cells #[.int .u64 0, .int .u64 0, .slice none 0 0, .slice none 0 0] 94) b1 h1 →
   CallsH Tryz.prog 94 #[.slice files_.a files_.l files_.c] h1 (fun r1 h2 => ∃ x1 : Sl, r1 = .slice x1.a x1.l x1.c ∧
   ∃ (I1 : Sl → Int → Heap → Prop) (mu1 : Sl → Int → Heap → Nat), I1 x1 0 h2 ∧ (∀ x2 : Sl, ∀ n1 : Int, ∀ h3, I1 x2 n1 h3 → ∀ _ : Env,
   CondP (decide ((n1 : Int) < ((x1.l : Nat) : Int))) (
   ((0 : Int) ≤ n1 ∧ (n1 : Int) < ((x1.l : Nat) : Int)) ∧
   NilP x1.a (fun b2 o1 =>
   ∃ n2 : Int, cellH h3 b2 (o1 + n1.toNat) = some (.int .i64 n2) ∧
   ((0 : Int) ≤ n2 ∧ (n2 : Int) < ((files_.l : Nat) : Int)) ∧
   NilP files_.a (fun b3 o2 =>
   ∃ x3 : Sl, cellH h3 b3 (o2 + n2.toNat) = some (.slice x3.a x3.l x3.c) ∧
   CallsH Tryz.prog 95 #[.pointer (some ⟨b1, 0, none⟩), .slice x3.a x3.l x3.c, .bool ((n1 : Int) == 0), .bool ((n1 : Int) == (IntKind.i64.wrap (((x2.l : Nat) : Int) - 1)))] h3 (fun r2 h4 => ∃ t1 : Bool, r2 = .bool t1 ∧
   CondP (!t1) (
   CanSt h4 b1 0 [.int .u64 0, .int .u64 0, .slice none 0 0, .slice none 0 0] ∧ ∀ h5, Stored h4 b1 0 [.int .u64 0, .int .u64 0, .slice none 0 0, .slice none 0 0] h5 →
   ∃ n3 : Int, ∃ n4 : Int, ∃ x4 : Sl, ∃ x5 : Sl, CellsAt h5 b1 0 [.int .u64 n3, .int .u64 n4, .slice x4.a x4.l x4.c, .slice x5.a x5.l x5.c] ∧
   R (.tuple #[.agg #[.int .u64 n3, .int .u64 n4, .slice x4.a x4.l x4.c, .slice x5.a x5.l x5.c], .slice none 0 0, .int .i64 20]) h5) (
   I1 x2 (IntKind.i64.wrap (n1 + 1)) h4 ∧ mu1 x2 (IntKind.i64.wrap (n1 + 1)) h4 < mu1 x2 n1 h3))))) (
   ∃ n5 : Int, ∃ n6 : Int, ∃ x6 : Sl, ∃ x7 : Sl, CellsAt h3 b1 0 [.int .u64 n5, .int .u64 n6, .slice x6.a x6.l x6.c, .slice x7.a x7.l x7.c] ∧
   CanSt h3 b1 0 [.int .u64 n5, .int .u64 n6, .slice x6.a x6.l x6.c, .slice x7.a x7.l x7.c] ∧ ∀ h6, Stored h3 b1 0 [.int .u64 n5, .int .u64 n6, .slice x6.a x6.l x6.c, .slice x7.a x7.l x7.c] h6 →
   ∃ n7 : Int, ∃ n8 : Int, ∃ x8 : Sl, ∃ x9 : Sl, CellsAt h6 b1 0 [.int .u64 n7, .int .u64 n8, .slice x8.a x8.l x8.c, .slice x9.a x9.l x9.c] ∧
   R (.tuple #[.agg #[.int .u64 n7, .int .u64 n8, .slice x8.a x8.l x8.c, .slice x9.a x9.l x9.c], .slice x2.a x2.l x2.c, .int .i64 0]) h6)))) :
  CallsH Tryz.prog 38 #[.slice files_.a files_.l files_.c] h R :=
  calls_of_vc tabOk mixed Tryz.func38 (c := c38) (by kernel_rfl) (n := 33) rfl (rs := [.cell 2 94, .tmp 3, .tmp 4]) (by kernel_rfl) ok38 (args := [.slice files_.a files_.l files_.c]) (Nat.le_of_ble_eq_true rfl) (Eq.mpr (by kernel_rfl) hv)
end Go.Sx.Tryz
namespace Go.Sx.Tryz
open Go Go.Sx Go.Proofs
set_option linter.unusedVariables false
section
variable {H H' : Heap} {S : PH} {R : List Asn}
theorem sort_spec {v : Sl} {L0 : List Nat} {ser : Nat → Nat} {cmp : Value} (hs : Sat H S (ownI v L0 :: R)) (hlen : L0.length < 20)
    (hcmp : ∀ l h x y (K : Value → Heap → Prop), x ∈ L0 → y ∈ L0 → Sat h S (ownI v l :: R) → (∀ h' (n : Int), (n < 0 ↔ ser x < ser y) → Sat h' S (ownI v l :: R) → K (.int .i64 n) h') → CallV Tryz.prog cmp [.int .i64 (x : Int), .int .i64 (y : Int)] h K)
    {K : Value → Heap → Prop} (hK : ∀ h' l, l.Perm L0 → Ord ser l l.length → Sat h' S (ownI v l :: R) → K (.tuple #[]) h') : CallsH Tryz.prog 127 #[.slice v.a v.l v.c, cmp] H K := by
  apply vc127
  apply vc164
  have hl := (ownI.len hs).1
  refine ⟨fun n1 n2 h => n1 = 0 ∧ n2 = 20 ∧ Sat h S (ownI v L0 :: R), fun _ _ _ => 0, ⟨rfl, rfl, hs⟩, ?_⟩
  rintro n1 n2 h1 ⟨rfl, rfl, hs1⟩ _
  refine CondP.of (fun hc => by simp at hc; omega) fun _ => ?_
  rw [show ((v.l : Nat) : Int) = ((L0.length : Nat) : Int) by rw [hl]]
  refine insertion_spec hs1 (by omega) hcmp fun h2 l hp ho hs2 => ⟨rfl, ?_⟩
  refine ⟨fun n3 h => n3 = 20 ∧ Sat h S (ownI v l :: R), fun _ _ => 0, ⟨rfl, hs2⟩, ?_⟩
  rintro n3 h3 ⟨rfl, hs3⟩ _
  exact CondP.of (fun hc => by simp at hc; omega) fun _ => ⟨rfl, hK h3 l hp ho hs3⟩
theorem compare_spec {a b : Nat} {K : Value → Heap → Prop} (hK : ∀ n : Int, (n < 0 ↔ a < b) → K (.int .i64 n) H) : CallsH Tryz.prog 129 #[.int .u64 (a : Int), .int .u64 (b : Int)] H K := by
  apply vc129
  apply vc165
  refine ⟨_, rfl, ?_⟩
  apply vc165
  refine ⟨_, rfl, CondP.of (fun hc => by simp at hc) fun _ => CondP.of (fun hc => by simp at hc) fun _ => CondP.of (fun hc => ?_) fun hc => CondP.of (fun hc2 => ?_) fun hc2 => ?_⟩
  · exact hK _ ⟨fun _ => by simp at hc; omega, fun _ => by decide⟩
  · exact hK _ ⟨fun h => absurd h (by decide), fun h => by simp at hc; omega⟩
  · exact hK _ ⟨fun h => absurd h (by decide), fun h => by simp at hc; omega⟩
def FOk (S : PH) (x : Sl) : Option Hd → Prop
  | some hd => hd.ok ∧ ∃ rest, RdB S x (parcelB 1 hd.body ++ rest) ∧ rest.length < 1000000000
  | none => ∃ t, RdB S x t ∧ Tail t
theorem FOk.mono {S S' : PH} {x : Sl} {o : Option Hd} (h : FOk S x o) (hs : PH.le S S') : FOk S' x o := by
  cases o with
  | none => obtain ⟨t, h1, h2⟩ := h; exact ⟨t, h1.mono hs, h2⟩
  | some hd => obtain ⟨h0, r, h1, h2⟩ := h; exact ⟨h0, r, h1.mono hs, h2⟩
def fV (vs : List Sl) : List Value := vs.map fun x => .slice x.a x.l x.c
def isSeg (hs : List (Option Hd)) (i : Nat) : Bool := ((hs[i]?).getD none).isSome
def serOf (hs : List (Option Hd)) (i : Nat) : Nat := match (hs[i]?).getD none with | some h => h.serial | none => 0
def ixs (hs : List (Option Hd)) (n : Nat) : List Nat := (List.range n).filter (isSeg hs)
def prs (hs : List (Option Hd)) (n : Nat) : List (Int × Int) := (ixs hs n).map fun (i : Nat) => (((i : Nat) : Int), (serOf hs i : Int))
theorem ixs_succ (hs : List (Option Hd)) (n : Nat) : ixs hs (n + 1) = ixs hs n ++ (if isSeg hs n = true then [n] else []) := by
  simp only [ixs, List.range_succ, List.filter_append, List.filter_cons, List.filter_nil]
theorem mem_ixs {hs : List (Option Hd)} {n i : Nat} : i ∈ ixs hs n ↔ i < n ∧ isSeg hs i = true := by simp [ixs]
theorem ixs_len (hs : List (Option Hd)) (n : Nat) : (ixs hs n).length ≤ n := by
  have := List.length_filter_le (isSeg hs) (List.range n)
  rw [List.length_range] at this; exact this
theorem mget_map : ∀ {l : List Nat} {f : Nat → Int} {a : Nat}, (a ∈ l → mget (l.map fun (i : Nat) => (((i : Nat) : Int), f i)) a = some (f a)) ∧ (a ∉ l → mget (l.map fun (i : Nat) => (((i : Nat) : Int), f i)) a = none)
  | [], f, a => ⟨fun h => (by cases h), fun _ => rfl⟩
  | x :: l, f, a => by
    have ih := mget_map (l := l) (f := f) (a := a)
    simp only [List.map_cons, mget]
    by_cases h : a = x
    · subst h; exact ⟨fun _ => by simp, fun hn => absurd List.mem_cons_self hn⟩
    · rw [if_neg (by omega)]
      exact ⟨fun hm => ih.1 ((List.mem_cons.1 hm).resolve_left h), fun hn => ih.2 fun hm => hn (List.mem_cons_of_mem _ hm)⟩
theorem el45 : ElemOk Tryz.prog 45 3 1 8 := ElemOk.mk' (z := .int .i64 0) Tryz.underlying45 (by kernel_rfl) rfl (by decide)
theorem iV_one (l : List Nat) : ∀ u ∈ iV l, u.oneCell' = true := by
  intro u hu
  obtain ⟨c, _, rfl⟩ := List.mem_map.1 hu
  rfl
theorem order_spec {fv : Sl} {vs : List Sl} {hds : List (Option Hd)} (hs : Sat H S R) (hf : Rd S fv 1 (fV vs)) (hl : vs.length = hds.length) (hn : vs.length < 20) (hok : ∀ i (h : i < vs.length), FOk S vs[i] ((hds[i]?).getD none))
    {K : Value → Heap → Prop} (hK : ∀ (x : Sl) L H' S', PH.le S S' → L.Perm (ixs hds vs.length) → Ord (serOf hds) L L.length → Sat H' S' (ownI x L :: R) → K (.slice x.a x.l x.c) H') : CallsH Tryz.prog 94 #[.slice fv.a fv.l fv.c] H K := by
  apply vc94
  have hfl : fv.l = vs.length := by have := hf.1; simp [fV] at this; omega
  refine makeMap_run hs fun mb h1 hs1 => ?_
  intro b1 h2 f2
  have hs2 : Sat h2 S (lst b1 193 [.map none] :: mp mb [] :: R) := hs1.fresh f2
  refine hs2.store (Nat.le_refl _) fun h3 hs3 => ?_
  have hs3 : Sat h3 S (lst b1 193 [.map (some mb)] :: mp mb [] :: R) := hs3
  refine ⟨fun x n h => ∃ i : Nat, n = i ∧ i ≤ vs.length ∧ ∃ S', PH.le S S' ∧ Sat h S' (ownI x (ixs hds i) :: lst b1 193 [.map (some mb)] :: mp mb (prs hds i) :: R), fun _ n _ => vs.length - n.toNat, ⟨0, rfl, Nat.zero_le _, S, PH.le.refl _, own.new 3 1 hs3⟩, ?_⟩
  rintro x n h4 ⟨i, rfl, hi, S1, hS1, hs4⟩ _
  have hil := ixs_len hds i
  refine CondP.of (fun hc => ?_) (fun hc => ?_)
  · have hc : i < vs.length := by simp at hc; omega
    have e1 : IntKind.i64.wrap ((i : Int) + 1) = ((i + 1 : Nat) : Int) := i64_succ (by omega)
    refine ⟨⟨by omega, by omega⟩, ?_⟩
    obtain ⟨fb, fo, fa, fc⟩ := Rd.at (hf.mono hS1) hs4 (by omega)
    refine NilP.of fa ⟨vs[i], by have := fc.get i (.slice vs[i].a vs[i].l vs[i].c) (by simp [fV, hc]); simpa using this, ?_⟩
    have hfi := (hok i hc).mono hS1
    cases hh : (hds[i]?).getD none with
    | none =>
      rw [hh] at hfi
      obtain ⟨t, t1, t2⟩ := hfi
      refine headOf_torn hs4 t1 t2 fun h5 hs5 hd => ⟨_, _, _, _, _, rfl, ?_⟩
      intro b3 h6 f6
      have hs6 : Sat h6 S1 (lst b3 103 [.int .u64 0, .bool false, .int .u64 0, .int .u64 0] :: ownI x (ixs hds i) :: lst b1 193 [.map (some mb)] :: mp mb (prs hds i) :: R) := hs5.fresh f6
      refine hs6.store (Nat.le_refl _) fun h7 hs7 => CondP.of (fun hc => by cases hc) fun _ => ⟨⟨i + 1, e1, hc, S1, hS1, ?_⟩, ?_⟩
      · have hsg : isSeg hds i = false := by rw [isSeg, hh]; rfl
        have e2 : ixs hds (i + 1) = ixs hds i := by rw [ixs_succ, if_neg (by rw [hsg]; simp), List.append_nil]
        rw [prs, e2]
        exact hs7.drop
      · show vs.length - (IntKind.i64.wrap ((i : Int) + 1)).toNat < vs.length - i
        rw [e1]; show vs.length - (i + 1) < _; omega
    | some hd =>
      rw [hh] at hfi
      obtain ⟨k0, rest, k1, k2⟩ := hfi
      refine headOf_ok hs4 k1 k0 k2 fun h5 S2 hS2 hs5 => ⟨_, _, _, _, _, rfl, ?_⟩
      intro b3 h6 f6
      have hs6 : Sat h6 S2 (lst b3 103 [.int .u64 0, .bool false, .int .u64 0, .int .u64 0] :: ownI x (ixs hds i) :: lst b1 193 [.map (some mb)] :: mp mb (prs hds i) :: R) := hs5.fresh f6
      refine hs6.store (Nat.le_refl _) fun h7 hs7 => CondP.of (fun _ => ?_) fun hc => by cases hc
      have hs7 : Sat h7 S2 (lst b3 103 (hdV hd) :: ownI x (ixs hds i) :: lst b1 193 [.map (some mb)] :: mp mb (prs hds i) :: R) := hs7
      have hsg : isSeg hds i = true := by rw [isSeg, hh]; rfl
      have hse : serOf hds i = hd.serial := by rw [serOf, hh]
      have e2 : ixs hds (i + 1) = ixs hds i ++ [i] := by rw [ixs_succ, if_pos hsg]
      refine ⟨some mb, (hs7.pick 2 rfl).cell 0 rfl, _, hs7.cell 0 rfl, ?_⟩
      refine mapUpdate_run Tryz.underlying193 Tryz.underlying3 (l := prs hds i) (mget_map.2 fun hm => by have := (mem_ixs.1 hm).1; omega) (hs7.sel [3]) fun h8 hs8 => ?_
      intro b4 h9 f9
      have hs9 : Sat h9 S2 (lst b4 3 (iV [i]) :: mp mb (prs hds i ++ [((i : Int), (hd.serial : Int))]) :: lst b3 103 (hdV hd) :: ownI x (ixs hds i) :: lst b1 193 [.map (some mb)] :: R) := hs8.fresh f9
      have hxl := (ownI.len (hs9.pick 3 rfl)).1
      refine append_one el45 (v := x) (xs := iV (ixs hds i)) (hs9.sel [0, 2]) rfl (iV_one _) (by omega) (by unfold maxLen; omega) fun x' h10 hx' hs10 => ⟨⟨i + 1, e1, hc, S2, hS1.trans hS2, ?_⟩, ?_⟩
      · rw [prs, e2]
        have e3 : iV (ixs hds i) ++ iV [i] = iV (ixs hds i ++ [i]) := by simp [iV]
        rw [e3] at hs10
        have hs11 := (hs10.sel [0, 2]).del 3
        rw [List.map_append, List.map_cons, List.map_nil, hse]
        exact hs11
      · show vs.length - (IntKind.i64.wrap ((i : Int) + 1)).toNat < vs.length - i
        rw [e1]; show vs.length - (i + 1) < _; omega
  · have hc : i = vs.length := by simp at hc; omega
    subst hc
    refine sort_spec (ser := serOf hds) hs4 (by omega) (fun l h a b K' ha hb hs' hK' => ?_) fun h5 L hp ho hs5 => ⟨rfl, hK x L h5 S1 hS1 hp ho (hs5.del 1 |>.del 1)⟩
    refine .inl ⟨128, #[], _, rfl, call128, vc128 _ _ b1 0 _ _ ?_⟩
    have c1 := hs'.pick 1 rfl
    refine ⟨some mb, c1.cell 0 rfl, (serOf hds a : Int), lookup_run Tryz.underlying193 Tryz.underlying3 (mget_map.1 ha) (hs'.pick 2 rfl), some mb, c1.cell 0 rfl, (serOf hds b : Int), lookup_run Tryz.underlying193 Tryz.underlying3 (mget_map.1 hb) (hs'.pick 2 rfl), ?_⟩
    exact compare_spec fun n hn => ⟨n, rfl, hK' h n hn hs'⟩
end
end Go.Sx.Tryz
namespace Go.Sx.Tryz
open Go Go.Sx Go.Proofs
set_option linter.unusedVariables false
theorem strict_unique {ser : Nat → Nat} : ∀ {l m : List Nat}, l.Perm m → l.Pairwise (fun a b => ser a ≤ ser b) → m.Pairwise (fun a b => ser a < ser b) → l = m
  | [], m, hp, _, _ => (List.Perm.nil_eq hp)
  | b :: l, [], hp, _, _ => by cases List.Perm.eq_nil hp
  | b :: l, a :: m, hp, hl, hm => by
    have e : b = a := by
      rcases Decidable.em (b = a) with h | h
      · exact h
      · exfalso
        have h1 : a ∈ l := (List.mem_cons.1 (hp.symm.subset List.mem_cons_self)).resolve_left (Ne.symm h)
        have h2 : b ∈ m := (List.mem_cons.1 (hp.subset List.mem_cons_self)).resolve_left h
        have h3 := (List.pairwise_cons.1 hl).1 a h1
        have h4 := (List.pairwise_cons.1 hm).1 b h2
        omega
    subst e
    rw [strict_unique (List.Perm.cons_inv hp) (List.pairwise_cons.1 hl).2 (List.pairwise_cons.1 hm).2]
theorem Ord.pairwise {ser : Nat → Nat} {l : List Nat} (h : Ord ser l l.length) : l.Pairwise fun a b => ser a ≤ ser b := by
  rw [List.pairwise_iff_getElem]
  intro i j hi hj hij
  have := h i j hij hj
  rwa [getD_at hi, getD_at hj] at this
def readAll : Bool → PL → List (List Rec) → Option PL
  | _, g, [] => some g
  | o, g, rs :: l => (rs.foldlM (Rd1.step o) ⟨g, false, 0⟩).bind fun s => readAll false s.g l
theorem readAll_path : ∀ {l : List (List Rec)} {o : Bool} {g g' : PL}, readAll o g l = some g' → ∃ p : Nat → PL, p 0 = g ∧ p l.length = g' ∧ ∀ k (h : k < l.length), ∃ s, l[k].foldlM (Rd1.step (o && k == 0)) ⟨p k, false, 0⟩ = some s ∧ s.g = p (k + 1)
  | [], o, g, g', h => ⟨fun _ => g, rfl, by simpa [readAll] using h, fun k h => by simp at h⟩
  | rs :: l, o, g, g', h => by
    obtain ⟨s, h1, h2⟩ := Option.bind_eq_some_iff.1 h
    obtain ⟨p, p0, p1, p2⟩ := readAll_path h2
    refine ⟨fun i => match i with | 0 => g | i + 1 => p i, rfl, p1, fun k hk => ?_⟩
    cases k with
    | zero => exact ⟨s, by simpa using h1, p0.symm⟩
    | succ k =>
      obtain ⟨s', q1, q2⟩ := p2 k (by simpa using hk)
      refine ⟨s', ?_, q2⟩
      have e : (o && (k + 1 == 0)) = (false && k == 0) := by simp
      rw [e]; exact q1
theorem foldM_con {o : Bool} {rs : List Rec} {s s' : Rd1} (h : rs.foldlM (Rd1.step o) s = some s') (hc : s.g.Con) : s'.g.Con ∧ s'.g.es.length ≤ s.g.es.length + rs.length := by
  obtain ⟨p, p0, p1, p2⟩ := foldM_path h
  have key : ∀ i, i ≤ rs.length → (p i).g.Con ∧ (p i).g.es.length ≤ s.g.es.length + i := by
    intro i
    induction i with
    | zero => intro _; rw [p0]; exact ⟨hc, Nat.le_refl _⟩
    | succ i ih =>
      intro hi
      obtain ⟨h1, h2⟩ := ih (by omega)
      have := p2 i (by omega)
      exact ⟨Rd1.step_con h1 this, by have := Rd1.step_len this; omega⟩
  have := key rs.length (Nat.le_refl _)
  rwa [p1] at this
section
variable {H H' : Heap} {S : PH} {R : List Asn}
def SegOk (S : PH) (x : Sl) (rs : List Rec) (t : List UInt8) : Prop := RdB S x (pbs (rs.map Rec.par) ++ t) ∧ (∀ r ∈ rs, r.ok) ∧ Tail t ∧ x.l < 1000000000 ∧ rs.length < 30000
theorem SegOk.mono {S S' : PH} {x : Sl} {rs : List Rec} {t : List UInt8} (h : SegOk S x rs t) (hs : PH.le S S') : SegOk S' x rs t := ⟨h.1.mono hs, h.2⟩
theorem scan_spec {fv : Sl} {vs : List Sl} {hds : List (Option Hd)} {Ls : List Nat} {rsf : Nat → List Rec} {tl : Nat → List UInt8} {pl : PL} (hs : Sat H S R) (hf : Rd S fv 1 (fV vs)) (hl : vs.length = hds.length) (hn : vs.length < 20) (hok : ∀ i (h : i < vs.length), FOk S vs[i] ((hds[i]?).getD none))
    (hperm : (ixs hds vs.length).Perm Ls) (hstr : Ls.Pairwise fun a b => serOf hds a < serOf hds b)
    (hseg : ∀ k (h : k < Ls.length) (h2 : Ls[k] < vs.length), SegOk S vs[Ls[k]] (rsf Ls[k]) (tl Ls[k]) ∧ (tl Ls[k] = [] ∨ k + 1 = Ls.length))
    (hrun : readAll true ⟨0, 0, []⟩ (Ls.map rsf) = some pl)
    {K : Value → Heap → Prop} (hK : ∀ (x : Sl) (y : Sl) (g : Lg) H' S', PH.le S S' → g.pure = pl → eok S' g.es → Sat H' S' (ownE y g.es :: ownI x Ls :: R) → K (.tuple #[.agg (lgV g.fi g.ft y).toArray, .slice x.a x.l x.c, .int .i64 0]) H') : CallsH Tryz.prog 38 #[.slice fv.a fv.l fv.c] H K := by
  apply vc38
  intro b1 h1 f1
  have hs1 : Sat h1 S (lst b1 94 (lgV 0 0 ⟨none, 0, 0⟩) :: R) := hs.fresh f1
  have hs2 : Sat h1 S (lgA b1 94 ⟨0, 0, []⟩ :: R) := lgA_shut (g := ⟨0, 0, []⟩) (own.new 85 3 hs1).swap
  have hfl : fv.l = vs.length := by have := hf.1; simp [fV] at this; omega
  refine order_spec hs2 hf hl hn hok fun x L h2 S1 hS1 hp ho hs3 => ⟨x, rfl, ?_⟩
  have hL : L = Ls := strict_unique (hp.trans hperm) ho.pairwise hstr
  subst hL
  have hLl : L.length < 20 := by rw [hp.length_eq]; have := ixs_len hds vs.length; omega
  have hmem : ∀ k (h : k < L.length), L[k] < vs.length := fun k h => (mem_ixs.1 (hp.subset (List.getElem_mem h))).1
  obtain ⟨p, p0, p1, p2⟩ := readAll_path hrun
  have hxl := (ownI.len hs3).1
  have hpc : ∀ k, k ≤ L.length → (p k).Con ∧ (p k).es.length ≤ k * 30000 := by
    intro k
    induction k with
    | zero => intro _; rw [p0]; exact ⟨PL.Con.nil 0 0, by simp⟩
    | succ k ih =>
      intro hk
      obtain ⟨h1, h2⟩ := ih (by omega)
      obtain ⟨s, q1, q2⟩ := p2 k (by rw [List.length_map]; omega)
      have := foldM_con q1 h1
      rw [q2] at this
      have h3 := ((hseg k hk (hmem k hk)).1).2.2.2.2
      simp only [List.getElem_map] at this
      exact ⟨this.1, by have h4 := this.2; rw [Nat.add_mul]; omega⟩
  refine ⟨fun y n h => ∃ k : Nat, y = x ∧ n = k ∧ k ≤ L.length ∧ ∃ S' g, PH.le S1 S' ∧ eok S' g.es ∧ g.pure = p k ∧ Sat h S' (lgA b1 94 g :: ownI x L :: R), fun _ n _ => L.length - n.toNat, ⟨0, rfl, rfl, Nat.zero_le _, S1, ⟨0, 0, []⟩, PH.le.refl _, (fun x hx => by cases hx), p0.symm, hs3.swap⟩, ?_⟩
  rintro y n h3 ⟨k, rfl, rfl, hk, S2, g, hS2, hg, hgp, hs4⟩ _
  refine CondP.of (fun hc => ?_) (fun hc => ?_)
  · have hc : k < L.length := by simp at hc; omega
    have hm := hmem k hc
    refine ⟨⟨by omega, by omega⟩, ?_⟩
    obtain ⟨gb, ga, gc⟩ := ownI.at hs4.swap hc
    refine NilP.of ga ⟨_, gc k hc, ⟨by omega, by omega⟩, ?_⟩
    obtain ⟨fb, fo, fa, fc⟩ := Rd.at (hf.mono (hS1.trans hS2)) hs4 (by omega)
    refine NilP.of fa ⟨vs[L[k]], by have := fc.get L[k] (.slice vs[L[k]].a vs[L[k]].l vs[L[k]].c) (by simp [fV, hm]); simpa using this, ?_⟩
    obtain ⟨⟨g1, g2, g3, g4, g5⟩, g6⟩ := hseg k hc hm
    obtain ⟨s, q1, q2⟩ := p2 k (by simpa using hc)
    have e1 : ((k : Int) == 0) = (true && k == 0) := by
      have := beq_nat_int k 0
      simpa using this
    have e2 : ((k : Int) == IntKind.i64.wrap (((y.l : Nat) : Int) - 1)) = decide (k + 1 = L.length) := by
      rw [i64_in (by omega) (by omega), hxl]
      rcases Decidable.em (k + 1 = L.length) with h | h
      · rw [decide_eq_true h, show (k : Int) = ((L.length : Nat) : Int) - 1 by omega]; simp
      · rw [decide_eq_false h]
        exact beq_eq_false_iff_ne.2 (by omega)
    rw [e1, e2]
    simp only [List.getElem_map] at q1
    rw [← hgp] at q1
    have hpk := hpc k hk
    rw [← hgp] at hpk
    have hgl : g.es.length ≤ k * 30000 := by have := hpk.2; simpa [Lg.pure] using this
    refine read_ok hs4 hg (g1.mono (hS1.trans hS2)) g2 g3 (g6.imp id fun h => decide_eq_true h) q1 hpk.1 (by omega) g4 fun h4 S3 g' hS3 hg' hgp' hs5 => ⟨_, rfl, CondP.of (fun hc => by cases hc) fun _ => ?_⟩
    rw [i64_succ (by omega)]
    refine ⟨⟨k + 1, rfl, rfl, hc, S3, g', hS2.trans hS3, hg', by rw [hgp', q2], hs5⟩, ?_⟩
    show L.length - (k + 1) < L.length - k; omega
  · have hc : k = L.length := by simp at hc; omega
    subst hc
    obtain ⟨z, hs5⟩ := lgA_open hs4
    refine ⟨_, _, ⟨none, 0, 0⟩, z, hs5.cells 0 rfl, ?_⟩
    refine hs5.store (by simp [lgV]) fun h6 hs6 => ?_
    have hs6 : Sat h6 S2 (lst b1 94 (lgV g.fi g.ft z) :: ownE z g.es :: ownI y L :: R) := hs6
    refine ⟨_, _, ⟨none, 0, 0⟩, z, hs6.cells 0 rfl, ?_⟩
    refine hK y z g h6 S2 (hS1.trans hS2) ?_ hg hs6.drop
    rw [hgp]
    have := p1
    rw [List.length_map] at this
    exact this
end
end Go.Sx.Tryz
namespace Go.Sx.Tryz
open Go Go.Sx Go.Proofs
set_option maxRecDepth 100000
set_option linter.unusedVariables false
noncomputable def c10 : Code := (Tryz.f10.body).getD .skip
def a10 : Ann := (.seq .leaf (.seq .leaf .leaf))
theorem ok10 : okC tab 3 true c10 a10 = true := by kernel_rfl
theorem vc10  (h : Heap) (R : Value → Heap → Prop)
  (hv : ∀ b1 h1, Fresh h (.cells #[.slice none 0 0, .int .i64 0, .slice none 0 0, .int .i64 0, .slice none 0 0, .int .i64 0, .slice none 0 0, .int .i64 0, .slice none 0 0, .int .i64 0, .slice none 0 0, .int .i64 0, .slice none 0 0, .int .i64 0, .slice none 0 0, .int .i64 0, .slice none 0 0, .int .i64 0, .slice none 0 0, .int .i64 0, .slice none 0 0, .int .i64 0, .slice none 0 0, .int .i64 0, .slice none 0 0, .int .i64 0, .slice none 0 0, .int .i64 0, .slice none 0 0, .int .i64 0, .slice none 0 0, .int .i64 0, .slice none 0 0, .int .i64 0, .slice none 0 0, .int .i64 0, .slice none 0 0, .int .i64 0, .slice none 0 0, .int .i64 0, .slice none 0 0, .int .i64 0, .slice none 0 0, .int .i64 0, .slice none 0 0, .int .i64 0, .slice none 0 0, .int .i64 0, .slice none 0 0, .int .i64 0, .slice none 0 0, .int .i64 0, .slice none 0 0, .int .i64 0, .slice none 0 0, .int .i64 0, .slice none 0 0, .int .i64 0, .slice none 0 0, .int .i64 0, .slice none 0 0, .int .i64 0, .slice none 0 0, .int .i64 0, .bool false, .int .i64 0, .bool false, .int .i64 0] 92) b1 h1 →
   R (.pointer (some ⟨b1, 0, none⟩)) h1) :
  CallsH Tryz.prog 10 #[] h R :=
  calls_of_vc tabOk mixed Tryz.func10 (c := c10) (by kernel_rfl) (n := 3) rfl (rs := [.tmp 0]) (by kernel_rfl) ok10 (args := []) (Nat.le_of_ble_eq_true rfl) (Eq.mpr (by kernel_rfl) hv)
end Go.Sx.Tryz
namespace Go.Sx.Tryz
open Go Go.Sx Go.Proofs
set_option maxRecDepth 100000
set_option linter.unusedVariables false
noncomputable def c93 : Code := (Tryz.f93.body).getD .skip
def a93 : Ann := (.seq .leaf (.seq (.seq .leaf (.br (.seq .leaf .leaf) .leaf)) (.seq .leaf .leaf)))
theorem ok93 : okC tab 20 true c93 a93 = true := by kernel_rfl
theorem vc93 (d_b d_o : Nat) (n_ : Int) (h : Heap) (R : Value → Heap → Prop)
  (hv : CondP (decide ((n_ : Int) < 0)) (
   R (.pointer none) h) (
   CondP (decide ((n_ : Int) ≥ 32)) (
   R (.pointer none) h) (
   ((0 : Int) ≤ n_ ∧ (n_ : Int) < (32 : Int)) ∧
   Nat.ble 2 32 = true ∧ R (.pointer (some ⟨d_b, d_o + n_.toNat * 2, none⟩)) h))) :
  CallsH Tryz.prog 93 #[.pointer (some ⟨d_b, d_o, none⟩), .int .i64 n_] h R :=
  calls_of_vc tabOk mixed Tryz.func93 (c := c93) (by kernel_rfl) (n := 20) rfl (rs := [.tmp 4]) (by kernel_rfl) ok93 (args := [.pointer (some ⟨d_b, d_o, none⟩), .int .i64 n_]) (Nat.le_of_ble_eq_true rfl) (Eq.mpr (by kernel_rfl) hv)
end Go.Sx.Tryz
namespace Go.Sx.Tryz
open Go Go.Sx Go.Proofs
set_option maxRecDepth 100000
set_option linter.unusedVariables false
noncomputable def c171 : Code := (Tryz.f171.body).getD .skip
def a171 : Ann := (.seq .leaf (.seq .leaf (.seq (.seq .leaf (.br (.seq .leaf .leaf) .leaf)) (.seq .leaf (.seq .leaf (.seq .leaf .leaf))))))
theorem ok171 : okC tab 36 true c171 a171 = true := by kernel_rfl
theorem vc171 (d_b d_o : Nat) (h : Heap) (R : Value → Heap → Prop)
  (hv : ∃ n1 : Int, cellH h d_b (d_o + 67) = some (.int .i64 n1) ∧
   CanSt h d_b (d_o + 67) [.int .i64 (IntKind.i64.wrap (n1 + 1))] ∧ ∀ h1, Stored h d_b (d_o + 67) [.int .i64 (IntKind.i64.wrap (n1 + 1))] h1 →
   ∃ t1 : Bool, cellH h1 d_b (d_o + 64) = some (.bool t1) ∧
   CondP (!t1) (
   R (.bool false) h1) (
   ∃ n2 : Int, cellH h1 d_b (d_o + 65) = some (.int .i64 n2) ∧
   CanSt h1 d_b (d_o + 66) [.bool ((n2 : Int) == 0)] ∧ ∀ h2, Stored h1 d_b (d_o + 66) [.bool ((n2 : Int) == 0)] h2 →
   ∃ n3 : Int, cellH h2 d_b (d_o + 65) = some (.int .i64 n3) ∧
   CanSt h2 d_b (d_o + 65) [.int .i64 (if 0 > (IntKind.i64.wrap (n3 - 1)) then 0 else (IntKind.i64.wrap (n3 - 1)))] ∧ ∀ h3, Stored h2 d_b (d_o + 65) [.int .i64 (if 0 > (IntKind.i64.wrap (n3 - 1)) then 0 else (IntKind.i64.wrap (n3 - 1)))] h3 →
   ∃ t2 : Bool, cellH h3 d_b (d_o + 66) = some (.bool t2) ∧
   R (.bool t2) h3)) :
  CallsH Tryz.prog 171 #[.pointer (some ⟨d_b, d_o, none⟩)] h R :=
  calls_of_vc tabOk mixed Tryz.func171 (c := c171) (by kernel_rfl) (n := 36) rfl (rs := [.tmp 2]) (by kernel_rfl) ok171 (args := [.pointer (some ⟨d_b, d_o, none⟩)]) (Nat.le_of_ble_eq_true rfl) (Eq.mpr (by kernel_rfl) hv)
end Go.Sx.Tryz
namespace Go.Sx.Tryz
open Go Go.Sx Go.Proofs
set_option maxRecDepth 100000
set_option linter.unusedVariables false
noncomputable def c142 : Code := (Tryz.f142.body).getD .skip
def a142 : Ann := (.seq .leaf (.seq .leaf (.seq (.inn (.seq .leaf (.br (.seq .leaf .leaf) (.seq .leaf (.br (.seq .leaf .leaf) (.seq .leaf (.br (.seq .leaf .leaf) .leaf))))))) (.seq (.seq .leaf (.seq .leaf (.br (.seq .leaf .leaf) .leaf))) (.seq .leaf (.seq (.seq .leaf (.br (.seq .leaf .leaf) .leaf)) (.seq .leaf (.seq .leaf .leaf))))))))
theorem ok142 : okC tab 39 true c142 a142 = true := by kernel_rfl
theorem vc142 (d_b d_o : Nat) (n_ : Int) (may_ : Value) (do_ : Value) (h : Heap) (R : Value → Heap → Prop)
  (hv : CallsH Tryz.prog 93 #[.pointer (some ⟨d_b, d_o, none⟩), .int .i64 n_] h (fun r1 h1 => ∃ p1 : Option Addr, r1 = .pointer p1 ∧
   ∃ t1 : Bool, cellH h1 d_b (d_o + 66) = some (.bool t1) ∧
   CondP t1 (
   R (.int .i64 70) h1) (
   CondP p1.isNone (
   R (.int .i64 2) h1) (
   CallV Tryz.prog may_ [.pointer p1] h1 (fun r2 h2 => ∃ n1 : Int, r2 = .int .i64 n1 ∧
   CondP ((n1 : Int) != 0) (
   R (.int .i64 n1) h2) (
   CallV Tryz.prog (.func (.func 171) #[.pointer (some ⟨d_b, d_o, none⟩)] #[]) [] h2 (fun r3 h3 => ∃ t2 : Bool, r3 = .bool t2 ∧
   CondP t2 (
   R (.int .i64 70) h3) (
   CallV Tryz.prog do_ [.pointer p1] h3 (fun r4 h4 => r4 = .tuple #[] ∧
   R (.int .i64 0) h4))))))))) :
  CallsH Tryz.prog 142 #[.pointer (some ⟨d_b, d_o, none⟩), .int .i64 n_, may_, do_] h R :=
  calls_of_vc tabOk mixed Tryz.func142 (c := c142) (by kernel_rfl) (n := 39) rfl (rs := [.tmp 8]) (by kernel_rfl) ok142 (args := [.pointer (some ⟨d_b, d_o, none⟩), .int .i64 n_, may_, do_]) (Nat.le_of_ble_eq_true rfl) (Eq.mpr (by kernel_rfl) hv)
end Go.Sx.Tryz
namespace Go.Sx.Tryz
open Go Go.Sx Go.Proofs
set_option maxRecDepth 100000
set_option linter.unusedVariables false
noncomputable def c143 : Code := (Tryz.f143.body).getD .skip
def a143 : Ann := (.seq .leaf (.seq .leaf .leaf))
theorem ok143 : okC tab 3 true c143 a143 = true := by kernel_rfl
theorem vc143 (a_b a_o : Nat) (h : Heap) (R : Value → Heap → Prop)
  (hv : R (.int .i64 0) h) :
  CallsH Tryz.prog 143 #[.pointer (some ⟨a_b, a_o, none⟩)] h R :=
  calls_of_vc tabOk mixed Tryz.func143 (c := c143) (by kernel_rfl) (n := 3) rfl (rs := [.tmp 2]) (by kernel_rfl) ok143 (args := [.pointer (some ⟨a_b, a_o, none⟩)]) (Nat.le_of_ble_eq_true rfl) (Eq.mpr (by kernel_rfl) hv)
end Go.Sx.Tryz
namespace Go.Sx.Tryz
open Go Go.Sx Go.Proofs
set_option maxRecDepth 100000
set_option linter.unusedVariables false
noncomputable def c121 : Code := (Tryz.f121.body).getD .skip
def a121 : Ann := (.seq .leaf (.seq .leaf (.seq .leaf (.seq .leaf .leaf))))
theorem ok121 : okC tab 16 true c121 a121 = true := by kernel_rfl
theorem vc121 (d_b d_o : Nat) (n_ : Int) (b_ : Sl) (h : Heap) (R : Value → Heap → Prop)
  (hv : ∀ b1 h1, Fresh h (.cells #[.pointer (some ⟨d_b, d_o, none⟩)] 26) b1 h1 →
   ∀ b2 h2, Fresh h1 (.cells #[.slice b_.a b_.l b_.c] 33) b2 h2 →
   ∀ b3 h3, Fresh h2 (.cells #[.nilFunc] 208) b3 h3 →
   CanSt h3 b3 0 [.func (.func 160) #[] #[.pointer (some ⟨b2, 0, none⟩)]] ∧ ∀ h4, Stored h3 b3 0 [.func (.func 160) #[] #[.pointer (some ⟨b2, 0, none⟩)]] h4 →
   ∃ p1 : Option Addr, cellH h4 b1 0 = some (.pointer p1) ∧
   ∃ v1 : Value, cellH h4 b3 0 = some (v1) ∧
   CallsH Tryz.prog 142 #[.pointer p1, .int .i64 n_, .func (.func 161) #[] #[.pointer (some ⟨b2, 0, none⟩), .pointer (some ⟨b1, 0, none⟩), .pointer (some ⟨b3, 0, none⟩)], v1] h4 (fun r1 h5 => ∃ n1 : Int, r1 = .int .i64 n1 ∧
   R (.int .i64 n1) h5)) :
  CallsH Tryz.prog 121 #[.pointer (some ⟨d_b, d_o, none⟩), .int .i64 n_, .slice b_.a b_.l b_.c] h R :=
  calls_of_vc tabOk mixed Tryz.func121 (c := c121) (by kernel_rfl) (n := 16) rfl (rs := [.tmp 6]) (by kernel_rfl) ok121 (args := [.pointer (some ⟨d_b, d_o, none⟩), .int .i64 n_, .slice b_.a b_.l b_.c]) (Nat.le_of_ble_eq_true rfl) (Eq.mpr (by kernel_rfl) hv)
end Go.Sx.Tryz
namespace Go.Sx.Tryz
open Go Go.Sx Go.Proofs
set_option maxRecDepth 100000
set_option linter.unusedVariables false
noncomputable def c160 : Code := (Tryz.f160.body).getD .skip
def a160 : Ann := (.reg (.q 0 (.q 1 (.q 2 (.q 3 (.q 4 (.q 5 (.m 6 (.q 7 (.q 8 (.m 9 (.fin) (.nil)))) (.nil)))))))))
theorem ok160 : okC tab 12 true c160 a160 = true := by kernel_rfl
theorem vc160 (f_b f_o : Nat) (c0_b c0_o : Nat) (h : Heap) (R : Value → Heap → Prop)
  (hv : ∃ x1 : Sl, cellH h f_b f_o = some (.slice x1.a x1.l x1.c) ∧
   ∃ x2 : Sl, cellH h c0_b c0_o = some (.slice x2.a x2.l x2.c) ∧
   RunK Tryz.prog (.sl) (Builtin.append_ #[33, 33] 33 #[.slice x1.a x1.l x1.c, .slice x2.a x2.l x2.c]) h (fun x3 h1 =>
   CanSt h1 f_b f_o [.slice x3.a x3.l x3.c] ∧ ∀ h2, Stored h1 f_b f_o [.slice x3.a x3.l x3.c] h2 →
   R (.tuple #[]) h2)) :
  CallsH Tryz.prog 160 #[.pointer (some ⟨f_b, f_o, none⟩), .pointer (some ⟨c0_b, c0_o, none⟩)] h R :=
  calls_of_vc tabOk mixed Tryz.func160 (c := c160) (by kernel_rfl) (n := 12) rfl (rs := []) (by kernel_rfl) ok160 (args := [.pointer (some ⟨f_b, f_o, none⟩), .pointer (some ⟨c0_b, c0_o, none⟩)]) (Nat.le_of_ble_eq_true rfl) (Eq.mpr (by kernel_rfl) hv)
end Go.Sx.Tryz
namespace Go.Sx.Tryz
open Go Go.Sx Go.Proofs
set_option maxRecDepth 100000
set_option linter.unusedVariables false
noncomputable def c161 : Code := (Tryz.f161.body).getD .skip
def a161 : Ann := (.seq .leaf (.seq (.seq (.reg (.q 0 (.q 1 (.q 2 (.q 3 (.q 4 (.q 5 (.q 6 (.q 7 (.q 8 (.fin))))))))))) (.br (.seq .leaf .leaf) .leaf)) (.seq (.seq .leaf (.br .leaf .leaf)) (.seq .leaf .leaf))))
theorem ok161 : okC tab 29 true c161 a161 = true := by kernel_rfl
theorem vc161 (f_b f_o : Nat) (c0_b c0_o : Nat) (c1_b c1_o : Nat) (c2_b c2_o : Nat) (h : Heap) (R : Value → Heap → Prop)
  (hv : ∃ x1 : Sl, cellH h f_b f_o = some (.slice x1.a x1.l x1.c) ∧
   ∃ x2 : Sl, cellH h c0_b c0_o = some (.slice x2.a x2.l x2.c) ∧
   CondP (decide ((IntKind.i64.wrap (((x1.l : Nat) : Int) + ((x2.l : Nat) : Int)) : Int) > 1048576)) (
   R (.int .i64 21) h) (
   ∃ p1 : Option Addr, cellH h c1_b c1_o = some (.pointer p1) ∧
   NilP p1 (fun b1 o1 =>
   ∃ t1 : Bool, cellH h b1 (o1 + 64) = some (.bool t1) ∧
   CondP t1 (
   ∃ p2 : Option Addr, cellH h c1_b c1_o = some (.pointer p2) ∧
   NilP p2 (fun b2 o2 =>
   ∃ n1 : Int, cellH h b2 (o2 + 65) = some (.int .i64 n1) ∧
   CondP ((n1 : Int) == 0) (
   ∃ v1 : Value, cellH h c2_b c2_o = some (v1) ∧
   CallV Tryz.prog v1 [.pointer (some ⟨f_b, f_o, none⟩)] h (fun r1 h1 => r1 = .tuple #[] ∧
   R (.int .i64 0) h1)) (
   R (.int .i64 0) h))) (
   R (.int .i64 0) h)))) :
  CallsH Tryz.prog 161 #[.pointer (some ⟨f_b, f_o, none⟩), .pointer (some ⟨c0_b, c0_o, none⟩), .pointer (some ⟨c1_b, c1_o, none⟩), .pointer (some ⟨c2_b, c2_o, none⟩)] h R :=
  calls_of_vc tabOk mixed Tryz.func161 (c := c161) (by kernel_rfl) (n := 29) rfl (rs := [.tmp 5]) (by kernel_rfl) ok161 (args := [.pointer (some ⟨f_b, f_o, none⟩), .pointer (some ⟨c0_b, c0_o, none⟩), .pointer (some ⟨c1_b, c1_o, none⟩), .pointer (some ⟨c2_b, c2_o, none⟩)]) (Nat.le_of_ble_eq_true rfl) (Eq.mpr (by kernel_rfl) hv)
end Go.Sx.Tryz
namespace Go.Sx.Tryz
open Go Go.Sx Go.Proofs
set_option maxRecDepth 100000
set_option linter.unusedVariables false
noncomputable def c102 : Code := (Tryz.f102.body).getD .skip
def a102 : Ann := (.seq .leaf (.seq .leaf .leaf))
theorem ok102 : okC tab 8 true c102 a102 = true := by kernel_rfl
theorem vc102 (d_b d_o : Nat) (n_ : Int) (h : Heap) (R : Value → Heap → Prop)
  (hv : CallsH Tryz.prog 142 #[.pointer (some ⟨d_b, d_o, none⟩), .int .i64 n_, .func (.func 143) #[] #[], .func (.func 148) #[] #[]] h (fun r1 h1 => ∃ n1 : Int, r1 = .int .i64 n1 ∧
   R (.int .i64 n1) h1)) :
  CallsH Tryz.prog 102 #[.pointer (some ⟨d_b, d_o, none⟩), .int .i64 n_] h R :=
  calls_of_vc tabOk mixed Tryz.func102 (c := c102) (by kernel_rfl) (n := 8) rfl (rs := [.tmp 4]) (by kernel_rfl) ok102 (args := [.pointer (some ⟨d_b, d_o, none⟩), .int .i64 n_]) (Nat.le_of_ble_eq_true rfl) (Eq.mpr (by kernel_rfl) hv)
end Go.Sx.Tryz
namespace Go.Sx.Tryz
open Go Go.Sx Go.Proofs
set_option maxRecDepth 100000
set_option linter.unusedVariables false
noncomputable def c148 : Code := (Tryz.f148.body).getD .skip
def a148 : Ann := .leaf
theorem ok148 : okC tab 10 true c148 a148 = true := by kernel_rfl
theorem vc148 (f_b f_o : Nat) (h : Heap) (R : Value → Heap → Prop)
  (hv : ∃ x1 : Sl, cellH h f_b f_o = some (.slice x1.a x1.l x1.c) ∧
   CanSt h f_b (f_o + 1) [.int .i64 ((x1.l : Nat) : Int)] ∧ ∀ h1, Stored h f_b (f_o + 1) [.int .i64 ((x1.l : Nat) : Int)] h1 →
   R (.tuple #[]) h1) :
  CallsH Tryz.prog 148 #[.pointer (some ⟨f_b, f_o, none⟩)] h R :=
  calls_of_vc tabOk mixed Tryz.func148 (c := c148) (by kernel_rfl) (n := 10) rfl (rs := []) (by kernel_rfl) ok148 (args := [.pointer (some ⟨f_b, f_o, none⟩)]) (Nat.le_of_ble_eq_true rfl) (Eq.mpr (by kernel_rfl) hv)
end Go.Sx.Tryz
namespace Go.Sx.Tryz
open Go Go.Sx Go.Proofs
set_option maxRecDepth 100000
set_option linter.unusedVariables false
noncomputable def c101 : Code := (Tryz.f101.body).getD .skip
def a101 : Ann := (.seq .leaf (.seq .leaf .leaf))
theorem ok101 : okC tab 12 true c101 a101 = true := by kernel_rfl
theorem vc101 (d_b d_o : Nat) (n_ : Int) (size_ : Int) (h : Heap) (R : Value → Heap → Prop)
  (hv : ∀ b1 h1, Fresh h (.cells #[.int .i64 size_] 3) b1 h1 →
   CallsH Tryz.prog 142 #[.pointer (some ⟨d_b, d_o, none⟩), .int .i64 n_, .func (.func 146) #[] #[.pointer (some ⟨b1, 0, none⟩)], .func (.func 147) #[] #[.pointer (some ⟨b1, 0, none⟩)]] h1 (fun r1 h2 => ∃ n1 : Int, r1 = .int .i64 n1 ∧
   R (.int .i64 n1) h2)) :
  CallsH Tryz.prog 101 #[.pointer (some ⟨d_b, d_o, none⟩), .int .i64 n_, .int .i64 size_] h R :=
  calls_of_vc tabOk mixed Tryz.func101 (c := c101) (by kernel_rfl) (n := 12) rfl (rs := [.tmp 6]) (by kernel_rfl) ok101 (args := [.pointer (some ⟨d_b, d_o, none⟩), .int .i64 n_, .int .i64 size_]) (Nat.le_of_ble_eq_true rfl) (Eq.mpr (by kernel_rfl) hv)
end Go.Sx.Tryz
namespace Go.Sx.Tryz
open Go Go.Sx Go.Proofs
set_option maxRecDepth 100000
set_option linter.unusedVariables false
noncomputable def c146 : Code := (Tryz.f146.body).getD .skip
def a146 : Ann := (.seq .leaf (.seq (.seq (.reg (.q 0 (.q 1 (.q 2 (.q 3 (.q 4 (.q 5 (.q 6 (.q 7 (.q 8 (.q 9 (.q 10 (.fin))))))))))))) (.br (.seq .leaf .leaf) .leaf)) (.seq .leaf .leaf)))
theorem ok146 : okC tab 15 true c146 a146 = true := by kernel_rfl
theorem vc146 (f_b f_o : Nat) (c0_b c0_o : Nat) (h : Heap) (R : Value → Heap → Prop)
  (hv : ∃ n1 : Int, cellH h c0_b c0_o = some (.int .i64 n1) ∧
   CondP (decide ((n1 : Int) < 0)) (
   R (.int .i64 2) h) (
   ∃ n2 : Int, cellH h c0_b c0_o = some (.int .i64 n2) ∧
   ∃ x1 : Sl, cellH h f_b f_o = some (.slice x1.a x1.l x1.c) ∧
   CondP (decide ((n2 : Int) > ((x1.l : Nat) : Int))) (
   R (.int .i64 2) h) (
   R (.int .i64 0) h))) :
  CallsH Tryz.prog 146 #[.pointer (some ⟨f_b, f_o, none⟩), .pointer (some ⟨c0_b, c0_o, none⟩)] h R :=
  calls_of_vc tabOk mixed Tryz.func146 (c := c146) (by kernel_rfl) (n := 15) rfl (rs := [.tmp 3]) (by kernel_rfl) ok146 (args := [.pointer (some ⟨f_b, f_o, none⟩), .pointer (some ⟨c0_b, c0_o, none⟩)]) (Nat.le_of_ble_eq_true rfl) (Eq.mpr (by kernel_rfl) hv)
end Go.Sx.Tryz
namespace Go.Sx.Tryz
open Go Go.Sx Go.Proofs
set_option maxRecDepth 100000
set_option linter.unusedVariables false
noncomputable def c147 : Code := (Tryz.f147.body).getD .skip
def a147 : Ann := (.reg (.q 0 (.q 1 (.q 2 (.q 3 (.q 4 (.q 5 (.q 6 (.q 7 (.q 8 (.q 9 (.q 10 (.q 11 (.q 12 (.q 13 (.q 14 (.q 15 (.q 16 (.m 17 (.q 18 (.q 19 (.m 20 (.fin) (.nil)))) (.nil))))))))))))))))))))
theorem ok147 : okC tab 22 true c147 a147 = true := by kernel_rfl
theorem vc147 (f_b f_o : Nat) (c0_b c0_o : Nat) (h : Heap) (R : Value → Heap → Prop)
  (hv : ∃ x1 : Sl, cellH h f_b f_o = some (.slice x1.a x1.l x1.c) ∧
   ∃ n1 : Int, cellH h c0_b c0_o = some (.int .i64 n1) ∧
   ∃ n2 : Int, cellH h c0_b c0_o = some (.int .i64 n2) ∧
   ((0 : Int) ≤ (0 : Int) ∧ (0 : Int) ≤ n1 ∧ n1 ≤ n2 ∧ n2 ≤ ((x1.c : Nat) : Int)) ∧
   ∃ n3 : Int, cellH h f_b (f_o + 1) = some (.int .i64 n3) ∧
   ∃ n4 : Int, cellH h c0_b c0_o = some (.int .i64 n4) ∧
   CanSt h f_b f_o [.slice (subA x1.a 0 n2.toNat 1) n1.toNat n2.toNat] ∧ ∀ h1, Stored h f_b f_o [.slice (subA x1.a 0 n2.toNat 1) n1.toNat n2.toNat] h1 →
   cellH h1 c0_b c0_o = some (.int .i64 n4) ∧
   CanSt h1 f_b (f_o + 1) [.int .i64 (if n4 < n3 then n4 else n3)] ∧ ∀ h2, Stored h1 f_b (f_o + 1) [.int .i64 (if n4 < n3 then n4 else n3)] h2 →
   R (.tuple #[]) h2) :
  CallsH Tryz.prog 147 #[.pointer (some ⟨f_b, f_o, none⟩), .pointer (some ⟨c0_b, c0_o, none⟩)] h R :=
  calls_of_vc tabOk mixed Tryz.func147 (c := c147) (by kernel_rfl) (n := 22) rfl (rs := []) (by kernel_rfl) ok147 (args := [.pointer (some ⟨f_b, f_o, none⟩), .pointer (some ⟨c0_b, c0_o, none⟩)]) (Nat.le_of_ble_eq_true rfl) (Eq.mpr (by kernel_rfl) hv)
end Go.Sx.Tryz
namespace Go.Sx.Tryz
open Go Go.Sx Go.Proofs
set_option maxRecDepth 100000
set_option linter.unusedVariables false
noncomputable def c99 : Code := (Tryz.f99.body).getD .skip
def a99 : Ann := (.seq .leaf (.seq .leaf .leaf))
theorem ok99 : okC tab 8 true c99 a99 = true := by kernel_rfl
theorem vc99 (d_b d_o : Nat) (n_ : Int) (h : Heap) (R : Value → Heap → Prop)
  (hv : CallsH Tryz.prog 142 #[.pointer (some ⟨d_b, d_o, none⟩), .int .i64 n_, .func (.func 143) #[] #[], .func (.func 144) #[] #[]] h (fun r1 h1 => ∃ n1 : Int, r1 = .int .i64 n1 ∧
   R (.int .i64 n1) h1)) :
  CallsH Tryz.prog 99 #[.pointer (some ⟨d_b, d_o, none⟩), .int .i64 n_] h R :=
  calls_of_vc tabOk mixed Tryz.func99 (c := c99) (by kernel_rfl) (n := 8) rfl (rs := [.tmp 4]) (by kernel_rfl) ok99 (args := [.pointer (some ⟨d_b, d_o, none⟩), .int .i64 n_]) (Nat.le_of_ble_eq_true rfl) (Eq.mpr (by kernel_rfl) hv)
end Go.Sx.Tryz
namespace Go.Sx.Tryz
open Go Go.Sx Go.Proofs
set_option maxRecDepth 100000
set_option linter.unusedVariables false
noncomputable def c144 : Code := (Tryz.f144.body).getD .skip
def a144 : Ann := .leaf
theorem ok144 : okC tab 5 true c144 a144 = true := by kernel_rfl
theorem vc144 (f_b f_o : Nat) (h : Heap) (R : Value → Heap → Prop)
  (hv : CanSt h f_b f_o [.slice none 0 0, .int .i64 0] ∧ ∀ h1, Stored h f_b f_o [.slice none 0 0, .int .i64 0] h1 →
   R (.tuple #[]) h1) :
  CallsH Tryz.prog 144 #[.pointer (some ⟨f_b, f_o, none⟩)] h R :=
  calls_of_vc tabOk mixed Tryz.func144 (c := c144) (by kernel_rfl) (n := 5) rfl (rs := []) (by kernel_rfl) ok144 (args := [.pointer (some ⟨f_b, f_o, none⟩)]) (Nat.le_of_ble_eq_true rfl) (Eq.mpr (by kernel_rfl) hv)
end Go.Sx.Tryz
namespace Go.Sx.Tryz
open Go Go.Sx Go.Proofs
set_option maxRecDepth 100000
set_option linter.unusedVariables false
noncomputable def c37 : Code := (Tryz.f37.body).getD .skip
def a37 : Ann := (.seq .leaf (.seq .leaf (.seq (.seq .leaf (.br (.seq .leaf .leaf) .leaf)) (.seq .leaf .leaf))))
theorem ok37 : okC tab 16 true c37 a37 = true := by kernel_rfl
theorem vc37 (d_b d_o : Nat) (n_ : Int) (h : Heap) (R : Value → Heap → Prop)
  (hv : CallsH Tryz.prog 93 #[.pointer (some ⟨d_b, d_o, none⟩), .int .i64 n_] h (fun r1 h1 => ∃ p1 : Option Addr, r1 = .pointer p1 ∧
   CondP p1.isNone (
   R (.slice none 0 0) h1) (
   NilP p1 (fun b1 o1 =>
   ∃ x1 : Sl, cellH h1 b1 o1 = some (.slice x1.a x1.l x1.c) ∧
   CallsH Tryz.prog 71 #[.slice x1.a x1.l x1.c] h1 (fun r2 h2 => ∃ x2 : Sl, r2 = .slice x2.a x2.l x2.c ∧
   R (.slice x2.a x2.l x2.c) h2))))) :
  CallsH Tryz.prog 37 #[.pointer (some ⟨d_b, d_o, none⟩), .int .i64 n_] h R :=
  calls_of_vc tabOk mixed Tryz.func37 (c := c37) (by kernel_rfl) (n := 16) rfl (rs := [.tmp 4]) (by kernel_rfl) ok37 (args := [.pointer (some ⟨d_b, d_o, none⟩), .int .i64 n_]) (Nat.le_of_ble_eq_true rfl) (Eq.mpr (by kernel_rfl) hv)
end Go.Sx.Tryz
namespace Go.Sx.Tryz
open Go Go.Sx Go.Proofs
set_option maxRecDepth 100000
set_option linter.unusedVariables false
noncomputable def c84 : Code := (Tryz.f84.body).getD .skip
def a84 : Ann := (.seq .leaf (.seq (.seq .leaf (.seq .leaf (.br (.seq .leaf .leaf) .leaf))) (.seq .leaf .leaf)))
theorem ok84 : okC tab 16 true c84 a84 = true := by kernel_rfl
theorem vc84 (d_b d_o : Nat) (n_ : Int) (h : Heap) (R : Value → Heap → Prop)
  (hv : CallsH Tryz.prog 93 #[.pointer (some ⟨d_b, d_o, none⟩), .int .i64 n_] h (fun r1 h1 => ∃ p1 : Option Addr, r1 = .pointer p1 ∧
   CondP (!p1.isNone) (
   NilP p1 (fun b1 o1 =>
   ∃ x1 : Sl, cellH h1 b1 o1 = some (.slice x1.a x1.l x1.c) ∧
   R (.int .i64 ((x1.l : Nat) : Int)) h1)) (
   R (.int .i64 0) h1))) :
  CallsH Tryz.prog 84 #[.pointer (some ⟨d_b, d_o, none⟩), .int .i64 n_] h R :=
  calls_of_vc tabOk mixed Tryz.func84 (c := c84) (by kernel_rfl) (n := 16) rfl (rs := [.tmp 4]) (by kernel_rfl) ok84 (args := [.pointer (some ⟨d_b, d_o, none⟩), .int .i64 n_]) (Nat.le_of_ble_eq_true rfl) (Eq.mpr (by kernel_rfl) hv)
end Go.Sx.Tryz
namespace Go.Sx.Tryz
open Go Go.Sx Go.Proofs
set_option maxRecDepth 100000
set_option linter.unusedVariables false
noncomputable def c14 : Code := (Tryz.f14.body).getD .skip
def a14 : Ann := (.seq .leaf (.br .leaf .leaf))
theorem ok14 : okC tab 16 true c14 a14 = true := by kernel_rfl
theorem vc14 (d_b d_o : Nat) (fuse_ : Int) (h : Heap) (R : Value → Heap → Prop)
  (hv : CanSt h d_b (d_o + 64) [.bool (decide ((fuse_ : Int) ≥ 0))] ∧ ∀ h1, Stored h d_b (d_o + 64) [.bool (decide ((fuse_ : Int) ≥ 0))] h1 →
   CanSt h1 d_b (d_o + 65) [.int .i64 (if 0 > fuse_ then 0 else fuse_)] ∧ ∀ h2, Stored h1 d_b (d_o + 65) [.int .i64 (if 0 > fuse_ then 0 else fuse_)] h2 →
   R (.tuple #[]) h2) :
  CallsH Tryz.prog 14 #[.pointer (some ⟨d_b, d_o, none⟩), .int .i64 fuse_] h R :=
  calls_of_vc tabOk mixed Tryz.func14 (c := c14) (by kernel_rfl) (n := 16) rfl (rs := []) (by kernel_rfl) ok14 (args := [.pointer (some ⟨d_b, d_o, none⟩), .int .i64 fuse_]) (Nat.le_of_ble_eq_true rfl) (Eq.mpr (by kernel_rfl) hv)
end Go.Sx.Tryz
namespace Go.Sx.Tryz
open Go Go.Sx Go.Proofs
set_option maxRecDepth 100000
set_option linter.unusedVariables false
noncomputable def c15 : Code := (Tryz.f15.body).getD .skip
def a15 : Ann := (.seq .leaf (.seq .leaf .leaf))
theorem ok15 : okC tab 11 true c15 a15 = true := by kernel_rfl
theorem vc15 (d_b d_o : Nat) (h : Heap) (R : Value → Heap → Prop)
  (hv : ∃ t1 : Bool, cellH h d_b (d_o + 66) = some (.bool t1) ∧
   R (.bool t1) h) :
  CallsH Tryz.prog 15 #[.pointer (some ⟨d_b, d_o, none⟩)] h R :=
  calls_of_vc tabOk mixed Tryz.func15 (c := c15) (by kernel_rfl) (n := 11) rfl (rs := [.tmp 2]) (by kernel_rfl) ok15 (args := [.pointer (some ⟨d_b, d_o, none⟩)]) (Nat.le_of_ble_eq_true rfl) (Eq.mpr (by kernel_rfl) hv)
end Go.Sx.Tryz
namespace Go.Sx.Tryz
open Go Go.Sx Go.Proofs
set_option linter.unusedVariables false
structure Fl where
  b : List UInt8
  s : Nat
structure Dk where
  f : Nat → Fl
  armed : Bool
  fuse : Nat
  down : Bool
def Dk.set (D : Dk) (i : Nat) (x : Fl) : Dk := { D with f := updF D.f i x }
def Dk.blown (D : Dk) : Bool := D.armed && D.fuse == 0
def Dk.tick (D : Dk) : Dk := if D.armed = true then { D with fuse := D.fuse - 1, down := D.fuse == 0 } else D
def Dk.app (D : Dk) (i : Nat) (x : List UInt8) : Nat × Dk :=
  if D.down = true then (70, D) else if 1048576 < (D.f i).b.length + x.length then (21, D) else if D.blown = true then (70, (D.set i ⟨(D.f i).b ++ x, (D.f i).s⟩).tick) else (0, (D.set i ⟨(D.f i).b ++ x, (D.f i).s⟩).tick)
def Dk.syn (D : Dk) (i : Nat) : Nat × Dk :=
  if D.down = true then (70, D) else if D.blown = true then (70, D.tick) else (0, (D.set i ⟨(D.f i).b, (D.f i).b.length⟩).tick)
def Dk.cut (D : Dk) (i n : Nat) : Nat × Dk :=
  if D.down = true then (70, D) else if (D.f i).b.length < n then (2, D) else if D.blown = true then (70, D.tick) else (0, (D.set i ⟨(D.f i).b.take n, min n (D.f i).s⟩).tick)
def Dk.drp (D : Dk) (i : Nat) : Nat × Dk :=
  if D.down = true then (70, D) else if D.blown = true then (70, D.tick) else (0, (D.set i ⟨[], 0⟩).tick)
theorem Dk.tick_set (D : Dk) (i : Nat) (x : Fl) : D.tick.set i x = (D.set i x).tick := by
  unfold Dk.tick Dk.set; split <;> rfl
structure Dcs (cs : List Value) (vs : Nat → Sl) (D : Dk) : Prop where
  len : cs.length = 68
  file : ∀ i, i < 32 → cs[2 * i]? = some (.slice (vs i).a (vs i).l (vs i).c)
  syn : ∀ i, i < 32 → cs[2 * i + 1]? = some (.int .i64 ((D.f i).s : Int))
  armed : cs[64]? = some (.bool D.armed)
  fuse : cs[65]? = some (.int .i64 (D.fuse : Int)) ∧ D.fuse < 1000
  down : cs[66]? = some (.bool D.down)
  calls : ∃ n : Int, cs[67]? = some (.int .i64 n)
  fit : ∀ i, i < 32 → (D.f i).b.length ≤ 1048576
def fown (vs : Nat → Sl) (D : Dk) (i : Nat) : Asn := own 5 1 (vs i) (bv (D.f i).b)
def dsk (d : Nat) (D : Dk) : Asn := exs fun x : List Value × (Nat → Sl) => st (fact (Dcs x.1 x.2 D)) (st (lst d 92 x.1) (bigA 32 (fown x.2 D)))
section
variable {H H' : Heap} {S : PH} {R : List Asn} {d i : Nat} {D : Dk}
theorem dsk_open (hs : Sat H S (dsk d D :: R)) : ∃ cs vs, Dcs cs vs D ∧ Sat H S (lst d 92 cs :: bigA 32 (fown vs D) :: R) := by
  obtain ⟨⟨cs, vs⟩, hs⟩ := hs.open
  obtain ⟨h1, hs⟩ := hs.unst.fact
  exact ⟨cs, vs, h1, hs.unst⟩
theorem dsk_shut {cs : List Value} {vs : Nat → Sl} (hd : Dcs cs vs D) (hs : Sat H S (lst d 92 cs :: bigA 32 (fown vs D) :: R)) : Sat H S (dsk d D :: R) := by
  refine Sat.shut (A := fun x : List Value × (Nat → Sl) => st (fact (Dcs x.1 x.2 D)) (st (lst d 92 x.1) (bigA 32 (fown x.2 D)))) (cs, vs) ?_
  exact (hs.mkst.addFact hd).mkst
theorem dsk_file (hi : i < 32) (hs : Sat H S (dsk d D :: R)) : ∃ cs vs, Dcs cs vs D ∧ Sat H S (lst d 92 cs :: own 5 1 (vs i) (bv (D.f i).b) :: bigA 32 (updF (fown vs D) i emp) :: R) := by
  obtain ⟨cs, vs, h1, hs⟩ := dsk_open hs
  exact ⟨cs, vs, h1, (hs.swap.perm (.refl _) |> bigA.get hi).sel [2]⟩
theorem fown_upd {vs : Nat → Sl} {x : Fl} {v : Sl} : fown (updF vs i v) (D.set i x) = updF (fown vs D) i (own 5 1 v (bv x.b)) := by
  funext j
  by_cases h : j = i
  · simp only [fown, Dk.set, updF, h, if_true]
  · simp only [fown, Dk.set, updF, h, if_false]
theorem dsk_back {cs : List Value} {vs : Nat → Sl} {v : Sl} {x : Fl} (hi : i < 32) (hd : Dcs cs (updF vs i v) (D.set i x)) (hs : Sat H S (lst d 92 cs :: own 5 1 v (bv x.b) :: bigA 32 (updF (fown vs D) i emp) :: R)) : Sat H S (dsk d (D.set i x) :: R) := by
  refine dsk_shut hd ?_
  rw [fown_upd]
  exact (bigA.put hi (hs.sel [1, 1])).swap
theorem dsk_same {cs : List Value} {vs : Nat → Sl} (hi : i < 32) (hd : Dcs cs vs D) (hs : Sat H S (lst d 92 cs :: own 5 1 (vs i) (bv (D.f i).b) :: bigA 32 (updF (fown vs D) i emp) :: R)) : Sat H S (dsk d D :: R) := by
  refine dsk_shut hd ?_
  have := bigA.put hi (hs.sel [1, 1])
  have e : own 5 1 (vs i) (bv (D.f i).b) = fown vs D i := rfl
  rw [e, updF_self] at this
  exact this.swap
theorem Dcs.putFile {cs : List Value} {vs : Nat → Sl} (h : Dcs cs vs D) (hi : i < 32) (v : Sl) (b : List UInt8) (hb : b.length ≤ 1048576) : Dcs (putL cs (2 * i) [.slice v.a v.l v.c]) (updF vs i v) (D.set i ⟨b, (D.f i).s⟩) := by
  have hl := h.len
  have ne : ∀ j, j ≠ 2 * i → (putL cs (2 * i) [.slice v.a v.l v.c])[j]? = cs[j]? := fun j hj => putL_ne (by omega) hj
  refine ⟨by rw [putL_len (by simp; omega)]; exact hl, fun j hj => ?_, fun j hj => ?_, ?_, ⟨?_, h.fuse.2⟩, ?_, ?_, fun j hj => ?_⟩
  · by_cases e : j = i
    · subst e; rw [putL_at (by omega), updF_same]
    · rw [ne _ (by omega), updF_ne _ _ e]; exact h.file j hj
  · rw [ne _ (by omega)]
    by_cases e : j = i
    · subst e; simp only [Dk.set, updF_same]; exact h.syn j hj
    · simp only [Dk.set, updF_ne _ _ e]; exact h.syn j hj
  · rw [ne _ (by omega)]; exact h.armed
  · rw [ne _ (by omega)]; exact h.fuse.1
  · rw [ne _ (by omega)]; exact h.down
  · rw [ne _ (by omega)]; exact h.calls
  · by_cases e : j = i
    · subst e; simp only [Dk.set, updF_same]; exact hb
    · simp only [Dk.set, updF_ne _ _ e]; exact h.fit j hj
theorem Dcs.putSyn {cs : List Value} {vs : Nat → Sl} (h : Dcs cs vs D) (hi : i < 32) (n : Nat) : Dcs (putL cs (2 * i + 1) [.int .i64 (n : Int)]) vs (D.set i ⟨(D.f i).b, n⟩) := by
  have hl := h.len
  have ne : ∀ j, j ≠ 2 * i + 1 → (putL cs (2 * i + 1) [.int .i64 (n : Int)])[j]? = cs[j]? := fun j hj => putL_ne (by omega) hj
  refine ⟨by rw [putL_len (by simp; omega)]; exact hl, fun j hj => ?_, fun j hj => ?_, ?_, ⟨?_, h.fuse.2⟩, ?_, ?_, fun j hj => ?_⟩
  · rw [ne _ (by omega)]; exact h.file j hj
  · by_cases e : j = i
    · subst e; rw [putL_at (by omega)]; simp only [Dk.set, updF_same]
    · rw [ne _ (by omega)]; simp only [Dk.set, updF_ne _ _ e]; exact h.syn j hj
  · rw [ne _ (by omega)]; exact h.armed
  · rw [ne _ (by omega)]; exact h.fuse.1
  · rw [ne _ (by omega)]; exact h.down
  · rw [ne _ (by omega)]; exact h.calls
  · by_cases e : j = i
    · subst e; simp only [Dk.set, updF_same]; exact h.fit j hj
    · simp only [Dk.set, updF_ne _ _ e]; exact h.fit j hj
theorem Dcs.putArmed {cs : List Value} {vs : Nat → Sl} (h : Dcs cs vs D) (t : Bool) : Dcs (putL cs 64 [.bool t]) vs { D with armed := t } := by
  have hl := h.len
  have ne : ∀ j, j ≠ 64 → (putL cs 64 [.bool t])[j]? = cs[j]? := fun j hj => putL_ne (by omega) hj
  refine ⟨by rw [putL_len (by simp; omega)]; exact hl, fun j hj => ?_, fun j hj => ?_, ?_, ⟨?_, h.fuse.2⟩, ?_, ?_, h.fit⟩
  · rw [ne _ (by omega)]; exact h.file j hj
  · rw [ne _ (by omega)]; exact h.syn j hj
  · exact putL_at (by omega)
  · rw [ne _ (by omega)]; exact h.fuse.1
  · rw [ne _ (by omega)]; exact h.down
  · rw [ne _ (by omega)]; exact h.calls
theorem Dcs.putFuse {cs : List Value} {vs : Nat → Sl} (h : Dcs cs vs D) (n : Nat) (hn : n < 1000) : Dcs (putL cs 65 [.int .i64 (n : Int)]) vs { D with fuse := n } := by
  have hl := h.len
  have ne : ∀ j, j ≠ 65 → (putL cs 65 [.int .i64 (n : Int)])[j]? = cs[j]? := fun j hj => putL_ne (by omega) hj
  refine ⟨by rw [putL_len (by simp; omega)]; exact hl, fun j hj => ?_, fun j hj => ?_, ?_, ⟨?_, hn⟩, ?_, ?_, h.fit⟩
  · rw [ne _ (by omega)]; exact h.file j hj
  · rw [ne _ (by omega)]; exact h.syn j hj
  · rw [ne _ (by omega)]; exact h.armed
  · exact putL_at (by omega)
  · rw [ne _ (by omega)]; exact h.down
  · rw [ne _ (by omega)]; exact h.calls
theorem Dcs.putDown {cs : List Value} {vs : Nat → Sl} (h : Dcs cs vs D) (t : Bool) : Dcs (putL cs 66 [.bool t]) vs { D with down := t } := by
  have hl := h.len
  have ne : ∀ j, j ≠ 66 → (putL cs 66 [.bool t])[j]? = cs[j]? := fun j hj => putL_ne (by omega) hj
  refine ⟨by rw [putL_len (by simp; omega)]; exact hl, fun j hj => ?_, fun j hj => ?_, ?_, ⟨?_, h.fuse.2⟩, ?_, ?_, h.fit⟩
  · rw [ne _ (by omega)]; exact h.file j hj
  · rw [ne _ (by omega)]; exact h.syn j hj
  · rw [ne _ (by omega)]; exact h.armed
  · rw [ne _ (by omega)]; exact h.fuse.1
  · exact putL_at (by omega)
  · rw [ne _ (by omega)]; exact h.calls
theorem Dcs.putCalls {cs : List Value} {vs : Nat → Sl} (h : Dcs cs vs D) (n : Int) : Dcs (putL cs 67 [.int .i64 n]) vs D := by
  have hl := h.len
  have ne : ∀ j, j ≠ 67 → (putL cs 67 [.int .i64 n])[j]? = cs[j]? := fun j hj => putL_ne (by omega) hj
  refine ⟨by rw [putL_len (by simp; omega)]; exact hl, fun j hj => ?_, fun j hj => ?_, ?_, ⟨?_, h.fuse.2⟩, ?_, ?_, h.fit⟩
  · rw [ne _ (by omega)]; exact h.file j hj
  · rw [ne _ (by omega)]; exact h.syn j hj
  · rw [ne _ (by omega)]; exact h.armed
  · rw [ne _ (by omega)]; exact h.fuse.1
  · rw [ne _ (by omega)]; exact h.down
  · exact ⟨n, putL_at (by omega)⟩
theorem at_spec (hi : i < 32) {K : Value → Heap → Prop} (hk : K (.pointer (some ⟨d, 2 * i, none⟩)) H) : CallsH Tryz.prog 93 #[.pointer (some ⟨d, 0, none⟩), .int .i64 (i : Int)] H K := by
  apply vc93
  refine CondP.of (fun hc => by simp at hc; omega) fun _ => CondP.of (fun hc => by simp at hc; omega) fun _ => ⟨⟨by omega, by omega⟩, rfl, ?_⟩
  rw [show 0 + (i : Int).toNat * 2 = 2 * i by omega]
  exact hk
theorem blow_spec (hs : Sat H S (dsk d D :: R)) {K : Value → Heap → Prop} (hk : ∀ H', Sat H' S (dsk d D.tick :: R) → K (.bool D.blown) H') : CallsH Tryz.prog 171 #[.pointer (some ⟨d, 0, none⟩)] H K := by
  apply vc171
  obtain ⟨cs, vs, hd, hs⟩ := dsk_open hs
  obtain ⟨n, hn⟩ := hd.calls
  refine ⟨n, hs.cell _ hn, ?_⟩
  refine hs.store (by simp [hd.len]) fun h1 hs1 => ?_
  have hd1 := hd.putCalls (IntKind.i64.wrap (n + 1))
  refine ⟨_, hs1.cell _ hd1.armed, CondP.of (fun hc => ?_) (fun hc => ?_)⟩
  · have ha : D.armed = false := by simpa using hc
    have := hk h1 (dsk_shut (D := D.tick) (by rw [Dk.tick, ha]; simpa using hd1) (by rw [Dk.tick, ha]; simpa using hs1))
    rw [Dk.blown, ha] at this
    exact this
  · have ha : D.armed = true := by simpa using hc
    refine ⟨_, hs1.cell _ hd1.fuse.1, ?_⟩
    refine hs1.store (by simp [hd1.len]) fun h2 hs2 => ?_
    have hd2 := hd1.putDown ((D.fuse : Int) == 0)
    have hs2 : Sat h2 S (lst d 92 (putL (putL cs 67 [.int .i64 (IntKind.i64.wrap (n + 1))]) 66 [.bool ((D.fuse : Int) == 0)]) :: bigA 32 (fown vs D) :: R) := hs2
    refine ⟨_, hs2.cell _ hd2.fuse.1, ?_⟩
    have hf := hd.fuse.2
    have e : (if 0 > IntKind.i64.wrap ((D.fuse : Int) - 1) then 0 else IntKind.i64.wrap ((D.fuse : Int) - 1)) = ((D.fuse - 1 : Nat) : Int) := by
      rw [i64_in (by omega) (by omega)]; split <;> omega
    rw [e]
    refine hs2.store (by simp [hd2.len]) fun h3 hs3 => ?_
    have hd3 := hd2.putFuse (D.fuse - 1) (by omega)
    refine ⟨_, hs3.cell _ hd3.down, ?_⟩
    have hb : (((D.fuse : Int)) == 0) = (D.fuse == 0) := by
      by_cases h : D.fuse = 0
      · simp [h]
      · have : ¬ (D.fuse : Int) = 0 := by omega
        rw [beq_eq_false_iff_ne.2 h, beq_eq_false_iff_ne.2 this]
    have ht : D.tick = { D with fuse := D.fuse - 1, down := ((D.fuse : Int)) == 0 } := by rw [Dk.tick, if_pos ha, hb]
    have := hk h3 (dsk_shut (D := D.tick) (by rw [ht]; exact hd3) (by rw [ht]; exact hs3))
    rw [Dk.blown, ha, Bool.true_and, ← hb] at this
    exact this
end
end Go.Sx.Tryz
namespace Go.Sx.Tryz
open Go Go.Sx Go.Proofs
set_option linter.unusedVariables false
section
variable {H H' : Heap} {S : PH} {R : List Asn} {d i : Nat} {D : Dk}
theorem Dk.set_set (D : Dk) (i : Nat) (x y : Fl) : (D.set i x).set i y = D.set i y := by unfold Dk.set; simp only [updF_upd]
theorem Dk.set_f (D : Dk) (i : Nat) (x : Fl) : (D.set i x).f i = x := updF_same _ _ _
theorem Dk.set_self (D : Dk) (i : Nat) : D.set i (D.f i) = D := by unfold Dk.set; rw [updF_self]
theorem add_spec {b2 : Nat} {x : Sl} {xs : List UInt8} (hi : i < 32) (hs : Sat H S (dsk d D :: lst b2 33 [.slice x.a x.l x.c] :: R)) (hx : RdB S x xs) (hfit : (D.f i).b.length + xs.length ≤ 1048576)
    {K : Value → Heap → Prop} (hk : ∀ H', Sat H' S (dsk d (D.set i ⟨(D.f i).b ++ xs, (D.f i).s⟩) :: lst b2 33 [.slice x.a x.l x.c] :: R) → K (.tuple #[]) H') : CallsH Tryz.prog 160 #[.pointer (some ⟨d, 2 * i, none⟩), .pointer (some ⟨b2, 0, none⟩)] H K := by
  apply vc160
  obtain ⟨cs, vs, hd, hs⟩ := dsk_file hi hs
  refine ⟨vs i, hs.cell _ (hd.file i hi), x, (hs.pick 3 rfl).cell 0 rfl, ?_⟩
  have hl := (own.len hs.swap).1
  rw [bv_len] at hl
  obtain ⟨hxl, hxr⟩ := hx.reads hs
  refine append_own el33 hs.swap (m := x.l) (c := x.c) (news := bv xs) (by rw [bv_len]; omega) ?_ (bv_one _) (by omega) (by unfold maxLen; omega) fun v' h1 hv' hs1 => ?_
  · rcases hxr with h | ⟨b, o, h, h'⟩
    · exact .inl h
    · exact .inr ⟨b, o, h, h'⟩
  rw [← bv_append] at hs1
  refine hs1.swap.store (by simp [hd.len]; omega) fun h2 hs2 => hk h2 ?_
  exact dsk_back (x := ⟨(D.f i).b ++ xs, (D.f i).s⟩) hi (hd.putFile hi v' _ (by rw [List.length_append]; exact hfit)) hs2
theorem fileLen (hi : i < 32) {cs : List Value} {vs : Nat → Sl} (hs : Sat H S (lst d 92 cs :: own 5 1 (vs i) (bv (D.f i).b) :: bigA 32 (updF (fown vs D) i emp) :: R)) : (vs i).l = (D.f i).b.length := by
  have hl := (own.len hs.swap).1
  rw [bv_len] at hl; omega
theorem turn_spec {mayV doV : Value} {D1 : Dk} {R' : List Asn} {e : Nat} (hi : i < 32) (hs : Sat H S (dsk d D :: R)) (hdown : D.down = false)
    {K : Value → Heap → Prop}
    (hmay : ∀ (K' : Value → Heap → Prop), (∀ H', Sat H' S (dsk d D1 :: R) → K' (.int .i64 (e : Int)) H') → CallV Tryz.prog mayV [.pointer (some ⟨d, 2 * i, none⟩)] H K')
    (hbad : e ≠ 0 → ∀ H', Sat H' S (dsk d D1 :: R) → K (.int .i64 (e : Int)) H')
    (hblown : e = 0 → D1.blown = true → ∀ H', Sat H' S (dsk d D1.tick :: R) → K (.int .i64 70) H')
    (hdo : e = 0 → D1.blown = false → ∀ H', Sat H' S (dsk d D1.tick :: R) → CallV Tryz.prog doV [.pointer (some ⟨d, 2 * i, none⟩)] H' fun v h => v = .tuple #[] ∧ K (.int .i64 0) h) :
    CallsH Tryz.prog 142 #[.pointer (some ⟨d, 0, none⟩), .int .i64 (i : Int), mayV, doV] H K := by
  apply vc142
  refine at_spec hi ⟨_, rfl, ?_⟩
  obtain ⟨cs, vs, hd, hs'⟩ := dsk_open hs
  refine ⟨_, hs'.cell _ hd.down, CondP.of (fun hc => by rw [hdown] at hc; cases hc) fun _ => CondP.of (fun hc => by cases hc) fun _ => ?_⟩
  refine hmay _ fun h2 hs2 => ⟨_, rfl, CondP.of (fun hc => hbad (by intro h; subst h; simp at hc) h2 hs2) fun hc => ?_⟩
  have he : e = 0 := by
    simp at hc; omega
  refine .inl ⟨171, _, _, rfl, call171, blow_spec hs2 fun h3 hs3 => ⟨_, rfl, CondP.of (fun hb => hblown he hb h3 hs3) fun hb => hdo he hb h3 hs3⟩⟩
theorem turn_down {mayV doV : Value} (hi : i < 32) (hs : Sat H S (dsk d D :: R)) (hdown : D.down = true) {K : Value → Heap → Prop} (hk : K (.int .i64 70) H) :
    CallsH Tryz.prog 142 #[.pointer (some ⟨d, 0, none⟩), .int .i64 (i : Int), mayV, doV] H K := by
  apply vc142
  refine at_spec hi ⟨_, rfl, ?_⟩
  obtain ⟨cs, vs, hd, hs'⟩ := dsk_open hs
  exact ⟨_, hs'.cell _ hd.down, CondP.of (fun _ => hk) fun hc => by rw [hdown] at hc; cases hc⟩
theorem always_spec {a : Nat} {o : Nat} {K : Value → Heap → Prop} (hk : K (.int .i64 0) H) : CallV Tryz.prog (.func (.func 143) #[] #[]) [.pointer (some ⟨a, o, none⟩)] H K :=
  .inl ⟨143, #[], #[], rfl, call143, vc143 a o H K hk⟩
theorem app_spec {x : Sl} {xs : List UInt8} (hi : i < 32) (hs : Sat H S (dsk d D :: R)) (hx : RdB S x xs) (hlen : xs.length < 1000000000)
    {K : Value → Heap → Prop} (hk : ∀ H', Sat H' S (dsk d (D.app i xs).2 :: R) → K (.int .i64 ((D.app i xs).1 : Int)) H') :
    CallsH Tryz.prog 121 #[.pointer (some ⟨d, 0, none⟩), .int .i64 (i : Int), .slice x.a x.l x.c] H K := by
  apply vc121
  intro b1 h1 hf1 b2 h2 hf2 b3 h3 hf3
  have hs1 : Sat h1 S (lst b1 26 [.pointer (some ⟨d, 0, none⟩)] :: dsk d D :: R) := hs.fresh hf1
  have hs2 : Sat h2 S (lst b2 33 [.slice x.a x.l x.c] :: lst b1 26 [.pointer (some ⟨d, 0, none⟩)] :: dsk d D :: R) := hs1.fresh hf2
  have hs3 : Sat h3 S (lst b3 208 [.nilFunc] :: lst b2 33 [.slice x.a x.l x.c] :: lst b1 26 [.pointer (some ⟨d, 0, none⟩)] :: dsk d D :: R) := hs2.fresh hf3
  refine hs3.store (Nat.le_refl _) fun h4 hs4 => ?_
  have hs4 : Sat h4 S (lst b3 208 [.func (.func 160) #[] #[.pointer (some ⟨b2, 0, none⟩)]] :: lst b2 33 [.slice x.a x.l x.c] :: lst b1 26 [.pointer (some ⟨d, 0, none⟩)] :: dsk d D :: R) := hs4
  refine ⟨_, (hs4.pick 2 rfl).cell 0 rfl, _, hs4.cell 0 rfl, ?_⟩
  have hs5 := hs4.sel [3, 1]
  have fin : ∀ {D' : Dk} {n : Nat}, D.app i xs = (n, D') → ∀ H', Sat H' S (dsk d D' :: lst b2 33 [.slice x.a x.l x.c] :: lst b3 208 [.func (.func 160) #[] #[.pointer (some ⟨b2, 0, none⟩)]] :: lst b1 26 [.pointer (some ⟨d, 0, none⟩)] :: R) → K (.int .i64 (n : Int)) H' := by
    intro D' n e H' hs'
    have := hk H' (by rw [e]; exact ((hs'.del 1).del 1).del 1)
    rw [e] at this; exact this
  have hadd : ∀ {D : Dk} {h : Heap} (hfit : (D.f i).b.length + xs.length ≤ 1048576) (hs : Sat h S (dsk d D :: lst b2 33 [.slice x.a x.l x.c] :: lst b3 208 [.func (.func 160) #[] #[.pointer (some ⟨b2, 0, none⟩)]] :: lst b1 26 [.pointer (some ⟨d, 0, none⟩)] :: R)) (K : Value → Heap → Prop),
      (∀ H', Sat H' S (dsk d (D.set i ⟨(D.f i).b ++ xs, (D.f i).s⟩) :: lst b2 33 [.slice x.a x.l x.c] :: lst b3 208 [.func (.func 160) #[] #[.pointer (some ⟨b2, 0, none⟩)]] :: lst b1 26 [.pointer (some ⟨d, 0, none⟩)] :: R) → K (.tuple #[]) H') →
      CallV Tryz.prog (.func (.func 160) #[] #[.pointer (some ⟨b2, 0, none⟩)]) [.pointer (some ⟨d, 2 * i, none⟩)] h K := by
    intro D h hfit hs K hk
    exact .inl ⟨160, #[], _, rfl, call160, add_spec hi hs hx hfit hk⟩
  by_cases hdown : D.down = true
  · exact turn_down hi hs5 hdown ⟨_, rfl, fin (by rw [Dk.app, if_pos hdown]) _ hs5⟩
  have hdown' : D.down = false := by simpa using hdown
  by_cases hlong : 1048576 < (D.f i).b.length + xs.length
  · refine turn_spec (e := 21) (D1 := D) (R' := []) hi hs5 hdown' (fun K' hK => .inl ⟨161, #[], _, rfl, call161, vc161 d (2 * i) b2 0 b1 0 b3 0 _ _ ?_⟩) (fun _ H' hs' => ⟨_, rfl, fin (by rw [Dk.app, if_neg hdown, if_pos hlong]) _ hs'⟩) (fun h => by cases h) (fun h => by cases h)
    obtain ⟨cs, vs, hd, hs6⟩ := dsk_file hi hs5
    refine ⟨vs i, hs6.cell _ (hd.file i hi), x, (hs6.pick 3 rfl).cell 0 rfl, ?_⟩
    have hl := fileLen hi hs6
    have hxl := RdB.len hx
    have hft := hd.fit i hi
    rw [i64_add (by omega)]
    exact CondP.of (fun _ => hK _ hs5) (fun hc => by simp at hc; omega)
  have hfit : (D.f i).b.length + xs.length ≤ 1048576 := by omega
  have hmay : ∀ (K' : Value → Heap → Prop), (∀ H', Sat H' S (dsk d (if D.blown = true then D.set i ⟨(D.f i).b ++ xs, (D.f i).s⟩ else D) :: lst b2 33 [.slice x.a x.l x.c] :: lst b3 208 [.func (.func 160) #[] #[.pointer (some ⟨b2, 0, none⟩)]] :: lst b1 26 [.pointer (some ⟨d, 0, none⟩)] :: R) → K' (.int .i64 ((0 : Nat) : Int)) H') →
      CallV Tryz.prog (.func (.func 161) #[] #[.pointer (some ⟨b2, 0, none⟩), .pointer (some ⟨b1, 0, none⟩), .pointer (some ⟨b3, 0, none⟩)]) [.pointer (some ⟨d, 2 * i, none⟩)] h4 K' := by
    intro K' hK
    refine .inl ⟨161, #[], _, rfl, call161, vc161 d (2 * i) b2 0 b1 0 b3 0 _ _ ?_⟩
    obtain ⟨cs, vs, hd, hs6⟩ := dsk_file hi hs5
    refine ⟨vs i, hs6.cell _ (hd.file i hi), x, (hs6.pick 3 rfl).cell 0 rfl, ?_⟩
    have hl := fileLen hi hs6
    have hxl := RdB.len hx
    rw [i64_add (by omega)]
    refine CondP.of (fun hc => by simp at hc; omega) (fun _ => ⟨_, (hs6.pick 5 rfl).cell 0 rfl, NilP.of rfl ⟨_, hs6.cell _ hd.armed, CondP.of (fun ha => ⟨_, (hs6.pick 5 rfl).cell 0 rfl, NilP.of rfl ⟨_, hs6.cell _ hd.fuse.1, CondP.of (fun hf => ?_) (fun hf => ?_)⟩⟩) (fun ha => ?_)⟩⟩)
    · have hb : D.blown = true := by
        have : D.fuse = 0 := by simp at hf; omega
        rw [Dk.blown, ha, this]; rfl
      rw [if_pos hb] at hK
      refine ⟨_, (hs5.pick 2 rfl).cell 0 rfl, hadd hfit hs5 _ fun H' hs' => ⟨rfl, hK H' hs'⟩⟩
    · have hb : ¬ D.blown = true := by
        have : D.fuse ≠ 0 := by rintro h; rw [h] at hf; simp at hf
        rw [Dk.blown, ha]; simpa using this
      rw [if_neg hb] at hK
      exact hK _ hs5
    · have hb : ¬ D.blown = true := by rw [Dk.blown, ha]; simp
      rw [if_neg hb] at hK
      exact hK _ hs5
  by_cases hb : D.blown = true
  · rw [if_pos hb] at hmay
    refine turn_spec (e := 0) (R' := []) hi hs5 hdown' hmay (fun h => absurd rfl h) (fun _ _ H' hs' => ⟨_, rfl, fin (by rw [Dk.app, if_neg hdown, if_neg hlong, if_pos hb]) _ hs'⟩) (fun _ hb' => ?_)
    have : (D.set i ⟨(D.f i).b ++ xs, (D.f i).s⟩).blown = D.blown := rfl
    rw [this, hb] at hb'; cases hb'
  · rw [if_neg hb] at hmay
    refine turn_spec (e := 0) (R' := []) hi hs5 hdown' hmay (fun h => absurd rfl h) (fun _ hb' => absurd hb' hb) (fun _ _ H' hs' => ?_)
    have htf : ∀ D : Dk, D.tick.f = D.f := fun D => by unfold Dk.tick; split <;> rfl
    refine hadd (D := D.tick) (by rw [htf]; exact hfit) hs' _ fun h hs7 => ⟨rfl, _, rfl, fin (by rw [Dk.app, if_neg hdown, if_neg hlong, if_neg hb]) _ ?_⟩
    rw [htf, Dk.tick_set] at hs7
    exact hs7
end
end Go.Sx.Tryz
