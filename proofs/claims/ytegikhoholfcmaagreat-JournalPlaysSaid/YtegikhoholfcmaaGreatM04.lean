/-
  Part 4 of the proof: K07, V97, V39, V78, V88, V75, V181, V89, V167, V131, K11, V132, V133, K12, V95, K13, K14.
-/
import Derived.Test.YtegikhoholfcmaaGreatM03
import Derived.Lib.ConvBytes
namespace Go.Sx.Tryz
open Go Go.Sx Go.Proofs
set_option linter.unusedVariables false
abbrev Par := UInt8 × List UInt8
def pbs (ps : List Par) : List UInt8 := ps.flatMap fun p => parcelB p.1 p.2
def Pok (p : Par) : Prop := p.1 ≠ 0 ∧ p.2.length ≤ 65536
def Tail (t : List UInt8) : Prop := ∃ kind body q, kind ≠ 0 ∧ body.length ≤ 65536 ∧ parcelB kind body = t ++ q ∧ q ≠ []
theorem Tail.nil : Tail [] := ⟨1, [], parcelB 1 [], by decide, by simp, rfl, by intro h; have := congrArg List.length h; rw [parcelB_len] at this; simp at this⟩
def off (ps : List Par) (i : Nat) : Nat := (pbs (ps.take i)).length
theorem pbs_append (a b : List Par) : pbs (a ++ b) = pbs a ++ pbs b := by simp [pbs]
theorem pbs_cons (p : Par) (b : List Par) : pbs (p :: b) = parcelB p.1 p.2 ++ pbs b := by simp [pbs]
theorem off_succ {ps : List Par} {i : Nat} (h : i < ps.length) : off ps (i + 1) = off ps i + (parcelB ps[i].1 ps[i].2).length := by
  rw [off, List.take_succ_eq_append_getElem h, pbs_append, List.length_append]; simp [off, pbs]
theorem off_le {ps : List Par} {i : Nat} : off ps i ≤ (pbs ps).length := by
  conv => rhs; rw [← List.take_append_drop i ps, pbs_append, List.length_append]
  exact Nat.le_add_right _ _
theorem off_len (ps : List Par) : off ps ps.length = (pbs ps).length := by rw [off, List.take_length]
theorem off_drop (ps : List Par) (t : List UInt8) (i : Nat) : (pbs ps ++ t).drop (off ps i) = pbs (ps.drop i) ++ t := by
  conv => lhs; rw [← List.take_append_drop i ps, pbs_append, List.append_assoc, off]
  rw [List.take_append_drop, List.drop_left]
theorem drop_cons {ps : List Par} {i : Nat} (h : i < ps.length) : pbs (ps.drop i) = parcelB ps[i].1 ps[i].2 ++ pbs (ps.drop (i + 1)) := by
  rw [List.drop_eq_getElem_cons h, pbs_cons]
theorem ends1_spec {H : Heap} {S : PH} {cb : Nat} {v : Sl} {ps : List Par} {t : List UInt8} {y : Value} {G : Nat → List Asn} (hs : Sat H S (lst cb 33 [.slice v.a v.l v.c] :: G 0)) (hv : RdB S v (pbs ps ++ t)) (hps : ∀ p ∈ ps, Pok p) (ht : Tail t) (hlen : v.l < 1000000000)
    (hy : ∀ i, i < ps.length → ∀ S' h (K : Value → Heap → Prop), PH.le S S' → Sat h S' (lst cb 33 [.slice v.a v.l v.c] :: G i) → (∀ h' S'', PH.le S' S'' → Sat h' S'' (lst cb 33 [.slice v.a v.l v.c] :: G (i + 1)) → K (.bool true) h') → CallV Tryz.prog y [.int .i64 (off ps (i + 1) : Int)] h K)
    {K : Value → Heap → Prop} (hk : ∀ h' S', PH.le S S' → Sat h' S' (lst cb 33 [.slice v.a v.l v.c] :: G ps.length) → K (.tuple #[]) h') : CallsH Tryz.prog 172 #[y, .pointer (some ⟨cb, 0, none⟩)] H K := by
  apply vc172
  have hl := RdB.len hv
  rw [List.length_append] at hl
  refine ⟨fun n1 h => ∃ i, i ≤ ps.length ∧ n1 = (off ps i : Int) ∧ ∃ S', PH.le S S' ∧ Sat h S' (lst cb 33 [.slice v.a v.l v.c] :: G i), fun n1 _ => (pbs ps).length - n1.toNat, ⟨0, Nat.zero_le _, rfl, S, PH.le.refl _, hs⟩, ?_⟩
  rintro n1 h1 ⟨i, hi, rfl, S1, hS1, hs1⟩ _
  have ho := off_le (ps := ps) (i := i)
  refine ⟨v, hs1.cell 0 rfl, ⟨by omega, by omega⟩, ?_⟩
  simp only [Int.toNat_natCast]
  have hv1 := (hv.mono hS1).drop (k := off ps i) (by omega)
  rw [off_drop] at hv1
  rcases Nat.lt_or_ge i ps.length with hlt | hge
  · rw [drop_cons hlt, List.append_assoc] at hv1
    have hp := hps ps[i] (List.getElem_mem hlt)
    have hos := off_succ hlt
    have ho2 := off_le (ps := ps) (i := i + 1)
    refine take_ok (v := ⟨subA v.a (off ps i) v.c 1, v.l - off ps i, v.c - off ps i⟩) hs1 hv1 hp.1 hp.2 (by have := RdB.len hv1; rw [List.length_append] at this; simp only at this; omega) fun v' h2 S2 hS2 hv2 hs2 => ⟨_, v', _, _, rfl, CondP.of (fun hc => by simp at hc) fun _ => ?_⟩
    rw [i64_add (by omega), ← hos]
    refine hy i hlt S2 h2 _ (hS1.trans hS2) hs2 fun h3 S3 hS3 hs3 => ⟨true, rfl, CondP.of (fun hc => by cases hc) fun _ => ⟨⟨i + 1, hlt, rfl, S3, (hS1.trans hS2).trans hS3, hs3⟩, ?_⟩⟩
    show (pbs ps).length - off ps (i + 1) < (pbs ps).length - off ps i
    have := parcelB_len ps[i].1 ps[i].2
    omega
  · have hi : i = ps.length := by omega
    subst hi
    rw [List.drop_length] at hv1
    obtain ⟨kind, body, q, t1, t2, t3, t4⟩ := ht
    refine take_torn (v := ⟨subA v.a (off ps ps.length) v.c 1, v.l - off ps ps.length, v.c - off ps ps.length⟩) hs1 hv1 t3 t4 t1 t2 fun h2 hs2 => ⟨_, ⟨none, 0, 0⟩, _, _, rfl, CondP.of (fun _ => hk h2 S1 hS1 hs2) fun hc => by simp at hc⟩
theorem each1_spec {α : Type} {F : Nat → α → PH → Prop} (hF : ∀ i x S S', PH.le S S' → F i x S → F i x S') {H : Heap} {S : PH} {cb : Nat} {v : Sl} {ps : List Par} {t : List UInt8} {y : Value} {G : Nat → α → List Asn} {x0 : α} (hs : Sat H S (lst cb 33 [.slice v.a v.l v.c] :: G 0 x0)) (hx0 : F 0 x0 S) (hv : RdB S v (pbs ps ++ t)) (hps : ∀ p ∈ ps, Pok p) (ht : Tail t) (hlen : v.l < 1000000000)
    (hy : ∀ i (hi : i < ps.length), ∀ S' h v' x (K : Value → Heap → Prop), PH.le S S' → RdB S' v' (ps[i]).2 → F i x S' → Sat h S' (lst cb 33 [.slice v.a v.l v.c] :: G i x) → (∀ h' S'' x', PH.le S' S'' → F (i + 1) x' S'' → Sat h' S'' (lst cb 33 [.slice v.a v.l v.c] :: G (i + 1) x') → K (.bool true) h') → CallV Tryz.prog y [.int .u8 ((ps[i]).1.toNat : Int), .slice v'.a v'.l v'.c] h K)
    {K : Value → Heap → Prop} (hk : ∀ h' S' x, PH.le S S' → F ps.length x S' → Sat h' S' (lst cb 33 [.slice v.a v.l v.c] :: G ps.length x) → K (.tuple #[]) h') : CallsH Tryz.prog 166 #[y, .pointer (some ⟨cb, 0, none⟩)] H K := by
  apply vc166
  refine ⟨v, hs.cell 0 rfl, ?_⟩
  have hl := RdB.len hv
  rw [List.length_append] at hl
  refine ⟨fun x h => ∃ i, i ≤ ps.length ∧ ∃ S' z, PH.le S S' ∧ F i z S' ∧ RdB S' x (pbs (ps.drop i) ++ t) ∧ x.l ≤ v.l ∧ Sat h S' (lst cb 33 [.slice v.a v.l v.c] :: G i z), fun x _ => x.l, ⟨0, Nat.zero_le _, S, x0, PH.le.refl _, hx0, by simpa using hv, Nat.le_refl _, hs⟩, ?_⟩
  rintro x h1 ⟨i, hi, S1, z, hS1, hz, hv1, hxl, hs1⟩ _
  rcases Nat.lt_or_ge i ps.length with hlt | hge
  · rw [drop_cons hlt, List.append_assoc] at hv1
    have hp := hps ps[i] (List.getElem_mem hlt)
    have hl1 := RdB.len hv1
    rw [List.length_append] at hl1
    have h5 := parcelB_len ps[i].1 ps[i].2
    refine take_ok hs1 hv1 hp.1 hp.2 (by omega) fun v' h2 S2 hS2 hv2 hs2 => ⟨_, v', _, _, rfl, CondP.of (fun hc => by simp at hc) fun _ => ?_⟩
    refine hy i hlt S2 h2 v' z _ (hS1.trans hS2) hv2 (hF _ _ _ _ hS2 hz) hs2 fun h3 S3 z3 hS3 hz3 hs3 => ⟨true, rfl, CondP.of (fun hc => by cases hc) fun _ => ⟨⟨by omega, by omega⟩, ?_⟩⟩
    simp only [Int.toNat_natCast]
    have hv3 := (hv1.mono (hS2.trans hS3)).drop (k := (parcelB ps[i].1 ps[i].2).length) (by omega)
    rw [List.drop_left] at hv3
    refine ⟨⟨i + 1, hlt, S3, z3, (hS1.trans hS2).trans hS3, hz3, hv3, ?_, hs3⟩, ?_⟩
    · show x.l - _ ≤ v.l; omega
    · show x.l - _ < x.l; omega
  · have hi : i = ps.length := by omega
    subst hi
    rw [List.drop_length] at hv1
    obtain ⟨kind, body, q, t1, t2, t3, t4⟩ := ht
    refine take_torn hs1 hv1 t3 t4 t1 t2 fun h2 hs2 => ⟨_, ⟨none, 0, 0⟩, _, _, rfl, CondP.of (fun _ => hk h2 S1 z hS1 hz hs2) fun hc => by simp at hc⟩
theorem end_spec {H : Heap} {S : PH} {R : List Asn} {v : Sl} {ps : List Par} {t : List UInt8} (hs : Sat H S R) (hv : RdB S v (pbs ps ++ t)) (hps : ∀ p ∈ ps, Pok p) (ht : Tail t) (hlen : v.l < 1000000000)
    {K : Value → Heap → Prop} (hk : ∀ h' S', PH.le S S' → Sat h' S' R → K (.tuple #[.int .i64 ((pbs ps).length : Int), .int .i64 (if t = [] then 0 else 31)]) h') : CallsH Tryz.prog 100 #[.slice v.a v.l v.c] H K := by
  apply vc100
  intro b1 h1 hf
  have hs1 : Sat h1 S (lst b1 3 [.int .i64 0] :: R) := hs.fresh hf
  refine hs1.store (Nat.le_refl _) fun h2 hs2 => ?_
  have hs2 : Sat h2 S (lst b1 3 [.int .i64 0] :: R) := hs2
  apply vc145
  intro b2 h3 hf3
  have hs3 : Sat h3 S (lst b2 33 [.slice v.a v.l v.c] :: lst b1 3 [.int .i64 0] :: R) := hs2.fresh hf3
  refine ⟨_, rfl, 172, _, rfl, call172, fun D l rc h4 hL hround => ?_⟩
  have hs4 := hL.sat hs3
  have hl := RdB.len hv
  rw [List.length_append] at hl
  refine ends1_spec (G := fun i => lst b1 3 [.int .i64 (off ps i : Int)] :: blk l (rc .ready none) :: blk D (.deferred (some [])) :: R) (hs4.sel [2, 2]) hv hps ht hlen (fun i hi S' h K hS hs hK => ?_) (fun h7 S7 hS7 hs7 => ?_)
  · have hl1 := Sat.blk (hs.pick 2 rfl)
    refine hround _ h K hl1 ⟨hl1, ?_⟩
    have hb := (hs.pick 2 rfl).setB (o' := rc .busy none)
    refine (hb.pick 2 rfl).store (Nat.le_refl _) fun h6 hs6 => ?_
    have hs6' := hs6.pick 1 rfl
    exact ⟨Sat.blk hs6', hK _ S' (PH.le.refl _) ((hs6'.setB (o' := rc .ready none)).sel [2, 1])⟩
  · have hs8 := (hs7.pick 2 rfl).setB (o' := rc .exhausted none)
    have hs9 : Sat _ S7 (lst b1 3 [.int .i64 (off ps ps.length : Int)] :: blk D (.deferred (some [])) :: R) := (hs8.sel [2, 2]).del 2 |>.del 2
    rw [off_len] at hs9
    refine ⟨Sat.blk (hs7.pick 2 rfl), _, hs9.cell 0 rfl, CondP.of (fun hc => ?_) (fun hc => ?_)⟩
    · have ht0 : t = [] := by
        have : (pbs ps).length = v.l := by simp at hc; omega
        exact List.eq_nil_of_length_eq_zero (by omega)
      have hD := (hs9.pick 1 rfl)
      refine ⟨_, hs9.cell 0 rfl, Sat.blk hD, ?_⟩
      have := hk _ S7 hS7 ((hD.setB (o' := .deferred none)).del 0 |>.del 0)
      rw [if_pos ht0] at this
      exact this
    · have ht0 : t ≠ [] := by
        rintro rfl
        have : ¬ (pbs ps).length = v.l := by
          intro h; rw [h] at hc; simp at hc
        simp at hl; omega
      refine ⟨_, hs9.cell 0 rfl, ⟨by omega, by omega⟩, ?_⟩
      simp only [Int.toNat_natCast]
      have hv1 := (hv.mono hS7).drop (k := (pbs ps).length) (by omega)
      rw [List.drop_left] at hv1
      obtain ⟨kind, body, q, t1, t2, t3, t4⟩ := ht
      refine take_torn (v := ⟨subA v.a (pbs ps).length v.c 1, v.l - (pbs ps).length, v.c - (pbs ps).length⟩) hs9 hv1 t3 t4 t1 t2 fun h8 hs10 => ⟨_, ⟨none, 0, 0⟩, _, _, rfl, _, hs10.cell 0 rfl, ?_⟩
      have hD := (hs10.pick 1 rfl)
      refine ⟨Sat.blk hD, ?_⟩
      have := hk _ S7 hS7 ((hD.setB (o' := .deferred none)).del 0 |>.del 0)
      rw [if_neg ht0] at this
      exact this
end Go.Sx.Tryz
namespace Go.Sx.Tryz
open Go Go.Sx Go.Proofs
set_option maxRecDepth 100000
set_option linter.unusedVariables false
noncomputable def c97 : Code := (Tryz.f97.body).getD .skip
def a97 : Ann := (.seq .leaf (.seq .leaf (.seq .leaf (.seq (.reg (.q 0 (.q 1 (.q 2 (.q 3 (.q 4 (.m 5 (.q 6 (.q 7 (.m 8 (.q 9 (.fin)) (.nil)))) (.nil)))))))) .leaf))))
theorem ok97 : okC tab 26 true c97 a97 = true := by kernel_rfl
theorem vc97 (kind_ : Int) (body_ : Sl) (h : Heap) (R : Value → Heap → Prop)
  (hv : ∀ b1 h1, Fresh h (.cells #[.int .u64 0, .bool false, .int .u64 0, .int .u64 0] 103) b1 h1 →
   CallsH Tryz.prog 135 #[.slice body_.a body_.l body_.c] h1 (fun r1 h2 => ∃ p1 : Option Addr, r1 = .pointer p1 ∧
   CallsH Tryz.prog 136 #[.pointer p1, .int .u64 4611686018427387904] h2 (fun r2 h3 => ∃ n1 : Int, r2 = .int .u64 n1 ∧
   CallsH Tryz.prog 140 #[.pointer p1] h3 (fun r3 h4 => ∃ t1 : Bool, r3 = .bool t1 ∧
   CallsH Tryz.prog 136 #[.pointer p1, .int .u64 4611686018427387904] h4 (fun r4 h5 => ∃ n2 : Int, r4 = .int .u64 n2 ∧
   CallsH Tryz.prog 136 #[.pointer p1, .int .u64 4611686018427387904] h5 (fun r5 h6 => ∃ n3 : Int, r5 = .int .u64 n3 ∧
   CanSt h6 b1 0 [.int .u64 n1, .bool t1, .int .u64 n2, .int .u64 n3] ∧ ∀ h7, Stored h6 b1 0 [.int .u64 n1, .bool t1, .int .u64 n2, .int .u64 n3] h7 →
   ∃ n4 : Int, ∃ t2 : Bool, ∃ n5 : Int, ∃ n6 : Int, CellsAt h7 b1 0 [.int .u64 n4, .bool t2, .int .u64 n5, .int .u64 n6] ∧
   CondP ((kind_ : Int) == 1) (
   CallsH Tryz.prog 141 #[.pointer p1] h7 (fun r6 h8 => ∃ n7 : Int, r6 = .int .i64 n7 ∧
   CellsAt h8 b1 0 [.int .u64 n4, .bool t2, .int .u64 n5, .int .u64 n6] ∧
   CanSt h8 b1 0 [.int .u64 n4, .bool t2, .int .u64 n5, .int .u64 n6] ∧ ∀ h9, Stored h8 b1 0 [.int .u64 n4, .bool t2, .int .u64 n5, .int .u64 n6] h9 →
   ∃ n8 : Int, ∃ t3 : Bool, ∃ n9 : Int, ∃ n10 : Int, CellsAt h9 b1 0 [.int .u64 n8, .bool t3, .int .u64 n9, .int .u64 n10] ∧
   R (.tuple #[.agg #[.int .u64 n8, .bool t3, .int .u64 n9, .int .u64 n10], .bool ((n7 : Int) == 0)]) h9)) (
   CanSt h7 b1 0 [.int .u64 n4, .bool t2, .int .u64 n5, .int .u64 n6] ∧ ∀ h10, Stored h7 b1 0 [.int .u64 n4, .bool t2, .int .u64 n5, .int .u64 n6] h10 →
   ∃ n11 : Int, ∃ t4 : Bool, ∃ n12 : Int, ∃ n13 : Int, CellsAt h10 b1 0 [.int .u64 n11, .bool t4, .int .u64 n12, .int .u64 n13] ∧
   R (.tuple #[.agg #[.int .u64 n11, .bool t4, .int .u64 n12, .int .u64 n13], .bool false]) h10))))))) :
  CallsH Tryz.prog 97 #[.int .u8 kind_, .slice body_.a body_.l body_.c] h R :=
  calls_of_vc tabOk mixed Tryz.func97 (c := c97) (by kernel_rfl) (n := 26) rfl (rs := [.cell 4 103, .tmp 5]) (by kernel_rfl) ok97 (args := [.int .u8 kind_, .slice body_.a body_.l body_.c]) (Nat.le_of_ble_eq_true rfl) (Eq.mpr (by kernel_rfl) hv)
end Go.Sx.Tryz
namespace Go.Sx.Tryz
open Go Go.Sx Go.Proofs
set_option maxRecDepth 100000
set_option linter.unusedVariables false
noncomputable def c39 : Code := (Tryz.f39.body).getD .skip
def a39 : Ann := (.seq .leaf (.seq .leaf (.seq (.seq .leaf (.br (.seq .leaf .leaf) .leaf)) (.seq .leaf .leaf))))
theorem ok39 : okC tab 23 true c39 a39 = true := by kernel_rfl
theorem vc39 (b_ : Sl) (h : Heap) (R : Value → Heap → Prop)
  (hv : ∀ b1 h1, Fresh h (.cells #[.int .u64 0, .bool false, .int .u64 0, .int .u64 0] 103) b1 h1 →
   CallsH Tryz.prog 96 #[.slice b_.a b_.l b_.c] h1 (fun r1 h2 => ∃ n1 : Int, ∃ x1 : Sl, ∃ n2 : Int, ∃ n3 : Int, r1 = .tuple #[.int .u8 n1, .slice x1.a x1.l x1.c, .int .i64 n2, .int .i64 n3] ∧
   CondP ((n3 : Int) != 0) (
   CanSt h2 b1 0 [.int .u64 0, .bool false, .int .u64 0, .int .u64 0] ∧ ∀ h3, Stored h2 b1 0 [.int .u64 0, .bool false, .int .u64 0, .int .u64 0] h3 →
   ∃ n4 : Int, ∃ t1 : Bool, ∃ n5 : Int, ∃ n6 : Int, CellsAt h3 b1 0 [.int .u64 n4, .bool t1, .int .u64 n5, .int .u64 n6] ∧
   R (.tuple #[.agg #[.int .u64 n4, .bool t1, .int .u64 n5, .int .u64 n6], .bool false]) h3) (
   CallsH Tryz.prog 97 #[.int .u8 n1, .slice x1.a x1.l x1.c] h2 (fun r2 h4 => ∃ n7 : Int, ∃ t2 : Bool, ∃ n8 : Int, ∃ n9 : Int, ∃ t3 : Bool, r2 = .tuple #[.agg #[.int .u64 n7, .bool t2, .int .u64 n8, .int .u64 n9], .bool t3] ∧
   CanSt h4 b1 0 [.int .u64 n7, .bool t2, .int .u64 n8, .int .u64 n9] ∧ ∀ h5, Stored h4 b1 0 [.int .u64 n7, .bool t2, .int .u64 n8, .int .u64 n9] h5 →
   ∃ n10 : Int, ∃ t4 : Bool, ∃ n11 : Int, ∃ n12 : Int, CellsAt h5 b1 0 [.int .u64 n10, .bool t4, .int .u64 n11, .int .u64 n12] ∧
   R (.tuple #[.agg #[.int .u64 n10, .bool t4, .int .u64 n11, .int .u64 n12], .bool t3]) h5)))) :
  CallsH Tryz.prog 39 #[.slice b_.a b_.l b_.c] h R :=
  calls_of_vc tabOk mixed Tryz.func39 (c := c39) (by kernel_rfl) (n := 23) rfl (rs := [.cell 2 103, .tmp 3]) (by kernel_rfl) ok39 (args := [.slice b_.a b_.l b_.c]) (Nat.le_of_ble_eq_true rfl) (Eq.mpr (by kernel_rfl) hv)
end Go.Sx.Tryz
namespace Go.Sx.Tryz
open Go Go.Sx Go.Proofs
set_option maxRecDepth 100000
set_option linter.unusedVariables false
noncomputable def c78 : Code := (Tryz.f78.body).getD .skip
def a78 : Ann := (.seq .leaf (.seq (.seq .leaf (.br (.seq .leaf .leaf) .leaf)) (.seq (.reg (.q 0 (.q 1 (.q 2 (.q 3 (.q 4 (.q 5 (.q 6 (.q 7 (.q 8 (.q 9 (.q 10 (.q 11 (.m 12 (.fin) (.nil))))))))))))))) .leaf)))
theorem ok78 : okC tab 25 true c78 a78 = true := by kernel_rfl
theorem vc78 (g_b g_o : Nat) (h : Heap) (R : Value → Heap → Prop)
  (hv : ∀ b1 h1, Fresh h (.cells #[.int .u64 0, .int .u64 0, .slice none 0 0] 85) b1 h1 →
   ∃ x1 : Sl, cellH h1 g_b (g_o + 3) = some (.slice x1.a x1.l x1.c) ∧
   CondP ((((x1.l : Nat) : Int) : Int) == 0) (
   ∃ n1 : Int, ∃ n2 : Int, ∃ x2 : Sl, CellsAt h1 g_b g_o [.int .u64 n1, .int .u64 n2, .slice x2.a x2.l x2.c] ∧
   CanSt h1 b1 0 [.int .u64 n1, .int .u64 n2, .slice x2.a x2.l x2.c] ∧ ∀ h2, Stored h1 b1 0 [.int .u64 n1, .int .u64 n2, .slice x2.a x2.l x2.c] h2 →
   ∃ n3 : Int, ∃ n4 : Int, ∃ x3 : Sl, CellsAt h2 b1 0 [.int .u64 n3, .int .u64 n4, .slice x3.a x3.l x3.c] ∧
   R (.agg #[.int .u64 n3, .int .u64 n4, .slice x3.a x3.l x3.c]) h2) (
   ∃ x4 : Sl, cellH h1 g_b (g_o + 3) = some (.slice x4.a x4.l x4.c) ∧
   ∃ x5 : Sl, cellH h1 g_b (g_o + 3) = some (.slice x5.a x5.l x5.c) ∧
   ((0 : Int) ≤ IntKind.i64.wrap (((x5.l : Nat) : Int) - 1) ∧ (IntKind.i64.wrap (((x5.l : Nat) : Int) - 1) : Int) < ((x4.l : Nat) : Int)) ∧
   NilP x4.a (fun b2 o1 =>
   ∃ n5 : Int, ∃ n6 : Int, ∃ x6 : Sl, CellsAt h1 b2 (o1 + ((IntKind.i64.wrap (((x5.l : Nat) : Int) - 1)).toNat) * 3) [.int .u64 n5, .int .u64 n6, .slice x6.a x6.l x6.c] ∧
   CanSt h1 b1 0 [.int .u64 n5, .int .u64 n6, .slice x6.a x6.l x6.c] ∧ ∀ h3, Stored h1 b1 0 [.int .u64 n5, .int .u64 n6, .slice x6.a x6.l x6.c] h3 →
   ∃ n7 : Int, ∃ n8 : Int, ∃ x7 : Sl, CellsAt h3 b1 0 [.int .u64 n7, .int .u64 n8, .slice x7.a x7.l x7.c] ∧
   R (.agg #[.int .u64 n7, .int .u64 n8, .slice x7.a x7.l x7.c]) h3))) :
  CallsH Tryz.prog 78 #[.pointer (some ⟨g_b, g_o, none⟩)] h R :=
  calls_of_vc tabOk mixed Tryz.func78 (c := c78) (by kernel_rfl) (n := 25) rfl (rs := [.cell 2 85]) (by kernel_rfl) ok78 (args := [.pointer (some ⟨g_b, g_o, none⟩)]) (Nat.le_of_ble_eq_true rfl) (Eq.mpr (by kernel_rfl) hv)
end Go.Sx.Tryz
namespace Go.Sx.Tryz
open Go Go.Sx Go.Proofs
set_option maxRecDepth 100000
set_option linter.unusedVariables false
noncomputable def c88 : Code := (Tryz.f88.body).getD .skip
def a88 : Ann := (.seq .leaf (.seq .leaf .leaf))
theorem ok88 : okC tab 20 true c88 a88 = true := by kernel_rfl
theorem vc88 (g_b g_o : Nat) (from_ : Int) (h : Heap) (R : Value → Heap → Prop)
  (hv : ∃ n1 : Int, cellH h g_b g_o = some (.int .u64 n1) ∧
   CondP (decide ((from_ : Int) > n1)) (
   CallsH Tryz.prog 78 #[.pointer (some ⟨g_b, g_o, none⟩)] h (fun r1 h1 => ∃ n2 : Int, ∃ n3 : Int, ∃ x1 : Sl, r1 = .agg #[.int .u64 n2, .int .u64 n3, .slice x1.a x1.l x1.c] ∧
   R (.bool (decide ((IntKind.u64.wrap (from_ - 1) : Int) ≤ n2))) h1)) (
   R (.bool false) h)) :
  CallsH Tryz.prog 88 #[.pointer (some ⟨g_b, g_o, none⟩), .int .u64 from_] h R :=
  calls_of_vc tabOk mixed Tryz.func88 (c := c88) (by kernel_rfl) (n := 20) rfl (rs := [.tmp 4]) (by kernel_rfl) ok88 (args := [.pointer (some ⟨g_b, g_o, none⟩), .int .u64 from_]) (Nat.le_of_ble_eq_true rfl) (Eq.mpr (by kernel_rfl) hv)
end Go.Sx.Tryz
namespace Go.Sx.Tryz
open Go Go.Sx Go.Proofs
set_option maxRecDepth 100000
set_option linter.unusedVariables false
noncomputable def c75 : Code := (Tryz.f75.body).getD .skip
def a75 : Ann := (.seq .leaf (.seq (.seq .leaf (.inn (.loop [(8, .one (.i .i64))] (.seq .leaf (.seq (.br .leaf .leaf) (.seq (.inn (.seq .leaf (.seq .leaf (.br (.seq .leaf .leaf) .leaf)))) .leaf)))))) (.seq .leaf .leaf)))
theorem ok75 : okC tab 19 true c75 a75 = true := by kernel_rfl
theorem vc75 (s_ : Sl) (f_ : Value) (h : Heap) (R : Value → Heap → Prop)
  (hv : ∃ (I1 : Int → Heap → Prop) (mu1 : Int → Heap → Nat), I1 0 h ∧ (∀ n1 : Int, ∀ h1, I1 n1 h1 → ∀ _ : Env,
   CondP (decide ((n1 : Int) < ((s_.l : Nat) : Int))) (
   ((0 : Int) ≤ n1 ∧ (n1 : Int) < ((s_.l : Nat) : Int)) ∧
   NilP s_.a (fun b1 o1 =>
   ∃ n2 : Int, ∃ n3 : Int, ∃ x1 : Sl, CellsAt h1 b1 (o1 + n1.toNat * 3) [.int .u64 n2, .int .u64 n3, .slice x1.a x1.l x1.c] ∧
   CallV Tryz.prog f_ [.agg #[.int .u64 n2, .int .u64 n3, .slice x1.a x1.l x1.c]] h1 (fun r1 h2 => ∃ t1 : Bool, r1 = .bool t1 ∧
   CondP t1 (
   R (.int .i64 n1) h2) (
   I1 (IntKind.i64.wrap (n1 + 1)) h2 ∧ mu1 (IntKind.i64.wrap (n1 + 1)) h2 < mu1 n1 h1)))) (
   R (.int .i64 (-1)) h1))) :
  CallsH Tryz.prog 75 #[.slice s_.a s_.l s_.c, f_] h R :=
  calls_of_vc tabOk mixed Tryz.func75 (c := c75) (by kernel_rfl) (n := 19) rfl (rs := [.tmp 4]) (by kernel_rfl) ok75 (args := [.slice s_.a s_.l s_.c, f_]) (Nat.le_of_ble_eq_true rfl) (Eq.mpr (by kernel_rfl) hv)
end Go.Sx.Tryz
namespace Go.Sx.Tryz
open Go Go.Sx Go.Proofs
set_option maxRecDepth 100000
set_option linter.unusedVariables false
noncomputable def c181 : Code := (Tryz.f181.body).getD .skip
def a181 : Ann := (.seq .leaf (.seq .leaf .leaf))
theorem ok181 : okC tab 15 true c181 a181 = true := by kernel_rfl
theorem vc181 (x_0 : Int) (x_1 : Int) (x_2 : Sl) (c0_b c0_o : Nat) (c1_b c1_o : Nat) (h : Heap) (R : Value → Heap → Prop)
  (hv : ∀ b1 h1, Fresh h (.cells #[.int .u64 x_0, .int .u64 x_1, .slice x_2.a x_2.l x_2.c] 85) b1 h1 →
   ∃ n1 : Int, cellH h1 b1 0 = some (.int .u64 n1) ∧
   ∃ n2 : Int, cellH h1 c0_b c0_o = some (.int .u64 n2) ∧
   CondP ((n1 : Int) == n2) (
   ∃ n3 : Int, cellH h1 b1 1 = some (.int .u64 n3) ∧
   ∃ n4 : Int, cellH h1 c1_b c1_o = some (.int .u64 n4) ∧
   R (.bool ((n3 : Int) == n4)) h1) (
   R (.bool false) h1)) :
  CallsH Tryz.prog 181 #[.agg #[.int .u64 x_0, .int .u64 x_1, .slice x_2.a x_2.l x_2.c], .pointer (some ⟨c0_b, c0_o, none⟩), .pointer (some ⟨c1_b, c1_o, none⟩)] h R :=
  calls_of_vc tabOk mixed Tryz.func181 (c := c181) (by kernel_rfl) (n := 15) rfl (rs := [.tmp 4]) (by kernel_rfl) ok181 (args := [.agg #[.int .u64 x_0, .int .u64 x_1, .slice x_2.a x_2.l x_2.c], .pointer (some ⟨c0_b, c0_o, none⟩), .pointer (some ⟨c1_b, c1_o, none⟩)]) (Nat.le_of_ble_eq_true rfl) (Eq.mpr (by kernel_rfl) hv)
end Go.Sx.Tryz
namespace Go.Sx.Tryz
open Go Go.Sx Go.Proofs
set_option maxRecDepth 100000
set_option linter.unusedVariables false
noncomputable def c89 : Code := (Tryz.f89.body).getD .skip
def a89 : Ann := (.seq .leaf (.seq (.seq .leaf (.br (.seq .leaf .leaf) .leaf)) (.seq .leaf .leaf)))
theorem ok89 : okC tab 8 true c89 a89 = true := by kernel_rfl
theorem vc89 (s_ : Sl) (h : Heap) (R : Value → Heap → Prop)
  (hv : CondP s_.a.isNone (
   R (.slice none 0 0) h) (
   ∀ b1 h1, Fresh h (.cells #[] 85) b1 h1 →
   RunK Tryz.prog (.sl) (Builtin.append_ #[81, 81] 81 #[.slice (some ⟨b1, 0, none⟩) 0 0, .slice s_.a s_.l s_.c]) h1 (fun x1 h2 =>
   R (.slice x1.a x1.l x1.c) h2))) :
  CallsH Tryz.prog 89 #[.slice s_.a s_.l s_.c] h R :=
  calls_of_vc tabOk mixed Tryz.func89 (c := c89) (by kernel_rfl) (n := 8) rfl (rs := [.tmp 2]) (by kernel_rfl) ok89 (args := [.slice s_.a s_.l s_.c]) (Nat.le_of_ble_eq_true rfl) (Eq.mpr (by kernel_rfl) hv)
end Go.Sx.Tryz
namespace Go.Sx.Tryz
open Go Go.Sx Go.Proofs
set_option maxRecDepth 100000
set_option linter.unusedVariables false
noncomputable def c167 : Code := (Tryz.f167.body).getD .skip
def a167 : Ann := (.seq .leaf (.seq (.seq (.reg (.q 0 (.q 1 (.q 2 (.q 3 (.q 4 (.q 5 (.q 6 (.q 7 (.q 8 (.q 9 (.q 10 (.q 11 (.q 12 (.q 13 (.q 14 (.q 15 (.fin)))))))))))))))))) (.br (.seq .leaf (.seq .leaf .leaf)) .leaf)) (.seq .leaf (.seq (.seq .leaf (.br (.seq .leaf .leaf) .leaf)) (.seq .leaf (.seq .leaf .leaf))))))
theorem ok167 : okC tab 46 true c167 a167 = true := by kernel_rfl
theorem vc167 (g_b g_o : Nat) (index_ : Int) (term_ : Int) (h : Heap) (R : Value → Heap → Prop)
  (hv : ∀ b1 h1, Fresh h (.cells #[.int .u64 index_] 32) b1 h1 →
   ∀ b2 h2, Fresh h1 (.cells #[.int .u64 term_] 32) b2 h2 →
   ∃ n1 : Int, cellH h2 b1 0 = some (.int .u64 n1) ∧
   ∃ n2 : Int, cellH h2 g_b g_o = some (.int .u64 n2) ∧
   CondP ((n1 : Int) == n2) (
   ∃ n3 : Int, cellH h2 b2 0 = some (.int .u64 n3) ∧
   ∃ n4 : Int, cellH h2 g_b (g_o + 1) = some (.int .u64 n4) ∧
   CondP ((n3 : Int) == n4) (
   CanSt h2 g_b (g_o + 3) [.slice none 0 0] ∧ ∀ h3, Stored h2 g_b (g_o + 3) [.slice none 0 0] h3 →
   R (.bool true) h3) (
   ∃ x1 : Sl, cellH h2 g_b (g_o + 3) = some (.slice x1.a x1.l x1.c) ∧
   CallsH Tryz.prog 75 #[.slice x1.a x1.l x1.c, .func (.func 181) #[] #[.pointer (some ⟨b1, 0, none⟩), .pointer (some ⟨b2, 0, none⟩)]] h2 (fun r1 h4 => ∃ n5 : Int, r1 = .int .i64 n5 ∧
   CondP (decide ((n5 : Int) < 0)) (
   R (.bool false) h4) (
   ∃ x2 : Sl, cellH h4 g_b (g_o + 3) = some (.slice x2.a x2.l x2.c) ∧
   ((0 : Int) ≤ (0 : Int) ∧ (0 : Int) ≤ IntKind.i64.wrap (n5 + 1) ∧ IntKind.i64.wrap (n5 + 1) ≤ ((x2.c : Nat) : Int)) ∧
   CallsH Tryz.prog 89 #[.slice (subA x2.a 0 x2.c 3) ((IntKind.i64.wrap (n5 + 1)).toNat) x2.c] h4 (fun r2 h5 => ∃ x3 : Sl, r2 = .slice x3.a x3.l x3.c ∧
   CanSt h5 g_b (g_o + 3) [.slice x3.a x3.l x3.c] ∧ ∀ h6, Stored h5 g_b (g_o + 3) [.slice x3.a x3.l x3.c] h6 →
   R (.bool true) h6))))) (
   ∃ x4 : Sl, cellH h2 g_b (g_o + 3) = some (.slice x4.a x4.l x4.c) ∧
   CallsH Tryz.prog 75 #[.slice x4.a x4.l x4.c, .func (.func 181) #[] #[.pointer (some ⟨b1, 0, none⟩), .pointer (some ⟨b2, 0, none⟩)]] h2 (fun r3 h7 => ∃ n6 : Int, r3 = .int .i64 n6 ∧
   CondP (decide ((n6 : Int) < 0)) (
   R (.bool false) h7) (
   ∃ x5 : Sl, cellH h7 g_b (g_o + 3) = some (.slice x5.a x5.l x5.c) ∧
   ((0 : Int) ≤ (0 : Int) ∧ (0 : Int) ≤ IntKind.i64.wrap (n6 + 1) ∧ IntKind.i64.wrap (n6 + 1) ≤ ((x5.c : Nat) : Int)) ∧
   CallsH Tryz.prog 89 #[.slice (subA x5.a 0 x5.c 3) ((IntKind.i64.wrap (n6 + 1)).toNat) x5.c] h7 (fun r4 h8 => ∃ x6 : Sl, r4 = .slice x6.a x6.l x6.c ∧
   CanSt h8 g_b (g_o + 3) [.slice x6.a x6.l x6.c] ∧ ∀ h9, Stored h8 g_b (g_o + 3) [.slice x6.a x6.l x6.c] h9 →
   R (.bool true) h9))))) :
  CallsH Tryz.prog 167 #[.pointer (some ⟨g_b, g_o, none⟩), .int .u64 index_, .int .u64 term_] h R :=
  calls_of_vc tabOk mixed Tryz.func167 (c := c167) (by kernel_rfl) (n := 46) rfl (rs := [.tmp 6]) (by kernel_rfl) ok167 (args := [.pointer (some ⟨g_b, g_o, none⟩), .int .u64 index_, .int .u64 term_]) (Nat.le_of_ble_eq_true rfl) (Eq.mpr (by kernel_rfl) hv)
end Go.Sx.Tryz
namespace Go.Sx.Tryz
open Go Go.Sx Go.Proofs
set_option maxRecDepth 100000
set_option linter.unusedVariables false
noncomputable def c131 : Code := (Tryz.f131.body).getD .skip
def a131 : Ann := (.seq .leaf (.seq (.seq .leaf (.br (.seq .leaf (.seq .leaf .leaf)) .leaf)) (.seq .leaf .leaf)))
theorem ok131 : okC tab 26 true c131 a131 = true := by kernel_rfl
theorem vc131 (g_b g_o : Nat) (h_0 : Int) (h_1 : Bool) (h_2 : Int) (h_3 : Int) (anew_ : Bool) (h : Heap) (R : Value → Heap → Prop)
  (hv : ∀ b1 h1, Fresh h (.cells #[.int .u64 h_0, .bool h_1, .int .u64 h_2, .int .u64 h_3] 103) b1 h1 →
   CondP anew_ (
   ∃ n1 : Int, cellH h1 b1 2 = some (.int .u64 n1) ∧
   ∃ n2 : Int, cellH h1 b1 3 = some (.int .u64 n2) ∧
   CanSt h1 g_b g_o [.int .u64 n1, .int .u64 n2, .slice none 0 0, .slice none 0 0] ∧ ∀ h2, Stored h1 g_b g_o [.int .u64 n1, .int .u64 n2, .slice none 0 0, .slice none 0 0] h2 →
   R (.bool true) h2) (
   ∃ t1 : Bool, cellH h1 b1 1 = some (.bool t1) ∧
   CondP t1 (
   ∃ n3 : Int, cellH h1 b1 2 = some (.int .u64 n3) ∧
   ∃ n4 : Int, cellH h1 b1 3 = some (.int .u64 n4) ∧
   CanSt h1 g_b g_o [.int .u64 n3, .int .u64 n4, .slice none 0 0, .slice none 0 0] ∧ ∀ h3, Stored h1 g_b g_o [.int .u64 n3, .int .u64 n4, .slice none 0 0, .slice none 0 0] h3 →
   R (.bool true) h3) (
   ∃ n5 : Int, cellH h1 b1 2 = some (.int .u64 n5) ∧
   ∃ n6 : Int, cellH h1 b1 3 = some (.int .u64 n6) ∧
   CallsH Tryz.prog 167 #[.pointer (some ⟨g_b, g_o, none⟩), .int .u64 n5, .int .u64 n6] h1 (fun r1 h4 => ∃ t2 : Bool, r1 = .bool t2 ∧
   R (.bool t2) h4)))) :
  CallsH Tryz.prog 131 #[.pointer (some ⟨g_b, g_o, none⟩), .agg #[.int .u64 h_0, .bool h_1, .int .u64 h_2, .int .u64 h_3], .bool anew_] h R :=
  calls_of_vc tabOk mixed Tryz.func131 (c := c131) (by kernel_rfl) (n := 26) rfl (rs := [.tmp 6]) (by kernel_rfl) ok131 (args := [.pointer (some ⟨g_b, g_o, none⟩), .agg #[.int .u64 h_0, .bool h_1, .int .u64 h_2, .int .u64 h_3], .bool anew_]) (Nat.le_of_ble_eq_true rfl) (Eq.mpr (by kernel_rfl) hv)
end Go.Sx.Tryz
namespace Go.Sx.Tryz
open Go Go.Sx Go.Proofs
set_option linter.unusedVariables false
abbrev MaxI : Nat := 4611686018427387904
structure Ent where
  i : Nat
  t : Nat
  b : List UInt8
structure Hd where
  serial : Nat
  anew : Bool
  i : Nat
  t : Nat
def Hd.body (h : Hd) : List UInt8 := natB h.serial ++ flagB h.anew ++ (natB h.i ++ natB h.t)
def Hd.ok (h : Hd) : Prop := h.serial ≤ MaxI ∧ h.i ≤ MaxI ∧ h.t ≤ MaxI
def hdV (h : Hd) : List Value := [.int .u64 (h.serial : Int), .bool h.anew, .int .u64 (h.i : Int), .int .u64 (h.t : Int)]
theorem Hd.body_len (h : Hd) (hk : h.ok) : h.body.length ≤ 40 := by
  obtain ⟨h1, h2, h3⟩ := hk
  have a := natB_le (n := h.serial) (by unfold MaxI at *; omega)
  have b := natB_le (n := h.i) (by unfold MaxI at *; omega)
  have c := natB_le (n := h.t) (by unfold MaxI at *; omega)
  have e := natB_le (n := if h.anew = true then 1 else 0) (by split <;> omega)
  simp only [Hd.body, flagB, List.length_append]; omega
theorem readHead_ok {H : Heap} {S : PH} {R : List Asn} {v : Sl} {hd : Hd} (hs : Sat H S R) (hv : RdB S v hd.body) (hk : hd.ok)
    {K : Value → Heap → Prop} (hK : ∀ H', Sat H' S R → K (.tuple #[.agg (hdV hd).toArray, .bool true]) H') : CallsH Tryz.prog 97 #[.int .u8 1, .slice v.a v.l v.c] H K := by
  apply vc97
  obtain ⟨k1, k2, k3⟩ := hk
  unfold MaxI at *
  intro b1 h1 hf
  have hs1 : Sat h1 S (lst b1 103 [.int .u64 0, .bool false, .int .u64 0, .int .u64 0] :: R) := hs.fresh hf
  refine ropen_spec hs1 fun p h2 hs2 => ⟨_, rfl, ?_⟩
  have hv0 : RdB S v (natB hd.serial ++ (flagB hd.anew ++ (natB hd.i ++ (natB hd.t ++ [])))) := by
    have := hv; simp only [Hd.body, List.append_assoc] at this; simpa using this
  have hb : ∀ n, n ≤ 4611686018427387904 → (natB n).length ≤ 10 := fun n hn => natB_le (by omega)
  have f1 : (flagB hd.anew).length ≤ 10 := natB_le (by split <;> omega)
  have l1 := hb _ k2
  have l2 := hb _ k3
  refine rnat_spec (most := 4611686018427387904) hs2 hv0 (by omega) k1 (by decide) (by simp; omega) fun v1 h3 hv1 hs3 => ⟨_, rfl, ?_⟩
  refine rflag_spec hs3 hv1 (by simp; omega) fun v2 h4 hv2 hs4 => ⟨_, rfl, ?_⟩
  refine rnat_spec (most := 4611686018427387904) hs4 hv2 (by omega) k2 (by decide) (by simp; omega) fun v3 h5 hv3 hs5 => ⟨_, rfl, ?_⟩
  refine rnat_spec (most := 4611686018427387904) hs5 hv3 (by omega) k3 (by decide) (by simp) fun v4 h6 hv4 hs6 => ⟨_, rfl, ?_⟩
  refine hs6.swap.store (Nat.le_refl _) fun h7 hs7 => ?_
  have hs7 : Sat h7 S (lst b1 103 (hdV hd) :: rdr p v4 false :: R) := hs7
  refine ⟨_, _, _, _, hs7.cells 0 rfl, CondP.of (fun _ => ?_) fun hc => by simp at hc⟩
  refine rend_spec hs7.swap (RdB.len hv4) ⟨_, rfl, hs7.cells 0 rfl, ?_⟩
  refine hs7.store (Nat.le_refl _) fun h8 hs8 => ?_
  have hs8 : Sat h8 S (lst b1 103 (hdV hd) :: rdr p v4 false :: R) := hs8
  exact ⟨_, _, _, _, hs8.cells 0 rfl, hK h8 (hs8.drop.drop)⟩
theorem headOf_ok {H : Heap} {S : PH} {R : List Asn} {v : Sl} {hd : Hd} {rest : List UInt8} (hs : Sat H S R) (hv : RdB S v (parcelB 1 hd.body ++ rest)) (hk : hd.ok) (hlen : rest.length < 1000000000)
    {K : Value → Heap → Prop} (hK : ∀ H' S', PH.le S S' → Sat H' S' R → K (.tuple #[.agg (hdV hd).toArray, .bool true]) H') : CallsH Tryz.prog 39 #[.slice v.a v.l v.c] H K := by
  apply vc39
  intro b1 h1 hf
  have hs1 : Sat h1 S (lst b1 103 [.int .u64 0, .bool false, .int .u64 0, .int .u64 0] :: R) := hs.fresh hf
  have hbl := hd.body_len hk
  refine take_ok hs1 hv (by decide) (by omega) hlen fun v' h2 S2 hS hv' hs2 => ⟨_, v', _, _, rfl, CondP.of (fun hc => by simp at hc) fun _ => ?_⟩
  refine readHead_ok hs2 hv' hk fun h4 hs4 => ⟨_, _, _, _, _, rfl, ?_⟩
  refine hs4.store (Nat.le_refl _) fun h5 hs5 => ?_
  have hs5 : Sat h5 S2 (lst b1 103 (hdV hd) :: R) := hs5
  exact ⟨_, _, _, _, hs5.cells 0 rfl, hK h5 S2 hS hs5.drop⟩
theorem headOf_torn {H : Heap} {S : PH} {R : List Asn} {v : Sl} {t : List UInt8} (hs : Sat H S R) (hv : RdB S v t) (ht : Tail t)
    {K : Value → Heap → Prop} (hK : ∀ H', Sat H' S R → ∀ hd : Hd, K (.tuple #[.agg (hdV hd).toArray, .bool false]) H') : CallsH Tryz.prog 39 #[.slice v.a v.l v.c] H K := by
  apply vc39
  intro b1 h1 hf
  have hs1 : Sat h1 S (lst b1 103 [.int .u64 0, .bool false, .int .u64 0, .int .u64 0] :: R) := hs.fresh hf
  obtain ⟨kind, body, q, t1, t2, t3, t4⟩ := ht
  refine take_torn hs1 hv t3 t4 t1 t2 fun h2 hs2 => ⟨_, ⟨none, 0, 0⟩, _, _, rfl, CondP.of (fun _ => ?_) fun hc => by simp at hc⟩
  refine hs2.store (Nat.le_refl _) fun h5 hs5 => ?_
  have hs5 : Sat h5 S (lst b1 103 (hdV ⟨0, false, 0, 0⟩) :: R) := hs5
  exact ⟨_, _, _, _, hs5.cells 0 rfl, hK h5 hs5.drop ⟨0, false, 0, 0⟩⟩
theorem flat_drop {α β : Type} {f : α → List β} {m : Nat} (hf : ∀ x, (f x).length = m) : ∀ (l : List α) (k : Nat), (l.flatMap f).drop (k * m) = (l.drop k).flatMap f
  | l, 0 => by simp
  | [], k + 1 => by simp
  | x :: l, k + 1 => by
    rw [List.flatMap_cons, List.drop_succ_cons, ← flat_drop hf l k, Nat.add_mul, Nat.one_mul, Nat.add_comm, ← List.drop_drop, ← hf x, List.drop_left]
theorem flat_take {α β : Type} {f : α → List β} {m : Nat} (hf : ∀ x, (f x).length = m) : ∀ (l : List α) (k : Nat), (l.flatMap f).take (k * m) = (l.take k).flatMap f
  | l, 0 => by simp
  | [], k + 1 => by simp
  | x :: l, k + 1 => by
    rw [List.flatMap_cons, List.take_succ_cons, List.flatMap_cons, ← flat_take hf l k, Nat.add_mul, Nat.one_mul, Nat.add_comm, ← hf x, List.take_append, List.take_of_length_le (by omega), Nat.add_sub_cancel_left]
theorem flat_len {α β : Type} {f : α → List β} {m : Nat} (hf : ∀ x, (f x).length = m) (l : List α) : (l.flatMap f).length = l.length * m := by
  induction l with
  | nil => simp
  | cons x l ih => rw [List.flatMap_cons, List.length_append, ih, hf, List.length_cons, Nat.add_mul, Nat.one_mul, Nat.add_comm]
theorem flat_at {α β : Type} {f : α → List β} {m : Nat} (hf : ∀ x, (f x).length = m) {l : List α} {k : Nat} (hk : k < l.length) : ((l.flatMap f).drop (k * m)).take m = f l[k] := by
  rw [flat_drop hf, List.drop_eq_getElem_cons hk, List.flatMap_cons, ← hf l[k], List.take_left]
theorem cells_sub {h : Heap} {b o : Nat} {vs : List Value} (hc : CellsAt h b o vs) (k m : Nat) : CellsAt h b (o + k) ((vs.drop k).take m) := by
  refine CellsAt.of fun j v hj => ?_
  rw [List.getElem?_take] at hj
  split at hj
  · rw [List.getElem?_drop] at hj
    have := hc.get _ _ hj
    rwa [Nat.add_assoc]
  · cases hj
abbrev EB := Ent × Sl
def eV (x : EB) : List Value := [.int .u64 (x.1.i : Int), .int .u64 (x.1.t : Int), .slice x.2.a x.2.l x.2.c]
def entV (es : List EB) : List Value := es.flatMap eV
theorem eV_len (x : EB) : (eV x).length = 3 := rfl
theorem entV_len (es : List EB) : (entV es).length = es.length * 3 := flat_len eV_len es
theorem entV_one (es : List EB) : ∀ u ∈ entV es, u.oneCell' = true := by
  intro u hu
  obtain ⟨x, _, hx⟩ := List.mem_flatMap.1 hu
  simp only [eV, List.mem_cons, List.not_mem_nil, or_false] at hx
  rcases hx with rfl | rfl | rfl <;> rfl
theorem el81 : ElemOk Tryz.prog 81 85 3 40 := ElemOk.mk' (z := .agg #[.int .u64 0, .int .u64 0, .slice none 0 0]) Tryz.underlying81 (by kernel_rfl) rfl (by decide)
def eok (S : PH) (es : List EB) : Prop := ∀ x ∈ es, RdB S x.2 x.1.b ∧ x.1.b.length ≤ 512
theorem eok.mono {S S' : PH} {es : List EB} (h : eok S es) (hs : PH.le S S') : eok S' es := fun x hx => ⟨(h x hx).1.mono hs, (h x hx).2⟩
def ownE (v : Sl) (es : List EB) : Asn := own 85 3 v (entV es)
section
variable {H H' : Heap} {S : PH} {R : List Asn}
theorem ownE.len {v : Sl} {es : List EB} (h : Sat H S (ownE v es :: R)) : v.l = es.length ∧ v.l ≤ v.c := by
  obtain ⟨h1, h2⟩ := own.len h
  rw [entV_len] at h1
  exact ⟨by omega, h2⟩
theorem ownE.at {v : Sl} {es : List EB} (h : Sat H S (ownE v es :: R)) {k : Nat} (hk : k < es.length) : ∃ g, v.a = some ⟨g, 0, none⟩ ∧ CellsAt H g (0 + k * 3) (eV es[k]) := by
  obtain ⟨g, h1, h2⟩ := own.cells h (by rw [entV_len]; omega)
  have := cells_sub h2 (k * 3) 3
  rw [entV, flat_at eV_len hk] at this
  exact ⟨g, h1, this⟩
def lgV (fi ft : Nat) (v : Sl) : List Value := [.int .u64 (fi : Int), .int .u64 (ft : Int), .slice none 0 0, .slice v.a v.l v.c]
theorem mid_get {pre l post : List Value} {k : Nat} (hk : k < l.length) : (pre ++ l ++ post)[pre.length + k]? = l[k]? := by
  rw [List.append_assoc, List.getElem?_append_right (by omega), Nat.add_sub_cancel_left, List.getElem?_append_left hk]
theorem mid_put {pre l post : List Value} {k : Nat} {vs : List Value} (hk : k + vs.length ≤ l.length) : putL (pre ++ l ++ post) (pre.length + k) vs = pre ++ putL l k vs ++ post := by
  unfold putL
  rw [List.append_assoc pre l post, List.take_append, List.drop_append, List.take_append_of_le_length (by omega), List.drop_append_of_le_length (by omega)]
  have e1 : pre.length + k - pre.length = k := by omega
  have e2 : pre.length + k + vs.length - pre.length = k + vs.length := by omega
  rw [List.take_of_length_le (by omega), List.drop_of_length_le (by omega), e1, e2]
  simp
def lastE (fi ft : Nat) (es : List EB) : EB := match es.getLast? with | some x => x | none => (⟨fi, ft, []⟩, ⟨none, 0, 0⟩)
theorem mid_cells {pre post : List Value} {fi ft : Nat} {v : Sl} {T : TypeId} {gb : Nat} (hs : Sat H S (lst gb T (pre ++ lgV fi ft v ++ post) :: R)) : CellsAt H gb pre.length [.int .u64 (fi : Int), .int .u64 (ft : Int), .slice none 0 0] :=
  hs.cells pre.length (by rw [List.append_assoc, List.drop_left]; rfl)
theorem last_spec {pre post : List Value} {fi ft : Nat} {v : Sl} {es : List EB} {T : TypeId} {gb : Nat} (hs : Sat H S (lst gb T (pre ++ lgV fi ft v ++ post) :: ownE v es :: R)) (hlen : es.length < 1000000000)
    {K : Value → Heap → Prop} (hK : ∀ H', Sat H' S (lst gb T (pre ++ lgV fi ft v ++ post) :: ownE v es :: R) → K (.agg (eV (lastE fi ft es)).toArray) H') : CallsH Tryz.prog 78 #[.pointer (some ⟨gb, pre.length, none⟩)] H K := by
  apply vc78
  intro b1 h1 hf
  have hs1 : Sat h1 S (lst b1 85 [.int .u64 0, .int .u64 0, .slice none 0 0] :: lst gb T (pre ++ lgV fi ft v ++ post) :: ownE v es :: R) := hs.fresh hf
  obtain ⟨hl, hlc⟩ := ownE.len hs.swap
  have hc3 : cellH h1 gb (pre.length + 3) = some (.slice v.a v.l v.c) := hs1.swap.cell _ (by rw [mid_get (by simp [lgV])]; rfl)
  refine ⟨v, hc3, CondP.of (fun hc => ?_) (fun hc => ⟨v, hc3, v, hc3, ?_⟩)⟩
  · have h0 : es = [] := List.eq_nil_of_length_eq_zero (by simp at hc; omega)
    subst h0
    refine ⟨_, _, ⟨none, 0, 0⟩, mid_cells hs1.swap, ?_⟩
    refine hs1.store (Nat.le_refl _) fun h2 hs2 => ?_
    have hs2 : Sat h2 S (lst b1 85 (eV (lastE fi ft [])) :: lst gb T (pre ++ lgV fi ft v ++ post) :: ownE v [] :: R) := hs2
    exact ⟨_, _, _, hs2.cells 0 rfl, hK h2 hs2.drop⟩
  · have h0 : 0 < es.length := by simp at hc; omega
    rw [i64_in (by omega) (by omega)]
    have e : (((v.l : Nat) : Int) - 1).toNat = es.length - 1 := by omega
    refine ⟨⟨by omega, by omega⟩, ?_⟩
    obtain ⟨g, ga, gc⟩ := ownE.at (hs1.pick 2 rfl) (k := es.length - 1) (by omega)
    have hla : lastE fi ft es = es[es.length - 1] := by
      unfold lastE
      rw [List.getLast?_eq_getElem?, List.getElem?_eq_getElem (by omega)]
    refine NilP.of ga ?_
    rw [e]
    refine ⟨_, _, _, gc, ?_⟩
    refine hs1.store (Nat.le_refl _) fun h2 hs2 => ?_
    have hs2 : Sat h2 S (lst b1 85 (eV es[es.length - 1]) :: lst gb T (pre ++ lgV fi ft v ++ post) :: ownE v es :: R) := hs2
    refine ⟨_, _, _, hs2.cells 0 rfl, ?_⟩
    have := hK h2 hs2.drop
    rw [hla] at this
    exact this
def mayB (fi li from_ : Nat) : Bool := decide (fi < from_) && decide (from_ - 1 ≤ li)
theorem may_spec {pre post : List Value} {fi ft fr : Nat} {v : Sl} {es : List EB} {T : TypeId} {gb : Nat} (hs : Sat H S (lst gb T (pre ++ lgV fi ft v ++ post) :: ownE v es :: R)) (hlen : es.length < 1000000000) (hfr : fr < 18446744073709551616)
    {K : Value → Heap → Prop} (hK : ∀ H', Sat H' S (lst gb T (pre ++ lgV fi ft v ++ post) :: ownE v es :: R) → K (.bool (mayB fi (lastE fi ft es).1.i fr)) H') : CallsH Tryz.prog 88 #[.pointer (some ⟨gb, pre.length, none⟩), .int .u64 (fr : Int)] H K := by
  apply vc88
  have hc0 : cellH H gb pre.length = some (.int .u64 (fi : Int)) := by
    have := hs.cell (pre.length + 0) (v := .int .u64 (fi : Int)) (by rw [mid_get (by simp [lgV])]; rfl)
    exact this
  refine ⟨_, hc0, CondP.of (fun hc => ?_) (fun hc => ?_)⟩
  · have hlt : fi < fr := by simp at hc; omega
    refine last_spec hs hlen fun h1 hs1 => ⟨_, _, _, rfl, ?_⟩
    rw [u64_in (by omega) (by omega)]
    have e : decide ((fr : Int) - 1 ≤ ((lastE fi ft es).1.i : Int)) = mayB fi (lastE fi ft es).1.i fr := by
      unfold mayB
      rw [decide_eq_true hlt, Bool.true_and]
      exact decide_eq_decide.2 (by omega)
    rw [e]; exact hK h1 hs1
  · have e : mayB fi (lastE fi ft es).1.i fr = false := by
      have : ¬ fi < fr := by simp at hc; omega
      unfold mayB; rw [decide_eq_false this, Bool.false_and]
    have := hK H hs
    rw [e] at this; exact this
end
end Go.Sx.Tryz
namespace Go.Sx.Tryz
open Go Go.Sx Go.Proofs
set_option maxRecDepth 100000
set_option linter.unusedVariables false
noncomputable def c132 : Code := (Tryz.f132.body).getD .skip
def a132 : Ann := (.seq .leaf (.seq .leaf (.seq .leaf (.seq .leaf (.seq (.join [(42, .one (.b))] .leaf (.br (.seq .leaf .leaf) .leaf)) (.seq (.reg (.q 0 (.q 1 (.q 2 (.q 3 (.q 4 (.q 5 (.m 6 (.m 7 (.q 8 (.q 9 (.m 10 (.fin) (.nil)))) (.nil)) (.nil))))))))) (.seq .leaf .leaf)))))))
theorem ok132 : okC tab 53 true c132 a132 = true := by kernel_rfl
theorem vc132 (g_b g_o : Nat) (body_ : Sl) (h : Heap) (R : Value → Heap → Prop)
  (hv : CallsH Tryz.prog 135 #[.slice body_.a body_.l body_.c] h (fun r1 h1 => ∃ p1 : Option Addr, r1 = .pointer p1 ∧
   CallsH Tryz.prog 136 #[.pointer p1, .int .u64 4611686018427387904] h1 (fun r2 h2 => ∃ n1 : Int, r2 = .int .u64 n1 ∧
   CallsH Tryz.prog 136 #[.pointer p1, .int .u64 4611686018427387904] h2 (fun r3 h3 => ∃ n2 : Int, r3 = .int .u64 n2 ∧
   CallsH Tryz.prog 168 #[.pointer p1, .int .i64 512] h3 (fun r4 h4 => ∃ s1 : ByteArray, r4 = .string s1 ∧
   RunK Tryz.prog (.sl) (convert 9 33 (.string s1)) h4 (fun x1 h5 =>
   ∀ b1 h6, Fresh h5 (.cells #[.int .u64 0, .int .u64 0, .slice none 0 0] 85) b1 h6 →
   CanSt h6 b1 0 [.int .u64 n1, .int .u64 n2, .slice x1.a x1.l x1.c] ∧ ∀ h7, Stored h6 b1 0 [.int .u64 n1, .int .u64 n2, .slice x1.a x1.l x1.c] h7 →
   CallsH Tryz.prog 78 #[.pointer (some ⟨g_b, g_o, none⟩)] h7 (fun r5 h8 => ∃ n3 : Int, ∃ n4 : Int, ∃ x2 : Sl, r5 = .agg #[.int .u64 n3, .int .u64 n4, .slice x2.a x2.l x2.c] ∧
   ∀ b2 h9, Fresh h8 (.cells #[.int .u64 0, .int .u64 0, .slice none 0 0] 85) b2 h9 →
   CanSt h9 b2 0 [.int .u64 n3, .int .u64 n4, .slice x2.a x2.l x2.c] ∧ ∀ h10, Stored h9 b2 0 [.int .u64 n3, .int .u64 n4, .slice x2.a x2.l x2.c] h10 →
   ∃ J1 : Bool → Heap → Prop, (∀ t1 : Bool, ∀ h11, J1 t1 h11 → ∀ _ : Env,
   CondP t1 (
   R (.bool false) h11) (
   ∃ x3 : Sl, cellH h11 g_b (g_o + 3) = some (.slice x3.a x3.l x3.c) ∧
   ∃ n5 : Int, ∃ n6 : Int, ∃ x4 : Sl, CellsAt h11 b1 0 [.int .u64 n5, .int .u64 n6, .slice x4.a x4.l x4.c] ∧
   ∀ b3 h12, Fresh h11 (.cells #[.int .u64 n5, .int .u64 n6, .slice x4.a x4.l x4.c] 85) b3 h12 →
   cellH h12 g_b (g_o + 3) = some (.slice x3.a x3.l x3.c) ∧
   RunK Tryz.prog (.sl) (Builtin.append_ #[81, 81] 81 #[.slice x3.a x3.l x3.c, .slice (some ⟨b3, 0, none⟩) 1 1]) h12 (fun x5 h13 =>
   CanSt h13 g_b (g_o + 3) [.slice x5.a x5.l x5.c] ∧ ∀ h14, Stored h13 g_b (g_o + 3) [.slice x5.a x5.l x5.c] h14 →
   R (.bool true) h14))) ∧
   CallsH Tryz.prog 141 #[.pointer p1] h10 (fun r6 h15 => ∃ n7 : Int, r6 = .int .i64 n7 ∧
   CondP ((n7 : Int) != 0) (
   J1 true h15) (
   ∃ n8 : Int, cellH h15 b1 0 = some (.int .u64 n8) ∧
   CondP ((n8 : Int) == 0) (
   J1 true h15) (
   ∃ n9 : Int, cellH h15 b1 0 = some (.int .u64 n9) ∧
   ∃ n10 : Int, cellH h15 b2 0 = some (.int .u64 n10) ∧
   CondP ((IntKind.u64.wrap (n9 - 1) : Int) != n10) (
   J1 true h15) (
   ∃ n11 : Int, cellH h15 b1 1 = some (.int .u64 n11) ∧
   ∃ n12 : Int, cellH h15 b2 1 = some (.int .u64 n12) ∧
   J1 (decide ((n11 : Int) < n12)) h15))))))))))) :
  CallsH Tryz.prog 132 #[.pointer (some ⟨g_b, g_o, none⟩), .slice body_.a body_.l body_.c] h R :=
  calls_of_vc tabOk mixed Tryz.func132 (c := c132) (by kernel_rfl) (n := 53) rfl (rs := [.tmp 4]) (by kernel_rfl) ok132 (args := [.pointer (some ⟨g_b, g_o, none⟩), .slice body_.a body_.l body_.c]) (Nat.le_of_ble_eq_true rfl) (Eq.mpr (by kernel_rfl) hv)
end Go.Sx.Tryz
namespace Go.Sx.Tryz
open Go Go.Sx Go.Proofs
set_option maxRecDepth 100000
set_option linter.unusedVariables false
noncomputable def c133 : Code := (Tryz.f133.body).getD .skip
def a133 : Ann := (.seq .leaf (.seq .leaf (.seq .leaf (.seq (.join [(26, .one (.b))] .leaf (.br (.seq .leaf .leaf) .leaf)) (.seq (.reg (.q 0 (.q 1 (.q 2 (.q 3 (.q 4 (.q 5 (.q 6 (.q 7 (.q 8 (.q 9 (.q 10 (.q 11 (.q 12 (.q 13 (.m 14 (.q 15 (.q 16 (.m 17 (.fin) (.nil)))) (.nil))))))))))))))))) (.seq .leaf .leaf))))))
theorem ok133 : okC tab 44 true c133 a133 = true := by kernel_rfl
theorem vc133 (g_b g_o : Nat) (body_ : Sl) (own_ : Int) (h : Heap) (R : Value → Heap → Prop)
  (hv : CallsH Tryz.prog 135 #[.slice body_.a body_.l body_.c] h (fun r1 h1 => ∃ p1 : Option Addr, r1 = .pointer p1 ∧
   CallsH Tryz.prog 136 #[.pointer p1, .int .u64 18446744073709551615] h1 (fun r2 h2 => ∃ n1 : Int, r2 = .int .u64 n1 ∧
   ∃ J1 : Bool → Heap → Prop, (∀ t1 : Bool, ∀ h3, J1 t1 h3 → ∀ _ : Env,
   CondP t1 (
   R (.bool false) h3) (
   ∃ x1 : Sl, cellH h3 g_b (g_o + 3) = some (.slice x1.a x1.l x1.c) ∧
   ∃ n2 : Int, cellH h3 g_b g_o = some (.int .u64 n2) ∧
   ((0 : Int) ≤ (0 : Int) ∧ (0 : Int) ≤ IntKind.u64.wrap ((IntKind.u64.wrap (n1 - 1)) - n2) ∧ IntKind.u64.wrap ((IntKind.u64.wrap (n1 - 1)) - n2) ≤ ((x1.c : Nat) : Int)) ∧
   CallsH Tryz.prog 89 #[.slice (subA x1.a 0 x1.c 3) ((IntKind.u64.wrap ((IntKind.u64.wrap (n1 - 1)) - n2)).toNat) x1.c] h3 (fun r3 h4 => ∃ x2 : Sl, r3 = .slice x2.a x2.l x2.c ∧
   CanSt h4 g_b (g_o + 3) [.slice x2.a x2.l x2.c] ∧ ∀ h5, Stored h4 g_b (g_o + 3) [.slice x2.a x2.l x2.c] h5 →
   R (.bool true) h5))) ∧
   CallsH Tryz.prog 141 #[.pointer p1] h2 (fun r4 h6 => ∃ n3 : Int, r4 = .int .i64 n3 ∧
   CondP ((n3 : Int) != 0) (
   J1 true h6) (
   CondP (decide ((n1 : Int) ≤ own_)) (
   J1 true h6) (
   CallsH Tryz.prog 88 #[.pointer (some ⟨g_b, g_o, none⟩), .int .u64 n1] h6 (fun r5 h7 => ∃ t2 : Bool, r5 = .bool t2 ∧
   J1 (!t2) h7))))))) :
  CallsH Tryz.prog 133 #[.pointer (some ⟨g_b, g_o, none⟩), .slice body_.a body_.l body_.c, .int .u64 own_] h R :=
  calls_of_vc tabOk mixed Tryz.func133 (c := c133) (by kernel_rfl) (n := 44) rfl (rs := [.tmp 6]) (by kernel_rfl) ok133 (args := [.pointer (some ⟨g_b, g_o, none⟩), .slice body_.a body_.l body_.c, .int .u64 own_]) (Nat.le_of_ble_eq_true rfl) (Eq.mpr (by kernel_rfl) hv)
end Go.Sx.Tryz
namespace Go.Sx.Tryz
open Go Go.Sx Go.Proofs
set_option linter.unusedVariables false
section
variable {H H' : Heap} {S : PH} {R : List Asn}
theorem conv_bytes (hs : Sat H S R) {s : ByteArray} (hl : s.size < 1000000000) {K : Sl → Heap → Prop} (hk : ∀ (v : Sl) H' S', PH.le S S' → RdB S' v s.data.toList → Sat H' S' R → K v H') :
    RunK Tryz.prog .sl (convert 9 33 (.string s)) H K := by
  intro w hw
  have hr := Go.Lib.run_convert_string_bytes (P := Tryz.prog) w 9 33 5 s Tryz.underlying9 Tryz.underlying33 Tryz.underlying5
  have hge := grownCap_ge w s.size 0 5
  obtain ⟨o, ho⟩ : ∃ o, o = Obj.cells (Go.Lib.bytesCells w 5 s) 5 ((Go.Lib.bytesCells w 5 s).size, (Go.Lib.bytesCells w 5 s).size + 1) := ⟨_, rfl⟩
  have hheap : (Go.Lib.bytesWorld w 5 s).heap = H.push o := by
    subst hw
    apply Array.ext_getElem?
    intro j
    rcases Nat.lt_trichotomy j w.heap.size with h | h | h
    · rw [Go.Lib.bytesWorld_at_old w 5 s j h, Array.getElem?_push, if_neg (by omega)]
    · subst h
      rw [Go.Lib.bytesWorld_at_new, ho]; simp
    · rw [Array.getElem?_eq_none (by rw [Go.Lib.bytesWorld_size]; omega), Array.getElem?_eq_none (by simp; omega)]
  refine ⟨⟨some ⟨w.heap.size, 0, none⟩, s.size, grownCap w s.size 0 5⟩, _, hr, ?_, ?_⟩
  · have : SameW w (w.drew.alloc (.cells (Go.Lib.bytesCells w 5 s) 5)) := ⟨rfl, rfl, rfl⟩
    refine this.trans ?_
    unfold Go.Lib.bytesWorld World.freeze
    split <;> exact ⟨rfl, rfl, rfl⟩
  · rw [hheap]
    have hs1 : Sat (H.push o) S (blk H.size o :: R) := hs.fresh ⟨rfl, rfl⟩
    obtain ⟨S', q1, q2, q3⟩ := hs1.fixd
    refine hk _ _ S' q1 ⟨?_, hge, .inr ⟨H.size, 0, _, _, _, by rw [hw], by rw [q2, ho], fun j x hx => ?_⟩⟩ q3
    · rw [bv_len, size_data, Nat.mul_one]
    · unfold Go.Lib.bytesCells
      have hj : j < s.size := by
        have := (List.getElem?_eq_some_iff.1 hx).1
        rw [bv_len, size_data] at this; exact this
      have hj' : j < s.data.size := hj
      rw [Nat.zero_add, Array.getElem?_append_left (by simpa using hj')]
      simp only [bv, List.getElem?_map, Array.getElem?_toList] at hx
      simpa using hx
def idxV (o : Option Nat) : Int := match o with | some i => i | none => -1
theorem index_spec {v : Sl} {es : List EB} {f : Value} {p : EB → Bool} (hs : Sat H S (ownE v es :: R)) (hlen : es.length < 1000000000)
    (hf : ∀ x ∈ es, ∀ h (K : Value → Heap → Prop), Sat h S (ownE v es :: R) → (∀ h', Sat h' S (ownE v es :: R) → K (.bool (p x)) h') → CallV Tryz.prog f [.agg (eV x).toArray] h K)
    {K : Value → Heap → Prop} (hK : ∀ h', Sat h' S (ownE v es :: R) → K (.int .i64 (idxV (es.findIdx? p))) h') : CallsH Tryz.prog 75 #[.slice v.a v.l v.c, f] H K := by
  apply vc75
  obtain ⟨hl, _⟩ := ownE.len hs
  refine ⟨fun n h => ∃ i : Nat, n = i ∧ i ≤ es.length ∧ (∀ j (hj : j < es.length), j < i → p es[j] = false) ∧ Sat h S (ownE v es :: R), fun n _ => es.length - n.toNat, ⟨0, rfl, Nat.zero_le _, fun j _ h => by omega, hs⟩, ?_⟩
  rintro n h1 ⟨i, rfl, hi, hp, hs1⟩ _
  refine CondP.of (fun hc => ?_) (fun hc => ?_)
  · have hc : i < es.length := by simp at hc; omega
    refine ⟨⟨by omega, by omega⟩, ?_⟩
    obtain ⟨g, ga, gc⟩ := ownE.at hs1 hc
    refine NilP.of ga ⟨_, _, _, gc, ?_⟩
    refine hf es[i] (List.getElem_mem hc) h1 _ hs1 fun h2 hs2 => ⟨_, rfl, CondP.of (fun ht => ?_) (fun ht => ?_)⟩
    · have := hK h2 hs2
      rw [List.findIdx?_eq_some_iff_getElem.2 ⟨hc, ht, fun j hj => by rw [hp j (by omega) hj]; simp⟩] at this
      exact this
    · refine ⟨⟨i + 1, i64_succ (by omega), hc, fun j hj hji => ?_, hs2⟩, ?_⟩
      · rcases Nat.lt_or_ge j i with h | h
        · exact hp j hj h
        · have : j = i := by omega
          subst this; exact ht
      · show es.length - (IntKind.i64.wrap ((i : Int) + 1)).toNat < es.length - i
        rw [i64_succ (by omega)]; show es.length - (i + 1) < _; omega
  · have hc : i = es.length := by simp at hc; omega
    subst hc
    have := hK h1 hs1
    rw [List.findIdx?_eq_none_iff.2 fun x hx => by
      obtain ⟨j, hj, rfl⟩ := List.getElem_of_mem hx
      exact hp j hj hj] at this
    exact this
theorem cloneE_spec {v : Sl} {es : List EB} (hs : Sat H S R) (hr : v.l = es.length ∧ (v.l = 0 ∨ ∃ b o, v.a = some ⟨b, o, none⟩ ∧ CellsAt H b o (entV es))) (hlen : es.length < 1000000000)
    {K : Value → Heap → Prop} (hk : ∀ (v' : Sl) H', Sat H' S (ownE v' es :: R) → K (.slice v'.a v'.l v'.c) H') : CallsH Tryz.prog 89 #[.slice v.a v.l v.c] H K := by
  apply vc89
  obtain ⟨hl, hr⟩ := hr
  refine CondP.of (fun hc => ?_) (fun hc => ?_)
  · have h0 : v.l = 0 := by
      rcases hr with h | ⟨b, o, h, _⟩
      · exact h
      · rw [h] at hc; cases hc
    have hx : es = [] := List.eq_nil_of_length_eq_zero (by omega)
    subst hx
    exact hk ⟨none, 0, 0⟩ H (own.new 85 3 hs)
  · intro b1 h1 hf
    have hs1 : Sat h1 S (lst b1 85 [] :: R) := hs.fresh hf
    have hs2 := own.ofLst (sz := 3) (n := 0) (c := 0) (xs := []) hs1 rfl (Nat.le_refl _) (by decide) rfl
    refine append_own el81 (v := ⟨some ⟨b1, 0, none⟩, 0, 0⟩) hs2 (m := v.l) (c := v.c) (news := entV es) (by rw [entV_len]; omega) ?_ (entV_one es) (by show (0 + v.l) * 40 ≤ _; omega) (by show 0 + v.l ≤ maxLen; unfold maxLen; omega) fun v' H' hv' hs' => hk v' H' hs'
    rcases hr with h | ⟨b, o, ha, hc⟩
    · exact .inl h
    · exact .inr ⟨b, o, ha, CellsAt.fresh hf hc⟩
theorem ownE.reads {v : Sl} {es : List EB} (h : Sat H S (ownE v es :: R)) (k : Nat) (hk : k ≤ es.length) (c : Nat) : (⟨subA v.a 0 c 3, k, c⟩ : Sl).l = (es.take k).length ∧ ((⟨subA v.a 0 c 3, k, c⟩ : Sl).l = 0 ∨ ∃ b o, (⟨subA v.a 0 c 3, k, c⟩ : Sl).a = some ⟨b, o, none⟩ ∧ CellsAt H b o (entV (es.take k))) := by
  refine ⟨by rw [List.length_take]; show k = _; omega, ?_⟩
  rcases Nat.eq_zero_or_pos k with h0 | h0
  · exact .inl h0
  · right
    obtain ⟨g, h1, h2⟩ := own.cells h (by rw [entV_len]; omega)
    refine ⟨g, 0, ?_, ?_⟩
    · show subA v.a 0 c 3 = _
      rw [subA_zero (by intro a ha; rw [h1] at ha; cases ha; rfl)]; exact h1
    · have := cells_sub h2 0 (k * 3)
      rw [List.drop_zero, entV, flat_take eV_len] at this
      exact this
structure Lg where
  fi : Nat
  ft : Nat
  es : List EB
def Lg.last (g : Lg) : EB := lastE g.fi g.ft g.es
def Lg.to (g : Lg) (i t : Nat) : Bool × Lg :=
  if i = g.fi ∧ t = g.ft then (true, { g with es := [] }) else
  match g.es.findIdx? (fun x => x.1.i == i && x.1.t == t) with
  | some k => (true, { g with es := g.es.take (k + 1) })
  | none => (false, g)
def Lg.begin (g : Lg) (h : Hd) (anew : Bool) : Bool × Lg := if (anew || h.anew) = true then (true, ⟨h.i, h.t, []⟩) else g.to h.i h.t
def lgA (gb : Nat) (T : TypeId) (g : Lg) : Asn := exs fun v : Sl => st (lst gb T (lgV g.fi g.ft v)) (ownE v g.es)
theorem lgA_open {gb : Nat} {T : TypeId} {g : Lg} (hs : Sat H S (lgA gb T g :: R)) : ∃ v, Sat H S (lst gb T (lgV g.fi g.ft v) :: ownE v g.es :: R) := by
  obtain ⟨v, hs⟩ := hs.open
  exact ⟨v, hs.unst⟩
theorem lgA_shut {gb : Nat} {T : TypeId} {g : Lg} {v : Sl} (hs : Sat H S (lst gb T (lgV g.fi g.ft v) :: ownE v g.es :: R)) : Sat H S (lgA gb T g :: R) :=
  Sat.shut (A := fun v : Sl => st (lst gb T (lgV g.fi g.ft v)) (ownE v g.es)) v hs.mkst
theorem beq_nat_int (a b : Nat) : ((a : Int) == (b : Int)) = (a == b) := by
  by_cases h : a = b
  · simp [h]
  · have : ¬ (a : Int) = (b : Int) := by omega
    rw [beq_eq_false_iff_ne.2 h, beq_eq_false_iff_ne.2 this]
theorem to_spec {gb : Nat} {T : TypeId} {g : Lg} {i t : Nat} (hs : Sat H S (lgA gb T g :: R)) (hlen : g.es.length < 1000000000)
    {K : Value → Heap → Prop} (hK : ∀ H', Sat H' S (lgA gb T (g.to i t).2 :: R) → K (.bool (g.to i t).1) H') : CallsH Tryz.prog 167 #[.pointer (some ⟨gb, 0, none⟩), .int .u64 (i : Int), .int .u64 (t : Int)] H K := by
  apply vc167
  intro b1 h1 hf1 b2 h2 hf2
  have hs1 : Sat h1 S (lst b1 32 [.int .u64 (i : Int)] :: lgA gb T g :: R) := hs.fresh hf1
  have hs2 : Sat h2 S (lst b2 32 [.int .u64 (t : Int)] :: lst b1 32 [.int .u64 (i : Int)] :: lgA gb T g :: R) := hs1.fresh hf2
  obtain ⟨v, hs3⟩ := lgA_open (hs2.sel [2])
  have hfind : ¬ (i = g.fi ∧ t = g.ft) → ∃ x : Sl, cellH h2 gb 3 = some (.slice x.a x.l x.c) ∧
      CallsH Tryz.prog 75 #[.slice x.a x.l x.c, .func (.func 181) #[] #[.pointer (some ⟨b1, 0, none⟩), .pointer (some ⟨b2, 0, none⟩)]] h2 (fun r1 h4 => ∃ n5 : Int, r1 = .int .i64 n5 ∧
        CondP (decide ((n5 : Int) < 0)) (K (.bool false) h4) (
        ∃ x2 : Sl, cellH h4 gb 3 = some (.slice x2.a x2.l x2.c) ∧
        ((0 : Int) ≤ (0 : Int) ∧ (0 : Int) ≤ IntKind.i64.wrap (n5 + 1) ∧ IntKind.i64.wrap (n5 + 1) ≤ ((x2.c : Nat) : Int)) ∧
        CallsH Tryz.prog 89 #[.slice (subA x2.a 0 x2.c 3) ((IntKind.i64.wrap (n5 + 1)).toNat) x2.c] h4 (fun r2 h5 => ∃ x3 : Sl, r2 = .slice x3.a x3.l x3.c ∧
          CanSt h5 gb 3 [.slice x3.a x3.l x3.c] ∧ ∀ h6, Stored h5 gb 3 [.slice x3.a x3.l x3.c] h6 → K (.bool true) h6))) := by
    intro hne
    refine ⟨v, hs3.cell 3 rfl, ?_⟩
    have hs4 := hs3.sel [1]
    obtain ⟨hl, hlc⟩ := ownE.len hs4
    refine index_spec (p := fun x => x.1.i == i && x.1.t == t) hs4 hlen (fun x hx h K' hs' hK' => ?_) fun h4 hs5 => ?_
    · refine .inl ⟨181, #[], _, rfl, call181, vc181 _ _ _ b1 0 b2 0 _ _ ?_⟩
      intro b3 h5 hf3
      have hs6 := hs'.fresh hf3
      have hs6 : Sat h5 S (lst b3 85 (eV x) :: ownE v g.es :: lst gb T (lgV g.fi g.ft v) :: lst b2 32 [.int .u64 (t : Int)] :: lst b1 32 [.int .u64 (i : Int)] :: R) := hs6
      refine ⟨_, hs6.cell 0 rfl, _, (hs6.pick 4 rfl).cell 0 rfl, CondP.of (fun hc => ?_) (fun hc => ?_)⟩
      · refine ⟨_, hs6.cell 1 rfl, _, (hs6.pick 3 rfl).cell 0 rfl, ?_⟩
        rw [beq_nat_int] at hc ⊢
        have := hK' h5 hs6.drop
        rw [hc, Bool.true_and] at this
        exact this
      · rw [beq_nat_int] at hc
        have := hK' h5 hs6.drop
        rw [hc, Bool.false_and] at this
        exact this
    · refine ⟨_, rfl, CondP.of (fun hc => ?_) (fun hc => ?_)⟩
      · cases hfi : g.es.findIdx? (fun x => x.1.i == i && x.1.t == t) with
        | some k => rw [hfi] at hc; exfalso; have h0 : ((k : Nat) : Int) < 0 := of_decide_eq_true hc; omega
        | none =>
          have e : g.to i t = (false, g) := by rw [Lg.to, if_neg hne, hfi]
          have hs7 := lgA_shut ((hs5.sel [1]).del 2 |>.del 2)
          have := hK h4 (by rw [e]; exact hs7)
          rw [e] at this; exact this
      · cases hfi : g.es.findIdx? (fun x => x.1.i == i && x.1.t == t) with
        | none => rw [hfi] at hc; simp [idxV] at hc
        | some k =>
          have hk : k < g.es.length := (List.findIdx?_eq_some_iff_getElem.1 hfi).1
          refine ⟨v, (hs5.sel [1]).cell 3 rfl, ?_⟩
          show (_ ∧ _ ≤ IntKind.i64.wrap ((k : Int) + 1) ∧ _) ∧ _
          rw [show idxV (some k) = (k : Int) from rfl, i64_succ (by omega)]
          simp only [Int.toNat_natCast]
          refine ⟨⟨by omega, by omega, by omega⟩, ?_⟩
          refine cloneE_spec (v := ⟨subA v.a 0 v.c 3, k + 1, v.c⟩) hs5 (ownE.reads hs5 (k + 1) hk v.c) (by rw [List.length_take]; omega) fun v' h5 hs6 => ⟨v', rfl, ?_⟩
          refine (hs6.sel [2]).store (by simp [lgV]) fun h6 hs7 => ?_
          have e : g.to i t = (true, { g with es := g.es.take (k + 1) }) := by rw [Lg.to, if_neg hne, hfi]
          have hs8 : Sat h6 S (lst gb T (lgV g.fi g.ft v') :: ownE v' (g.es.take (k + 1)) :: R) := ((hs7.del 2).del 2).del 2
          have := hK h6 (by rw [e]; exact lgA_shut (g := { g with es := g.es.take (k + 1) }) hs8)
          rw [e] at this; exact this
  refine ⟨_, (hs3.pick 3 rfl).cell 0 rfl, _, hs3.cell 0 rfl, CondP.of (fun hc => ⟨_, (hs3.pick 2 rfl).cell 0 rfl, _, hs3.cell 1 rfl, CondP.of (fun hc2 => ?_) (fun hc2 => hfind ?_)⟩) (fun hc => hfind ?_)⟩
  · rw [beq_nat_int] at hc hc2
    have h1 : i = g.fi ∧ t = g.ft := ⟨by simpa using hc, by simpa using hc2⟩
    have e : g.to i t = (true, { g with es := [] }) := by rw [Lg.to, if_pos h1]
    refine hs3.store (by simp [lgV]) fun h3 hs4 => ?_
    have hs5 : Sat h3 S (lst gb T (lgV g.fi g.ft ⟨none, 0, 0⟩) :: R) := ((hs4.del 1).del 1).del 1
    have := hK h3 (by rw [e]; exact lgA_shut (g := { g with es := [] }) (own.new 85 3 hs5).swap)
    rw [e] at this; exact this
  · rintro ⟨_, rfl⟩; simp at hc2
  · rintro ⟨rfl, _⟩; simp at hc
end
end Go.Sx.Tryz
namespace Go.Sx.Tryz
open Go Go.Sx Go.Proofs
set_option maxRecDepth 100000
set_option linter.unusedVariables false
noncomputable def c95 : Code := (Tryz.f95.body).getD .skip
def a95 : Ann := (.seq .leaf (.seq .leaf (.seq (.seq .leaf (.inn (.range [.one (.i .u8), .one (.sl)] true [] (.seq .leaf .leaf) (.inn (.seq .leaf (.seq (.seq .leaf (.inn (.seq .leaf (.br (.seq .leaf (.seq .leaf (.reg (.q 0 (.q 1 (.m 2 (.m 3 (.fin) (.nil)) (.nil))))))) (.seq .leaf (.br .leaf (.seq .leaf (.br .leaf .leaf)))))))) (.seq .leaf (.br (.seq .leaf .leaf) .leaf)))))))) (.seq .leaf (.seq .leaf .leaf)))))
theorem ok95 : okC tab 71 true c95 a95 = true := by kernel_rfl
theorem vc95 (g_b g_o : Nat) (b_ : Sl) (oldest_ : Bool) (newest_ : Bool) (h : Heap) (R : Value → Heap → Prop)
  (hv : ∀ b1 h1, Fresh h (.cells #[.pointer (some ⟨g_b, g_o, none⟩)] 187) b1 h1 →
   ∀ b2 h2, Fresh h1 (.cells #[.bool oldest_] 4) b2 h2 →
   ∀ b3 h3, Fresh h2 (.cells #[.bool false] 4) b3 h3 →
   ∀ b4 h4, Fresh h3 (.cells #[.bool false] 4) b4 h4 →
   ∀ b5 h5, Fresh h4 (.cells #[.int .u64 0] 32) b5 h5 →
   CanSt h5 b4 0 [.bool false] ∧ ∀ h6, Stored h5 b4 0 [.bool false] h6 →
   CanSt h6 b5 0 [.int .u64 0] ∧ ∀ h7, Stored h6 b5 0 [.int .u64 0] h7 →
   CallsH Tryz.prog 130 #[.slice b_.a b_.l b_.c] h7 (fun r1 h8 => ∃ v1 : Value, r1 = v1 ∧
   ∃ g1 cap1, v1 = .func (.func g1) #[] cap1 ∧ Callable Tryz.prog g1 ∧ ∀ D1 l1 rc1 h9, LoopStart h8 D1 l1 rc1 h9 →
   (∀ n1 : Int, ∀ x1 : Sl, ∀ (h10 : Heap) (R1 : Value → Heap → Prop), h10[l1]? = some (rc1 .ready none) →
   (h10[l1]? = some (rc1 .ready none) ∧
   CondP ((n1 : Int) == 1) (
   CallsH Tryz.prog 97 #[.int .u8 n1, .slice x1.a x1.l x1.c] (setB h10 l1 (rc1 .busy none)) (fun r2 h11 => ∃ n2 : Int, ∃ t1 : Bool, ∃ n3 : Int, ∃ n4 : Int, ∃ t2 : Bool, r2 = .tuple #[.agg #[.int .u64 n2, .bool t1, .int .u64 n3, .int .u64 n4], .bool t2] ∧
   ∀ b6 h12, Fresh h11 (.cells #[.int .u64 0, .bool false, .int .u64 0, .int .u64 0] 103) b6 h12 →
   CanSt h12 b6 0 [.int .u64 n2, .bool t1, .int .u64 n3, .int .u64 n4] ∧ ∀ h13, Stored h12 b6 0 [.int .u64 n2, .bool t1, .int .u64 n3, .int .u64 n4] h13 →
   CondP t2 (
   ∃ t3 : Bool, cellH h13 b4 0 = some (.bool t3) ∧
   CondP (!t3) (
   ∃ p1 : Option Addr, cellH h13 b1 0 = some (.pointer p1) ∧
   ∃ n5 : Int, ∃ t4 : Bool, ∃ n6 : Int, ∃ n7 : Int, CellsAt h13 b6 0 [.int .u64 n5, .bool t4, .int .u64 n6, .int .u64 n7] ∧
   ∃ t5 : Bool, cellH h13 b2 0 = some (.bool t5) ∧
   CallsH Tryz.prog 131 #[.pointer p1, .agg #[.int .u64 n5, .bool t4, .int .u64 n6, .int .u64 n7], .bool t5] h13 (fun r3 h14 => ∃ t6 : Bool, r3 = .bool t6 ∧
   ∃ n8 : Int, cellH h14 b6 2 = some (.int .u64 n8) ∧
   CanSt h14 b4 0 [.bool true] ∧ ∀ h15, Stored h14 b4 0 [.bool true] h15 →
   cellH h15 b6 2 = some (.int .u64 n8) ∧
   CanSt h15 b5 0 [.int .u64 n8] ∧ ∀ h16, Stored h15 b5 0 [.int .u64 n8] h16 →
   CondP (!t6) (
   CanSt h16 b3 0 [.bool false] ∧ ∀ h17, Stored h16 b3 0 [.bool false] h17 →
   h17[l1]? = some (rc1 .busy none) ∧ R1 (.bool false) (setB h17 l1 (rc1 .done (some .ret)))) (
   h16[l1]? = some (rc1 .busy none) ∧ R1 (.bool true) (setB h16 l1 (rc1 .ready none))))) (
   ∃ n9 : Int, cellH h13 b6 2 = some (.int .u64 n9) ∧
   CanSt h13 b4 0 [.bool true] ∧ ∀ h18, Stored h13 b4 0 [.bool true] h18 →
   cellH h18 b6 2 = some (.int .u64 n9) ∧
   CanSt h18 b5 0 [.int .u64 n9] ∧ ∀ h19, Stored h18 b5 0 [.int .u64 n9] h19 →
   CanSt h19 b3 0 [.bool false] ∧ ∀ h20, Stored h19 b3 0 [.bool false] h20 →
   h20[l1]? = some (rc1 .busy none) ∧ R1 (.bool false) (setB h20 l1 (rc1 .done (some .ret))))) (
   ∃ n10 : Int, cellH h13 b6 2 = some (.int .u64 n10) ∧
   CanSt h13 b4 0 [.bool true] ∧ ∀ h21, Stored h13 b4 0 [.bool true] h21 →
   cellH h21 b6 2 = some (.int .u64 n10) ∧
   CanSt h21 b5 0 [.int .u64 n10] ∧ ∀ h22, Stored h21 b5 0 [.int .u64 n10] h22 →
   CanSt h22 b3 0 [.bool false] ∧ ∀ h23, Stored h22 b3 0 [.bool false] h23 →
   h23[l1]? = some (rc1 .busy none) ∧ R1 (.bool false) (setB h23 l1 (rc1 .done (some .ret)))))) (
   CondP ((n1 : Int) == 2) (
   ∃ p2 : Option Addr, cellH (setB h10 l1 (rc1 .busy none)) b1 0 = some (.pointer p2) ∧
   CallsH Tryz.prog 132 #[.pointer p2, .slice x1.a x1.l x1.c] (setB h10 l1 (rc1 .busy none)) (fun r4 h24 => ∃ t7 : Bool, r4 = .bool t7 ∧
   CondP (!t7) (
   CanSt h24 b3 0 [.bool false] ∧ ∀ h25, Stored h24 b3 0 [.bool false] h25 →
   h25[l1]? = some (rc1 .busy none) ∧ R1 (.bool false) (setB h25 l1 (rc1 .done (some .ret)))) (
   h24[l1]? = some (rc1 .busy none) ∧ R1 (.bool true) (setB h24 l1 (rc1 .ready none))))) (
   CondP ((n1 : Int) == 3) (
   ∃ p3 : Option Addr, cellH (setB h10 l1 (rc1 .busy none)) b1 0 = some (.pointer p3) ∧
   ∃ n11 : Int, cellH (setB h10 l1 (rc1 .busy none)) b5 0 = some (.int .u64 n11) ∧
   CallsH Tryz.prog 133 #[.pointer p3, .slice x1.a x1.l x1.c, .int .u64 n11] (setB h10 l1 (rc1 .busy none)) (fun r5 h26 => ∃ t8 : Bool, r5 = .bool t8 ∧
   CondP (!t8) (
   CanSt h26 b3 0 [.bool false] ∧ ∀ h27, Stored h26 b3 0 [.bool false] h27 →
   h27[l1]? = some (rc1 .busy none) ∧ R1 (.bool false) (setB h27 l1 (rc1 .done (some .ret)))) (
   h26[l1]? = some (rc1 .busy none) ∧ R1 (.bool true) (setB h26 l1 (rc1 .ready none))))) (
   CanSt (setB h10 l1 (rc1 .busy none)) b3 0 [.bool false] ∧ ∀ h28, Stored (setB h10 l1 (rc1 .busy none)) b3 0 [.bool false] h28 →
   h28[l1]? = some (rc1 .busy none) ∧ R1 (.bool false) (setB h28 l1 (rc1 .done (some .ret))))))) → CallV Tryz.prog (.func (.yield l1) #[] #[]) [.int .u8 n1, .slice x1.a x1.l x1.c] h10 R1) →
   CallsH Tryz.prog g1 (.func (.yield l1) #[] #[] :: cap1.toList).toArray h9 (fun _ h29 =>
   (h29[l1]? = some (rc1 .ready none) ∧ CallsH Tryz.prog 100 #[.slice b_.a b_.l b_.c] (setB h29 l1 (rc1 .exhausted none)) (fun r6 h30 => ∃ n12 : Int, ∃ n13 : Int, r6 = .tuple #[.int .i64 n12, .int .i64 n13] ∧
   CondP ((n13 : Int) == 0) (
   CanSt h30 b3 0 [.bool true] ∧ ∀ h31, Stored h30 b3 0 [.bool true] h31 →
   h31[D1]? = some (.deferred (some [])) ∧
   ∃ t9 : Bool, cellH (setB h31 D1 (.deferred none)) b3 0 = some (.bool t9) ∧
   R (.bool t9) (setB h31 D1 (.deferred none))) (
   CondP ((n13 : Int) == 31) (
   CanSt h30 b3 0 [.bool newest_] ∧ ∀ h32, Stored h30 b3 0 [.bool newest_] h32 →
   h32[D1]? = some (.deferred (some [])) ∧
   ∃ t10 : Bool, cellH (setB h32 D1 (.deferred none)) b3 0 = some (.bool t10) ∧
   R (.bool t10) (setB h32 D1 (.deferred none))) (
   CanSt h30 b3 0 [.bool false] ∧ ∀ h33, Stored h30 b3 0 [.bool false] h33 →
   h33[D1]? = some (.deferred (some [])) ∧
   ∃ t11 : Bool, cellH (setB h33 D1 (.deferred none)) b3 0 = some (.bool t11) ∧
   R (.bool t11) (setB h33 D1 (.deferred none)))))) ∨
   (h29[l1]? = some (rc1 .done (some .ret)) ∧ (setB h29 l1 (rc1 .exhausted (some .ret)))[D1]? = some (.deferred (some [])) ∧
   ∃ t12 : Bool, cellH (setB (setB h29 l1 (rc1 .exhausted (some .ret))) D1 (.deferred none)) b3 0 = some (.bool t12) ∧
   R (.bool t12) (setB (setB h29 l1 (rc1 .exhausted (some .ret))) D1 (.deferred none)))))) :
  CallsH Tryz.prog 95 #[.pointer (some ⟨g_b, g_o, none⟩), .slice b_.a b_.l b_.c, .bool oldest_, .bool newest_] h R :=
  calls_of_vc tabOk mixed Tryz.func95 (c := c95) (by kernel_rfl) (n := 71) rfl (rs := [.cell 8 4]) (by kernel_rfl) ok95 (args := [.pointer (some ⟨g_b, g_o, none⟩), .slice b_.a b_.l b_.c, .bool oldest_, .bool newest_]) (Nat.le_of_ble_eq_true rfl) (Eq.mpr (by kernel_rfl) hv)
end Go.Sx.Tryz
namespace Go.Sx.Tryz
open Go Go.Sx Go.Proofs
set_option linter.unusedVariables false
section
variable {H H' : Heap} {S : PH} {R : List Asn}
theorem begin_spec {gb : Nat} {T : TypeId} {g : Lg} {hd : Hd} {anew : Bool} (hs : Sat H S (lgA gb T g :: R)) (hlen : g.es.length < 1000000000)
    {K : Value → Heap → Prop} (hK : ∀ H', Sat H' S (lgA gb T (g.begin hd anew).2 :: R) → K (.bool (g.begin hd anew).1) H') : CallsH Tryz.prog 131 #[.pointer (some ⟨gb, 0, none⟩), .agg (hdV hd).toArray, .bool anew] H K := by
  apply vc131
  intro b1 h1 hf
  have hs1 : Sat h1 S (lst b1 103 (hdV hd) :: lgA gb T g :: R) := hs.fresh hf
  have hreset : (anew || hd.anew) = true → CanSt h1 gb 0 [.int .u64 (hd.i : Int), .int .u64 (hd.t : Int), .slice none 0 0, .slice none 0 0] ∧ ∀ h2, Stored h1 gb 0 [.int .u64 (hd.i : Int), .int .u64 (hd.t : Int), .slice none 0 0, .slice none 0 0] h2 → K (.bool true) h2 := by
    intro hc
    obtain ⟨v, hs2⟩ := lgA_open hs1.swap
    refine hs2.store (by simp [lgV]) fun h2 hs3 => ?_
    have hs4 : Sat h2 S (lst gb T (lgV hd.i hd.t ⟨none, 0, 0⟩) :: R) := (hs3.del 1).del 1
    have e : g.begin hd anew = (true, ⟨hd.i, hd.t, []⟩) := by rw [Lg.begin, if_pos hc]
    have := hK h2 (by rw [e]; exact lgA_shut (g := ⟨hd.i, hd.t, []⟩) (own.new 85 3 hs4).swap)
    rw [e] at this; exact this
  refine CondP.of (fun hc => ⟨_, hs1.cell 2 rfl, _, hs1.cell 3 rfl, hreset (by rw [hc]; rfl)⟩) fun hc => ⟨_, hs1.cell 1 rfl, CondP.of (fun hc2 => ⟨_, hs1.cell 2 rfl, _, hs1.cell 3 rfl, hreset (by rw [hc2, Bool.or_true])⟩) fun hc2 => ⟨_, hs1.cell 2 rfl, _, hs1.cell 3 rfl, ?_⟩⟩
  have e : g.begin hd anew = g.to hd.i hd.t := by rw [Lg.begin, hc, hc2]; rfl
  rw [e] at hK
  exact to_spec hs1.swap hlen fun h2 hs2 => ⟨_, rfl, hK h2 (hs2.del 1)⟩
def Ent.body (e : Ent) : List UInt8 := natB e.i ++ natB e.t ++ textB e.b
def Ent.ok (e : Ent) : Prop := e.i ≤ MaxI ∧ e.t ≤ MaxI ∧ e.b.length ≤ 512
theorem Ent.body_len (e : Ent) (hk : e.ok) : e.body.length ≤ 542 := by
  obtain ⟨h1, h2, h3⟩ := hk
  unfold MaxI at *
  have a := natB_le (n := e.i) (by omega)
  have b := natB_le (n := e.t) (by omega)
  have c := natB_le (n := e.b.length) (by omega)
  simp only [Ent.body, textB, List.length_append]; omega
def Lg.Con (g : Lg) : Prop := g.last.1.i = g.fi + g.es.length
theorem add_ok {gb : Nat} {T : TypeId} {g : Lg} {e : Ent} {v : Sl} (hs : Sat H S (lgA gb T g :: R)) (hv : RdB S v e.body) (he : e.ok) (hi : e.i = g.last.1.i + 1) (ht : g.last.1.t ≤ e.t) (hlen : g.es.length < 1000000)
    {K : Value → Heap → Prop} (hK : ∀ x H' S', PH.le S S' → RdB S' x e.b → Sat H' S' (lgA gb T { g with es := g.es ++ [(e, x)] } :: R) → K (.bool true) H') : CallsH Tryz.prog 132 #[.pointer (some ⟨gb, 0, none⟩), .slice v.a v.l v.c] H K := by
  apply vc132
  obtain ⟨k1, k2, k3⟩ := he
  unfold MaxI at *
  refine ropen_spec hs fun p h1 hs1 => ⟨_, rfl, ?_⟩
  have hv0 : RdB S v (natB e.i ++ (natB e.t ++ (textB e.b ++ []))) := by
    have := hv; simp only [Ent.body, List.append_assoc] at this; simpa using this
  have l2 := natB_le (n := e.t) (by omega)
  have l3 := natB_le (n := e.b.length) (by omega)
  refine rnat_spec (most := 4611686018427387904) hs1 hv0 (by omega) k1 (by decide) (by simp [textB]; omega) fun v1 h2 hv1 hs2 => ⟨_, rfl, ?_⟩
  refine rnat_spec (most := 4611686018427387904) hs2 hv1 (by omega) k2 (by decide) (by simp [textB]; omega) fun v2 h3 hv2 hs3 => ⟨_, rfl, ?_⟩
  refine rtext_spec (most := 512) hs3 hv2 k3 (by decide) (by simp; omega) fun v3 h4 hv3 hs4 => ⟨_, rfl, ?_⟩
  refine conv_bytes hs4 (by show e.b.toArray.size < _; simp; omega) fun x h5 S1 hS1 hx hs5 => ?_
  have hx : RdB S1 x e.b := hx
  intro b1 h6 hf6
  have hs6 : Sat h6 S1 (lst b1 85 [.int .u64 0, .int .u64 0, .slice none 0 0] :: rdr p v3 false :: lgA gb T g :: R) := hs5.fresh hf6
  refine hs6.store (Nat.le_refl _) fun h7 hs7 => ?_
  have hs7 : Sat h7 S1 (lst b1 85 (eV (e, x)) :: rdr p v3 false :: lgA gb T g :: R) := hs7
  obtain ⟨w, hs8⟩ := lgA_open (hs7.sel [2])
  refine last_spec (pre := []) (post := []) (v := w) (fi := g.fi) (ft := g.ft) (es := g.es) hs8 (by omega) fun h8 hs9 => ⟨_, _, _, rfl, ?_⟩
  have hs9 : Sat h8 S1 (lst gb T (lgV g.fi g.ft w) :: ownE w g.es :: lst b1 85 (eV (e, x)) :: rdr p v3 false :: R) := hs9
  intro b2 h9 hf9
  have hs10 := hs9.fresh hf9
  have hs10 : Sat h9 S1 (lst b2 85 [.int .u64 0, .int .u64 0, .slice none 0 0] :: lst gb T (lgV g.fi g.ft w) :: ownE w g.es :: lst b1 85 (eV (e, x)) :: rdr p v3 false :: R) := hs10
  refine hs10.store (Nat.le_refl _) fun h10 hs11 => ?_
  have hs11 : Sat h10 S1 (lst b2 85 (eV g.last) :: lst gb T (lgV g.fi g.ft w) :: ownE w g.es :: lst b1 85 (eV (e, x)) :: rdr p v3 false :: R) := hs11
  refine ⟨fun t1 h => t1 = false ∧ Sat h S1 (lst gb T (lgV g.fi g.ft w) :: ownE w g.es :: lst b1 85 (eV (e, x)) :: R), ?_, ?_⟩
  · rintro t1 h11 ⟨rfl, hs12⟩ _
    refine CondP.of (fun hc => by cases hc) fun _ => ⟨w, hs12.cell 3 rfl, _, _, _, (hs12.pick 2 rfl).cells 0 rfl, ?_⟩
    intro b3 h12 hf12
    have hs13 := hs12.fresh hf12
    have hs13 : Sat h12 S1 (lst b3 85 (eV (e, x)) :: lst gb T (lgV g.fi g.ft w) :: ownE w g.es :: lst b1 85 (eV (e, x)) :: R) := hs13
    refine ⟨hs13.swap.cell 3 rfl, ?_⟩
    obtain ⟨hl, hlc⟩ := ownE.len (hs13.pick 2 rfl)
    refine append_one el81 (v := w) (xs := entV g.es) (hs13.sel [0, 1]) rfl (by intro u hu; simp [eV] at hu; rcases hu with rfl | rfl | rfl <;> rfl) (by omega) (by unfold maxLen; omega) fun w' h13 hw' hs14 => ?_
    refine hs14.swap.store (by simp [lgV]) fun h14 hs15 => ?_
    refine hK x h14 S1 hS1 hx (lgA_shut (g := { g with es := g.es ++ [(e, x)] }) (v := w') ?_)
    have e1 : entV (g.es ++ [(e, x)]) = entV g.es ++ eV (e, x) := by simp [entV]
    unfold ownE
    rw [e1]
    exact hs15.del 2
  · have hs12 := hs11.sel [4]
    refine rend_spec hs12 (RdB.len hv3) ⟨_, rfl, CondP.of (fun hc => by simp at hc) fun _ => ?_⟩
    have c1 : Sat h10 S1 _ := hs11.pick 3 rfl
    refine ⟨(e.i : Int), c1.cell 0 rfl, CondP.of (fun hc => ?_) fun _ => ⟨(e.i : Int), c1.cell 0 rfl, (g.last.1.i : Int), hs11.cell 0 rfl, CondP.of (fun hc => ?_) fun _ => ⟨(e.t : Int), c1.cell 1 rfl, (g.last.1.t : Int), hs11.cell 1 rfl, ?_, (hs11.drop).sel [0, 0, 0] |>.del 3⟩⟩⟩
    · simp at hc; omega
    · rw [u64_in (by omega) (by omega)] at hc
      simp at hc; omega
    · exact decide_eq_false (by omega)
theorem cut_ok {gb : Nat} {T : TypeId} {g : Lg} {fr ow : Nat} {v : Sl} (hs : Sat H S (lgA gb T g :: R)) (hv : RdB S v (natB fr)) (hfr : fr < 18446744073709551616) (how : ow < fr) (hmay : mayB g.fi g.last.1.i fr = true) (hcon : g.Con) (hlen : g.es.length < 1000000)
    {K : Value → Heap → Prop} (hK : ∀ H', Sat H' S (lgA gb T { g with es := g.es.take (fr - 1 - g.fi) } :: R) → K (.bool true) H') : CallsH Tryz.prog 133 #[.pointer (some ⟨gb, 0, none⟩), .slice v.a v.l v.c, .int .u64 (ow : Int)] H K := by
  apply vc133
  refine ropen_spec hs fun p h1 hs1 => ⟨_, rfl, ?_⟩
  have hv0 : RdB S v (natB fr ++ []) := by simpa using hv
  refine rnat_spec (most := 18446744073709551615) hs1 hv0 hfr (by omega) (by decide) (by simp) fun v1 h2 hv1 hs2 => ⟨_, rfl, ?_⟩
  have hm : g.fi < fr ∧ fr - 1 ≤ g.last.1.i := by
    unfold mayB at hmay
    rw [Bool.and_eq_true] at hmay
    exact ⟨of_decide_eq_true hmay.1, of_decide_eq_true hmay.2⟩
  unfold Lg.Con at hcon
  refine ⟨fun t1 h => t1 = false ∧ ∃ w, Sat h S (lst gb T (lgV g.fi g.ft w) :: ownE w g.es :: R), ?_, ?_⟩
  · rintro t1 h3 ⟨rfl, w, hs3⟩ _
    refine CondP.of (fun hc => by cases hc) fun _ => ⟨w, hs3.cell 3 rfl, _, hs3.cell 0 rfl, ?_⟩
    have e : IntKind.u64.wrap (IntKind.u64.wrap ((fr : Int) - 1) - (g.fi : Int)) = ((fr - 1 - g.fi : Nat) : Int) := by
      rw [u64_in (n := (fr : Int) - 1) (by omega) (by omega), u64_in (by omega) (by omega)]; omega
    rw [e]
    simp only [Int.toNat_natCast]
    obtain ⟨hl, hlc⟩ := ownE.len hs3.swap
    refine ⟨⟨by omega, by omega, by omega⟩, ?_⟩
    refine cloneE_spec (v := ⟨subA w.a 0 w.c 3, fr - 1 - g.fi, w.c⟩) hs3 (ownE.reads hs3.swap _ (by omega) w.c) (by rw [List.length_take]; omega) fun w' h4 hs4 => ⟨w', rfl, ?_⟩
    refine hs4.swap.store (by simp [lgV]) fun h5 hs5 => hK h5 (lgA_shut (g := { g with es := g.es.take (fr - 1 - g.fi) }) (v := w') (hs5.del 2))
  · refine rend_spec hs2 (RdB.len hv1) ⟨_, rfl, CondP.of (fun hc => by simp at hc) fun _ => CondP.of (fun hc => by simp at hc; omega) fun _ => ?_⟩
    obtain ⟨w, hs3⟩ := lgA_open hs2.drop
    refine may_spec (pre := []) (post := []) (v := w) (fi := g.fi) (ft := g.ft) (es := g.es) hs3 (by omega) hfr fun h3 hs4 => ⟨_, rfl, ?_, w, hs4⟩
    show (!mayB g.fi g.last.1.i fr) = false
    rw [hmay]; rfl
end
end Go.Sx.Tryz
namespace Go.Sx.Tryz
open Go Go.Sx Go.Proofs
set_option linter.unusedVariables false
inductive Rec where
  | hd (h : Hd)
  | en (e : Ent)
  | ct (f : Nat)
def Rec.par : Rec → Par
  | .hd h => (1, h.body)
  | .en e => (2, e.body)
  | .ct f => (3, natB f)
def Rec.ok : Rec → Prop
  | .hd h => h.ok
  | .en e => e.ok
  | .ct f => f < 18446744073709551616
theorem Rec.pok {r : Rec} (h : r.ok) : Pok r.par := by
  cases r with
  | hd h' => exact ⟨(by decide : (1 : UInt8) ≠ 0), by have := h'.body_len h; show h'.body.length ≤ _; omega⟩
  | en e => exact ⟨(by decide : (2 : UInt8) ≠ 0), by have := e.body_len h; show e.body.length ≤ _; omega⟩
  | ct f => exact ⟨(by decide : (3 : UInt8) ≠ 0), by have := natB_le (n := f) h; show (natB f).length ≤ _; omega⟩
structure PL where
  fi : Nat
  ft : Nat
  es : List Ent
def PL.last (g : PL) : Nat × Nat := match g.es.getLast? with | some e => (e.i, e.t) | none => (g.fi, g.ft)
def PL.to (g : PL) (i t : Nat) : Option PL :=
  if i = g.fi ∧ t = g.ft then some { g with es := [] } else
  match g.es.findIdx? (fun e => e.i == i && e.t == t) with
  | some k => some { g with es := g.es.take (k + 1) }
  | none => none
def PL.begin (g : PL) (h : Hd) (anew : Bool) : Option PL := if (anew || h.anew) = true then some ⟨h.i, h.t, []⟩ else g.to h.i h.t
structure Rd1 where
  g : PL
  begun : Bool
  own : Nat
def Rd1.step (oldest : Bool) (s : Rd1) : Rec → Option Rd1
  | .hd h => if s.begun = true then none else (s.g.begin h oldest).map fun g => ⟨g, true, h.i⟩
  | .en e => if e.i = s.g.last.1 + 1 ∧ s.g.last.2 ≤ e.t then some { s with g := { s.g with es := s.g.es ++ [e] } } else none
  | .ct f => if s.own < f ∧ mayB s.g.fi s.g.last.1 f = true then some { s with g := { s.g with es := s.g.es.take (f - 1 - s.g.fi) } } else none
def PL.Con (g : PL) : Prop := ∀ k (h : k < g.es.length), g.es[k].i = g.fi + k + 1
theorem PL.Con.last {g : PL} (h : g.Con) : g.last.1 = g.fi + g.es.length := by
  unfold PL.last
  rcases Nat.eq_zero_or_pos g.es.length with h0 | h0
  · have : g.es = [] := List.eq_nil_of_length_eq_zero h0
    simp [this]
  · rw [List.getLast?_eq_getElem?, List.getElem?_eq_getElem (by omega)]
    show g.es[g.es.length - 1].i = _
    rw [h _ (by omega)]; omega
theorem PL.Con.take {g : PL} (h : g.Con) (n : Nat) : PL.Con { g with es := g.es.take n } := by
  intro k hk
  have hk' : k < g.es.length := by simp at hk; omega
  show (g.es.take n)[k].i = _
  rw [List.getElem_take]; exact h k hk'
theorem PL.Con.nil (fi ft : Nat) : PL.Con ⟨fi, ft, []⟩ := fun k h => by simp at h
theorem PL.Con.to {g g' : PL} {i t : Nat} (h : g.Con) (e : g.to i t = some g') : g'.Con := by
  unfold PL.to at e
  split at e
  · cases e; exact PL.Con.nil _ _
  · split at e
    · cases e; exact h.take _
    · cases e
theorem PL.Con.begin {g g' : PL} {hd : Hd} {o : Bool} (h : g.Con) (e : g.begin hd o = some g') : g'.Con := by
  unfold PL.begin at e
  split at e
  · cases e; exact PL.Con.nil _ _
  · exact h.to e
theorem Rd1.step_con {o : Bool} {s s' : Rd1} {r : Rec} (h : s.g.Con) (e : s.step o r = some s') : s'.g.Con := by
  cases r with
  | hd hh =>
    simp only [Rd1.step] at e
    split at e
    · cases e
    · obtain ⟨g, h1, rfl⟩ := Option.map_eq_some_iff.1 e
      exact h.begin h1
  | en x =>
    simp only [Rd1.step] at e
    split at e
    · rename_i hx
      cases e
      intro k hk
      show (s.g.es ++ [x])[k].i = s.g.fi + k + 1
      rcases Nat.lt_or_ge k s.g.es.length with hlt | hge
      · rw [List.getElem_append_left hlt]; exact h k hlt
      · have hk' : k < (s.g.es ++ [x]).length := hk
        rw [List.length_append, List.length_singleton] at hk'
        have : k = s.g.es.length := by omega
        subst this
        rw [List.getElem_append_right (Nat.le_refl _)]
        simp only [Nat.sub_self, List.getElem_cons_zero]
        rw [hx.1, h.last]
    · cases e
  | ct f =>
    simp only [Rd1.step] at e
    split at e
    · cases e; exact h.take _
    · cases e
theorem Rd1.step_len {o : Bool} {s s' : Rd1} {r : Rec} (e : s.step o r = some s') : s'.g.es.length ≤ s.g.es.length + 1 := by
  cases r with
  | hd hh =>
    simp only [Rd1.step] at e
    split at e
    · cases e
    · obtain ⟨g, h1, rfl⟩ := Option.map_eq_some_iff.1 e
      unfold PL.begin at h1
      split at h1
      · cases h1; simp
      · unfold PL.to at h1
        split at h1
        · cases h1; simp
        · split at h1
          · cases h1; simp only [List.length_take]; omega
          · cases h1
  | en x =>
    simp only [Rd1.step] at e
    split at e
    · cases e; simp
    · cases e
  | ct f =>
    simp only [Rd1.step] at e
    split at e
    · cases e; simp only [List.length_take]; omega
    · cases e
theorem foldM_path {σ τ : Type} {f : σ → τ → Option σ} : ∀ {l : List τ} {s s' : σ}, l.foldlM f s = some s' → ∃ p : Nat → σ, p 0 = s ∧ p l.length = s' ∧ ∀ i (h : i < l.length), f (p i) l[i] = some (p (i + 1))
  | [], s, s', h => ⟨fun _ => s, rfl, by simpa using h, fun i h => by simp at h⟩
  | x :: l, s, s', h => by
    rw [List.foldlM_cons] at h
    obtain ⟨s1, h1, h2⟩ := Option.bind_eq_some_iff.1 h
    obtain ⟨p, p0, p1, p2⟩ := foldM_path h2
    refine ⟨fun i => match i with | 0 => s | i + 1 => p i, rfl, p1, fun i hi => ?_⟩
    cases i with
    | zero => simpa [p0] using h1
    | succ i => exact p2 i (by simpa using hi)
def Lg.pure (g : Lg) : PL := ⟨g.fi, g.ft, g.es.map (·.1)⟩
theorem Lg.pure_last (g : Lg) : g.pure.last = (g.last.1.i, g.last.1.t) := by
  unfold PL.last Lg.last lastE Lg.pure
  simp only [List.getLast?_map]
  cases g.es.getLast? <;> rfl
theorem Lg.pure_to {g : Lg} {i t : Nat} {p : PL} (h : g.pure.to i t = some p) : (g.to i t).1 = true ∧ (g.to i t).2.pure = p ∧ ∀ x ∈ (g.to i t).2.es, x ∈ g.es := by
  unfold PL.to Lg.pure at h
  unfold Lg.to
  simp only at h
  split at h
  · rename_i hc
    rw [if_pos hc]; cases h; exact ⟨rfl, rfl, fun x hx => by cases hx⟩
  · rename_i hc
    rw [if_neg hc]
    rw [List.findIdx?_map] at h
    have e : ((fun e : Ent => e.i == i && e.t == t) ∘ fun x : EB => x.1) = fun x : EB => x.1.i == i && x.1.t == t := rfl
    rw [e] at h
    split at h
    · rename_i k hk
      try rw [hk]
      cases h
      exact ⟨rfl, by simp [Lg.pure, List.map_take], fun x hx => List.mem_of_mem_take hx⟩
    · cases h
theorem Lg.pure_begin {g : Lg} {hd : Hd} {o : Bool} {p : PL} (h : g.pure.begin hd o = some p) : (g.begin hd o).1 = true ∧ (g.begin hd o).2.pure = p ∧ ∀ x ∈ (g.begin hd o).2.es, x ∈ g.es := by
  unfold PL.begin at h
  unfold Lg.begin
  split at h
  · rename_i hc
    rw [if_pos hc]; cases h; exact ⟨rfl, rfl, fun x hx => by cases hx⟩
  · rename_i hc
    rw [if_neg hc]; exact Lg.pure_to h
section
variable {H H' : Heap} {S : PH} {R : List Asn}
theorem read_ok {gb : Nat} {T : TypeId} {g : Lg} {v : Sl} {rs : List Rec} {t : List UInt8} {oldest newest : Bool} {s' : Rd1} (hs : Sat H S (lgA gb T g :: R)) (hg : eok S g.es) (hv : RdB S v (pbs (rs.map Rec.par) ++ t)) (hok : ∀ r ∈ rs, r.ok) (ht : Tail t) (hn : t = [] ∨ newest = true)
    (hrun : rs.foldlM (Rd1.step oldest) ⟨g.pure, false, 0⟩ = some s') (hcon : g.pure.Con) (hlen : g.es.length + rs.length < 1000000) (hvl : v.l < 1000000000)
    {K : Value → Heap → Prop} (hK : ∀ H' S' g', PH.le S S' → eok S' g'.es → g'.pure = s'.g → Sat H' S' (lgA gb T g' :: R) → K (.bool true) H') : CallsH Tryz.prog 95 #[.pointer (some ⟨gb, 0, none⟩), .slice v.a v.l v.c, .bool oldest, .bool newest] H K := by
  apply vc95
  obtain ⟨st, st0, stn, sts⟩ := foldM_path hrun
  have hstc : ∀ i, i ≤ rs.length → (st i).g.Con ∧ (st i).g.es.length ≤ g.es.length + i := by
    intro i
    induction i with
    | zero => intro _; rw [st0]; exact ⟨hcon, by simp [Lg.pure]⟩
    | succ i ih =>
      intro hi
      obtain ⟨h1, h2⟩ := ih (by omega)
      have := sts i (by omega)
      exact ⟨Rd1.step_con h1 this, by have := Rd1.step_len this; omega⟩
  intro b1 h1 f1 b2 h2 f2 b3 h3 f3 b4 h4 f4 b5 h5 f5
  have a1 : Sat h1 S (lst b1 187 [.pointer (some ⟨gb, 0, none⟩)] :: lgA gb T g :: R) := hs.fresh f1
  have a2 : Sat h2 S (lst b2 4 [.bool oldest] :: lst b1 187 [.pointer (some ⟨gb, 0, none⟩)] :: lgA gb T g :: R) := a1.fresh f2
  have a3 : Sat h3 S (lst b3 4 [.bool false] :: lst b2 4 [.bool oldest] :: lst b1 187 [.pointer (some ⟨gb, 0, none⟩)] :: lgA gb T g :: R) := a2.fresh f3
  have a4 : Sat h4 S (lst b4 4 [.bool false] :: lst b3 4 [.bool false] :: lst b2 4 [.bool oldest] :: lst b1 187 [.pointer (some ⟨gb, 0, none⟩)] :: lgA gb T g :: R) := a3.fresh f4
  have a5 : Sat h5 S (lst b5 32 [.int .u64 0] :: lst b4 4 [.bool false] :: lst b3 4 [.bool false] :: lst b2 4 [.bool oldest] :: lst b1 187 [.pointer (some ⟨gb, 0, none⟩)] :: lgA gb T g :: R) := a4.fresh f5
  refine a5.swap.store (Nat.le_refl _) fun h6 a6 => ?_
  refine a6.swap.store (Nat.le_refl _) fun h7 a7 => ?_
  apply vc130
  intro cb h8 f8
  have a8 := a7.fresh f8
  have a8 : Sat h8 S (lst cb 33 [.slice v.a v.l v.c] :: lst b5 32 [.int .u64 0] :: lst b4 4 [.bool false] :: lst b3 4 [.bool false] :: lst b2 4 [.bool oldest] :: lst b1 187 [.pointer (some ⟨gb, 0, none⟩)] :: lgA gb T g :: R) := a8
  refine ⟨_, rfl, 166, _, rfl, call166, fun D l rc h9 hL hround => ?_⟩
  have a9 := hL.sat a8
  refine each1_spec (α := Lg) (F := fun i g S => eok S g.es ∧ g.pure = (st i).g) (fun i x S S' hS hx => ⟨hx.1.mono hS, hx.2⟩)
    (G := fun i g => lst b5 32 [.int .u64 ((st i).own : Int)] :: lst b4 4 [.bool (st i).begun] :: lst b3 4 [.bool false] :: lst b2 4 [.bool oldest] :: lst b1 187 [.pointer (some ⟨gb, 0, none⟩)] :: lgA gb T g :: blk l (rc .ready none) :: blk D (.deferred (some [])) :: R)
    (x0 := g) (t := t) (ps := rs.map Rec.par) ?_ ⟨hg, by rw [st0]⟩ hv (fun p hp => by obtain ⟨r, hr, rfl⟩ := List.mem_map.1 hp; exact Rec.pok (hok r hr)) ht hvl (fun i hi S1 h v' g1 K1 hS1 hv1 hg1 hs1 hK1 => ?_) (fun h29 S2 g2 hS2 hg2 hs2 => ?_)
  · rw [st0]; exact a9.sel [2, 2, 2, 2, 2, 2, 2]
  · have hi' : i < rs.length := by simpa using hi
    have hpar : (rs.map Rec.par)[i] = rs[i].par := by simp
    have hst := sts i hi'
    obtain ⟨hci, hli⟩ := hstc i (by omega)
    have hl1 : h[l]? = some (rc .ready none) := Sat.blk (hs1.pick 7 rfl)
    have hb1 := (hs1.pick 7 rfl).setB (o' := rc .busy none)
    have hb1 : Sat (setB h l (rc .busy none)) S1 (blk l (rc .busy none) :: lst cb 33 [.slice v.a v.l v.c] :: lst b5 32 [.int .u64 ((st i).own : Int)] :: lst b4 4 [.bool (st i).begun] :: lst b3 4 [.bool false] :: lst b2 4 [.bool oldest] :: lst b1 187 [.pointer (some ⟨gb, 0, none⟩)] :: lgA gb T g1 :: blk D (.deferred (some [])) :: R) := hb1
    have hokr := hok _ (List.getElem_mem hi')
    have hgl : g1.es.length < 1000000 := by
      have := congrArg (fun p : PL => p.es.length) hg1.2
      simp only [Lg.pure, List.length_map] at this
      omega
    refine hround _ v' h K1 hl1 ⟨hl1, ?_⟩
    rw [hpar] at hv1 ⊢
    cases hr : rs[i] with
    | hd hh =>
      rw [hr] at hv1 hokr hst
      have hnb : (st i).begun = false ∧ ∃ p, (st i).g.begin hh oldest = some p ∧ st (i + 1) = ⟨p, true, hh.i⟩ := by
        simp only [Rd1.step] at hst
        split at hst
        · cases hst
        · rename_i hnb
          obtain ⟨p, h1, h2⟩ := Option.map_eq_some_iff.1 hst
          exact ⟨by simpa using hnb, p, h1, h2.symm⟩
      obtain ⟨hnb, p, hp, hst1⟩ := hnb
      refine CondP.of (fun _ => ?_) fun hc => by simp [Rec.par] at hc
      refine readHead_ok hb1 hv1 hokr fun h11 hs11 => ⟨_, _, _, _, _, rfl, ?_⟩
      intro b6 h12 f12
      have c1 := hs11.fresh f12
      have c1 : Sat h12 S1 (lst b6 103 [.int .u64 0, .bool false, .int .u64 0, .int .u64 0] :: blk l (rc .busy none) :: lst cb 33 [.slice v.a v.l v.c] :: lst b5 32 [.int .u64 ((st i).own : Int)] :: lst b4 4 [.bool (st i).begun] :: lst b3 4 [.bool false] :: lst b2 4 [.bool oldest] :: lst b1 187 [.pointer (some ⟨gb, 0, none⟩)] :: lgA gb T g1 :: blk D (.deferred (some [])) :: R) := c1
      refine c1.store (Nat.le_refl _) fun h13 c2 => CondP.of (fun _ => ?_) fun hc => by cases hc
      have c2 : Sat h13 S1 (lst b6 103 (hdV hh) :: blk l (rc .busy none) :: lst cb 33 [.slice v.a v.l v.c] :: lst b5 32 [.int .u64 ((st i).own : Int)] :: lst b4 4 [.bool (st i).begun] :: lst b3 4 [.bool false] :: lst b2 4 [.bool oldest] :: lst b1 187 [.pointer (some ⟨gb, 0, none⟩)] :: lgA gb T g1 :: blk D (.deferred (some [])) :: R) := c2
      refine ⟨_, (c2.pick 4 rfl).cell 0 rfl, CondP.of (fun _ => ?_) fun hc => by rw [hnb] at hc; cases hc⟩
      refine ⟨_, (c2.pick 7 rfl).cell 0 rfl, _, _, _, _, c2.cells 0 rfl, _, (c2.pick 6 rfl).cell 0 rfl, ?_⟩
      rw [← hg1.2] at hp
      obtain ⟨q1, q2, q3⟩ := Lg.pure_begin hp
      refine begin_spec (c2.sel [8]) (by omega) fun h14 c3 => ⟨_, rfl, ?_⟩
      rw [q1]
      have c3 : Sat h14 S1 (lgA gb T (g1.begin hh oldest).2 :: lst b6 103 (hdV hh) :: blk l (rc .busy none) :: lst cb 33 [.slice v.a v.l v.c] :: lst b5 32 [.int .u64 ((st i).own : Int)] :: lst b4 4 [.bool (st i).begun] :: lst b3 4 [.bool false] :: lst b2 4 [.bool oldest] :: lst b1 187 [.pointer (some ⟨gb, 0, none⟩)] :: blk D (.deferred (some [])) :: R) := c3
      refine ⟨_, (c3.pick 1 rfl).cell 2 rfl, ?_⟩
      refine (c3.pick 5 rfl).store (Nat.le_refl _) fun h15 c4 => ?_
      have c4 : Sat h15 S1 (lst b4 4 [.bool true] :: lgA gb T (g1.begin hh oldest).2 :: lst b6 103 (hdV hh) :: blk l (rc .busy none) :: lst cb 33 [.slice v.a v.l v.c] :: lst b5 32 [.int .u64 ((st i).own : Int)] :: lst b3 4 [.bool false] :: lst b2 4 [.bool oldest] :: lst b1 187 [.pointer (some ⟨gb, 0, none⟩)] :: blk D (.deferred (some [])) :: R) := c4
      refine ⟨(c4.pick 2 rfl).cell 2 rfl, ?_⟩
      refine (c4.pick 5 rfl).store (Nat.le_refl _) fun h16 c5 => CondP.of (fun hc => by cases hc) fun _ => ?_
      have c5 : Sat h16 S1 (lst b5 32 [.int .u64 (hh.i : Int)] :: lst b4 4 [.bool true] :: lgA gb T (g1.begin hh oldest).2 :: lst b6 103 (hdV hh) :: blk l (rc .busy none) :: lst cb 33 [.slice v.a v.l v.c] :: lst b3 4 [.bool false] :: lst b2 4 [.bool oldest] :: lst b1 187 [.pointer (some ⟨gb, 0, none⟩)] :: blk D (.deferred (some [])) :: R) := c5
      have c6 := (c5.del 3).pick 3 rfl
      refine ⟨Sat.blk c6, hK1 _ S1 (g1.begin hh oldest).2 (PH.le.refl _) ⟨fun x hx => hg1.1 x (q3 x hx), by rw [hst1]; exact q2⟩ ?_⟩
      rw [hst1]
      exact (c6.setB (o' := rc .ready none)).sel [4, 1, 1, 2, 2, 2, 1, 0]
    | en e =>
      rw [hr] at hv1 hokr hst
      have hnx : (e.i = (st i).g.last.1 + 1 ∧ (st i).g.last.2 ≤ e.t) ∧ st (i + 1) = { st i with g := { (st i).g with es := (st i).g.es ++ [e] } } := by
        simp only [Rd1.step] at hst
        split at hst
        · rename_i hx; injection hst with hst; exact ⟨hx, hst.symm⟩
        · cases hst
      obtain ⟨⟨n1, n2⟩, hst1⟩ := hnx
      have hpl := Lg.pure_last g1
      rw [hg1.2] at hpl
      rw [hpl] at n1 n2
      refine CondP.of (fun hc => by simp [Rec.par] at hc) fun _ => CondP.of (fun _ => ?_) fun hc => by simp [Rec.par] at hc
      refine ⟨_, (hb1.pick 6 rfl).cell 0 rfl, ?_⟩
      refine add_ok (hb1.sel [7]) hv1 hokr n1 n2 hgl fun x h24 S2 hS2 hx c3 => ⟨_, rfl, CondP.of (fun hc => by cases hc) fun _ => ?_⟩
      have c4 := c3.pick 1 rfl
      refine ⟨Sat.blk c4, hK1 _ S2 { g1 with es := g1.es ++ [(e, x)] } hS2 ⟨fun y hy => ?_, ?_⟩ ?_⟩
      · rcases List.mem_append.1 hy with h | h
        · exact (hg1.1.mono hS2) y h
        · simp only [List.mem_singleton] at h
          subst h; exact ⟨hx, hokr.2.2⟩
      · rw [hst1, ← hg1.2]; simp [Lg.pure]
      · rw [hst1]
        exact (c4.setB (o' := rc .ready none)).sel [2, 2, 2, 2, 2, 2, 1]
    | ct f =>
      rw [hr] at hv1 hokr hst
      have hnx : ((st i).own < f ∧ mayB (st i).g.fi (st i).g.last.1 f = true) ∧ st (i + 1) = { st i with g := { (st i).g with es := (st i).g.es.take (f - 1 - (st i).g.fi) } } := by
        simp only [Rd1.step] at hst
        split at hst
        · rename_i hx; injection hst with hst; exact ⟨hx, hst.symm⟩
        · cases hst
      obtain ⟨⟨n1, n2⟩, hst1⟩ := hnx
      have hcl := hci.last
      have hpl := Lg.pure_last g1
      rw [← hg1.2, hpl] at n2 hcl
      refine CondP.of (fun hc => by simp [Rec.par] at hc) fun _ => CondP.of (fun hc => by simp [Rec.par] at hc) fun _ => CondP.of (fun _ => ?_) fun hc => by simp [Rec.par] at hc
      refine ⟨_, (hb1.pick 6 rfl).cell 0 rfl, _, (hb1.pick 2 rfl).cell 0 rfl, ?_⟩
      refine cut_ok (hb1.sel [7]) hv1 hokr n1 n2 (by simpa [Lg.Con, Lg.pure] using hcl) hgl fun h26 c3 => ⟨_, rfl, CondP.of (fun hc => by cases hc) fun _ => ?_⟩
      have c4 := c3.pick 1 rfl
      refine ⟨Sat.blk c4, hK1 _ S1 { g1 with es := g1.es.take (f - 1 - g1.fi) } (PH.le.refl _) ⟨fun y hy => hg1.1 y (List.mem_of_mem_take hy), ?_⟩ ?_⟩
      · rw [hst1, ← hg1.2]; simp [Lg.pure, List.map_take]
      · rw [hst1]
        exact (c4.setB (o' := rc .ready none)).sel [2, 2, 2, 2, 2, 2, 1]
  · left
    have hl1 := hs2.pick 7 rfl
    have c1 := hl1.setB (o' := rc .exhausted none)
    have c1 : Sat (setB h29 l (rc .exhausted none)) S2 (blk l (rc .exhausted none) :: lst cb 33 [.slice v.a v.l v.c] :: lst b5 32 [.int .u64 ((st (rs.map Rec.par).length).own : Int)] :: lst b4 4 [.bool (st (rs.map Rec.par).length).begun] :: lst b3 4 [.bool false] :: lst b2 4 [.bool oldest] :: lst b1 187 [.pointer (some ⟨gb, 0, none⟩)] :: lgA gb T g2 :: blk D (.deferred (some [])) :: R) := c1
    refine ⟨Sat.blk hl1, ?_⟩
    refine end_spec c1 (hv.mono hS2) (fun p hp => by obtain ⟨r, hr, rfl⟩ := List.mem_map.1 hp; exact Rec.pok (hok r hr)) ht hvl fun h30 S3 hS3 c2 => ⟨_, _, rfl, ?_⟩
    have hg2p : g2.pure = s'.g := by
      have := hg2.2
      rw [List.length_map, stn] at this; exact this
    have fin : ∀ (b : Bool) (h31 : Heap), b = true → Sat h31 S3 (lst b3 4 [.bool b] :: blk l (rc .exhausted none) :: lst cb 33 [.slice v.a v.l v.c] :: lst b5 32 [.int .u64 ((st (rs.map Rec.par).length).own : Int)] :: lst b4 4 [.bool (st (rs.map Rec.par).length).begun] :: lst b2 4 [.bool oldest] :: lst b1 187 [.pointer (some ⟨gb, 0, none⟩)] :: lgA gb T g2 :: blk D (.deferred (some [])) :: R) →
        h31[D]? = some (.deferred (some [])) ∧ ∃ t9 : Bool, cellH (setB h31 D (.deferred none)) b3 0 = some (.bool t9) ∧ K (.bool t9) (setB h31 D (.deferred none)) := by
      rintro b h31 rfl c3
      have c4 := c3.pick 8 rfl
      have c5 := c4.setB (o' := .deferred none)
      have c6 : Sat (setB h31 D (.deferred none)) S3 (lst b3 4 [.bool true] :: lgA gb T g2 :: R) := (c5.sel [1, 7]).del 2 |>.del 2 |>.del 2 |>.del 2 |>.del 2 |>.del 2 |>.del 2
      exact ⟨Sat.blk c4, _, c6.cell 0 rfl, hK _ S3 g2 (hS2.trans hS3) (hg2.1.mono hS3) hg2p c6.drop⟩
    rcases Decidable.em (t = []) with h0 | h0
    · rw [if_pos h0]
      refine CondP.of (fun _ => ?_) fun hc => by simp at hc
      exact (c2.pick 4 rfl).store (Nat.le_refl _) fun h31 c3 => fin true h31 rfl c3
    · rw [if_neg h0]
      refine CondP.of (fun hc => by simp at hc) fun _ => CondP.of (fun _ => ?_) fun hc => by simp at hc
      exact (c2.pick 4 rfl).store (Nat.le_refl _) fun h31 c3 => fin newest h31 (hn.resolve_left h0) c3
end
end Go.Sx.Tryz
