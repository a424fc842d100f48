/-
  Part 2 of the proof: SxU, SxT2, SxW, SxX, SxY, SxR, Tab, V123, V80, V81, V83, V104, K01, V135.
-/
import Derived.Test.YtegikhoholfcmaaGreatM01
import Derived.Lib.AppendStr
import Derived.WalkKit
import Derived.ProofKit
import Derived.OpenShut
import Derived.Below
import Derived.WideKeyArgs
import Derived.ChangeSlices
import Derived.Test.YtegikhoholfcmaaGreatProg
namespace Go.Sx
set_option linter.unusedVariables false
theorem w_u8 (n : Int) : IntKind.u8.wrap n = n % 256 := by simp [IntKind.wrap, IntKind.bits, IntKind.signed]
theorem w_u32 (n : Int) : IntKind.u32.wrap n = n % 4294967296 := by simp [IntKind.wrap, IntKind.bits, IntKind.signed]
theorem w_u64 (n : Int) : IntKind.u64.wrap n = n % 18446744073709551616 := by simp [IntKind.wrap, IntKind.bits, IntKind.signed]
theorem u64_in {n : Int} (h0 : 0 ≤ n) (h1 : n < 18446744073709551616) : IntKind.u64.wrap n = n := by rw [w_u64]; omega
theorem u32_in {n : Int} (h0 : 0 ≤ n) (h1 : n < 4294967296) : IntKind.u32.wrap n = n := by rw [w_u32]; omega
theorem u8_in {n : Int} (h0 : 0 ≤ n) (h1 : n < 256) : IntKind.u8.wrap n = n := by rw [w_u8]; omega
theorem i64_in {n : Int} (h0 : -9223372036854775808 ≤ n) (h1 : n < 9223372036854775808) : IntKind.i64.wrap n = n := by
  simp [IntKind.wrap, IntKind.bits, IntKind.signed]
  omega
def bv (l : List UInt8) : List Value := l.map fun c => .int .u8 (c.toNat : Int)
theorem bv_len (l : List UInt8) : (bv l).length = l.length := by simp [bv]
theorem bv_append (a b : List UInt8) : bv (a ++ b) = bv a ++ bv b := by simp [bv]
theorem bv_one (l : List UInt8) : ∀ u ∈ bv l, u.oneCell' = true := by
  intro u hu
  obtain ⟨c, _, rfl⟩ := List.mem_map.1 hu
  rfl
theorem bv_get {l : List UInt8} {j : Nat} {c : UInt8} (h : l[j]? = some c) : (bv l)[j]? = some (.int .u8 (c.toNat : Int)) := by simp [bv, h]
theorem or128 : ∀ x : Fin 256, bOr .u8 (x.val : Int) 128 = ((x.val % 128 + 128 : Nat) : Int) := by decide +kernel
theorem and128 : ∀ x : Fin 256, bAnd .u8 (x.val : Int) 128 = ((x.val / 128 * 128 : Nat) : Int) := by decide +kernel
theorem andNot128 : ∀ x : Fin 256, bAndNot .u8 (x.val : Int) 128 = ((x.val % 128 : Nat) : Int) := by decide +kernel
theorem shr_u64 (n : Nat) : shrV .u64 (n : Int) 7 = ((n / 128 : Nat) : Int) := by
  show Int.fdiv (n : Int) (2 ^ 7) = _
  rw [Int.fdiv_eq_ediv_of_nonneg _ (by decide)]
  norm_cast
end Go.Sx
namespace Go.Sx
set_option linter.unusedVariables false
open Go.Lib
section
variable {H H' : Heap} {S : PH} {L : List Asn}
theorem strCells_bv (s : ByteArray) : strCells s = bv s.data.toList := rfl
theorem append_str {P : Program} {t u ty e : TypeId} (he : ElemOk P t e 1 1) (hz0 : ∃ i, P.info? e = some i ∧ i.zero = some (.int .u8 0) ∧ i.size = 1 ∧ i.bytes = 1) (hu : P.underlying u = some .string) {v : Sl} {xs : List Value} (h : Sat H S (own e 1 v xs :: L)) {s : ByteArray}
    (hb : v.l + s.size ≤ 140737488355328) {K : Sl → Heap → Prop} (hk : ∀ v' H', v'.l = v.l + s.size → Sat H' S (own e 1 v' (xs ++ bv s.data.toList) :: L) → K v' H') :
    RunK P .sl (Builtin.append_ #[t, u] ty #[.slice v.a v.l v.c, .string s]) H K := by
  intro w hw
  obtain ⟨i, hi, hz, hs, hby⟩ := hz0
  obtain ⟨hxl, hlc⟩ := own.len h
  rw [Nat.mul_one] at hxl
  have hll : (xs ++ strCells s).length = (v.l + s.size) * 1 := by rw [List.length_append, hxl, strCells_length, Nat.mul_one]
  have hm : v.l + s.size ≤ maxLen := by unfold maxLen; omega
  have grow : ∀ (old : Nat) (w' : World), w' = w.drew.alloc (.cells (xs.toArray ++ (strCells s).toArray ++ Builtin.zeroCells (Value.int .u8 0).cells (grownCap w (v.l + s.size) old e - (v.l + s.size))) e) →
      Sat w'.heap S (own e 1 ⟨some ⟨w.heap.size, 0, none⟩, v.l + s.size, grownCap w (v.l + s.size) old e⟩ (xs ++ strCells s) :: L) := by
    intro old w' hw'
    have hge := grownCap_ge w (v.l + s.size) old e
    have hcm : grownCap w (v.l + s.size) old e ≤ maxLen := grownCap_le_maxLen w (v.l + s.size) old e hm
    subst hw'
    refine h.regrow (v' := ⟨some ⟨w.heap.size, 0, none⟩, v.l + s.size, grownCap w (v.l + s.size) old e⟩) (fun d hd _ => ?_) hll (.inr ⟨w.heap.size, _, rfl, .inr (by rw [hw]), heap_alloc_new w.drew _, hge, hcm, Nat.le_of_eq ?_, ?_⟩)
    · rw [← hw] at hd ⊢
      exact heap_alloc_old w.drew _ hd
    · have hz1 : (Value.int IntKind.u8 0).cells.size = 1 := rfl
      simp only [Array.size_append, List.size_toArray, size_zeroCells, hz1, hxl, strCells_length]
      omega
    · simp only [Array.toList_append, List.append_assoc]
      rw [← List.append_assoc, ← hll]
      exact List.take_left
  have nonil : ∀ g cur, v.a = some ⟨g, 0, none⟩ → w.heap[g]? = some (.cells cur e (0, 0)) → cur.toList.take v.l = xs → ¬ v.l + s.size ≤ v.c →
      ∃ x w', (Builtin.append_ #[t, u] ty #[.slice v.a v.l v.c, .string s]).run P w = .ok (K1.sl.mk x) w' ∧ SameW w w' ∧ K x w'.heap := by
    intro g cur ga gb gt hroom
    have hold : ∀ j u, xs[j]? = some u → w.cell? ((⟨g, 0, none⟩ : Addr).add j) = some u := by
      intro j u hu
      rw [addr_add, cell?_eq]
      simp only [cellH, gb]
      rw [← gt, List.getElem?_take] at hu
      split at hu
      · simpa using hu
      · cases hu
    have hr := run_append_grow_string (P := P) w t u ty e i (.int .u8 0) he.und hu hi hz ⟨g, 0, none⟩ v.l v.c xs (by rw [hs, hxl, Nat.mul_one]) hold s (by omega) (by omega) (by rw [hby]; exact growslice_fits (by omega) (by omega))
    rw [ga]
    exact ⟨⟨some ⟨w.heap.size, 0, none⟩, v.l + s.size, _⟩, _, hr, ⟨rfl, rfl, rfl⟩, hk _ _ rfl (grow v.c _ rfl)⟩
  rcases own.row h hw with ⟨rfl, rfl⟩ | ⟨g, cur, ga, gb, gc, gm, gz, gt⟩
  · by_cases hm0 : s.size = 0
    · have hn : strCells s = [] := List.eq_nil_of_length_eq_zero (by rw [strCells_length]; exact hm0)
      have hf := run_firstCells_string (P := P) w 1 s
      rw [hm0] at hf
      refine ⟨⟨none, 0, 0⟩, w, ?_, SameW.refl _, hk _ _ (by rw [hm0]) (by rw [hw, ← strCells_bv, hn]; exact h)⟩
      simp [Builtin.append_, run_underlying he.und, run_underlying hu, sizeOf, typeInfo, hi, hs, Builtin.lenOf, hm0, hf, K1.mk]
    · have hr := run_append_nil_string (P := P) w t u ty e i (.int .u8 0) he.und hu hi hz s (by omega) (by simp only at hb; omega) (by rw [hby]; simp only at hb; omega)
      have e1 : (s.data.map fun b => Value.int .u8 b.toNat) = (strCells s).toArray := by
        apply Array.ext'
        simp [strCells]
      rw [e1] at hr
      have hgr := grow 0 _ rfl
      simp only [Nat.zero_add, Array.empty_append] at hgr
      exact ⟨⟨some ⟨w.heap.size, 0, none⟩, s.size, _⟩, _, hr, ⟨rfl, rfl, rfl⟩, hk _ _ (by simp) hgr⟩
  · have gt' : cur.toList.take v.l = xs := by simpa using gt
    by_cases hm0 : s.size = 0
    · have hn : strCells s = [] := List.eq_nil_of_length_eq_zero (by rw [strCells_length]; exact hm0)
      have hf := run_firstCells_string (P := P) w 1 s
      rw [hm0, hn] at hf
      refine ⟨v, w, ?_, SameW.refl _, hk _ _ (by omega) (by rw [hw, ← strCells_bv, hn, List.append_nil]; exact h)⟩
      rw [ga]
      simp [Builtin.append_, run_underlying he.und, run_underlying hu, sizeOf, typeInfo, hi, hs, Builtin.lenOf, hm0, hf, gc, storeCells, K1.mk, ga]
    · by_cases hroom : v.l + s.size ≤ v.c
      · have hr := run_append_room_string (P := P) w t u ty e i he.und hu hi hs g v.l v.c cur gb s hroom (by omega)
        rw [ga]
        refine ⟨⟨some ⟨g, 0, none⟩, v.l + s.size, v.c⟩, _, hr, ⟨rfl, rfl, rfl⟩, hk _ _ rfl (h.regrow (v' := ⟨some ⟨g, 0, none⟩, v.l + s.size, v.c⟩) (fun d hd hne => ?_) hll (.inr ⟨g, _, rfl, .inl ga, setRow_heap w g cur _ e _ gb, hroom, gm, ?_, ?_⟩))⟩
        · rw [setRow_other w g d _ (hne g ga), hw]
        · simp only [List.size_toArray, List.length_append, List.length_take, List.length_drop, Array.length_toList, strCells_length]
          omega
        · rw [gt', ← hll]
          exact List.take_left
      · exact nonil g cur ga gb gt' hroom
end
end Go.Sx
namespace Go.Sx
set_option linter.unusedVariables false
theorem bXor_u32 {a b : Nat} (ha : a < 4294967296) (hb : b < 4294967296) : bXor .u32 (a : Int) (b : Int) = ((a ^^^ b : Nat) : Int) := by
  have h : ((BitVec.ofInt 32 (a : Int) ^^^ BitVec.ofInt 32 (b : Int)).toNat : Int) = ((a ^^^ b : Nat) : Int) := by
    rw [BitVec.toNat_xor]
    simp only [BitVec.ofInt_natCast, BitVec.toNat_ofNat]
    rw [Nat.mod_eq_of_lt (by simpa using ha), Nat.mod_eq_of_lt (by simpa using hb)]
  show IntKind.u32.wrap _ = _
  have hlt : a ^^^ b < 4294967296 := Nat.xor_lt_two_pow (n := 32) (by simpa using ha) (by simpa using hb)
  rw [show ((BitVec.ofInt IntKind.u32.bits (a : Int) ^^^ BitVec.ofInt IntKind.u32.bits (b : Int)).toNat : Int) = ((a ^^^ b : Nat) : Int) from h]
  exact u32_in (by omega) (by omega)
theorem bAnd_u32 {a b : Nat} (ha : a < 4294967296) (hb : b < 4294967296) : bAnd .u32 (a : Int) (b : Int) = ((a &&& b : Nat) : Int) := by
  have h : ((BitVec.ofInt 32 (a : Int) &&& BitVec.ofInt 32 (b : Int)).toNat : Int) = ((a &&& b : Nat) : Int) := by
    rw [BitVec.toNat_and]
    simp only [BitVec.ofInt_natCast, BitVec.toNat_ofNat]
    rw [Nat.mod_eq_of_lt (by simpa using ha), Nat.mod_eq_of_lt (by simpa using hb)]
  show IntKind.u32.wrap _ = _
  have hlt : a &&& b < 4294967296 := Nat.lt_of_le_of_lt Nat.and_le_left ha
  rw [show ((BitVec.ofInt IntKind.u32.bits (a : Int) &&& BitVec.ofInt IntKind.u32.bits (b : Int)).toNat : Int) = ((a &&& b : Nat) : Int) from h]
  exact u32_in (by omega) (by omega)
theorem shr_u32 (n k : Nat) (hk : k ≤ 32) : shrV .u32 (n : Int) (k : Int) = ((n / 2 ^ k : Nat) : Int) := by
  unfold shrV
  have : min (k : Int).toNat IntKind.u32.bits = k := by rw [Int.toNat_natCast]; exact Nat.min_eq_left hk
  rw [this, Int.fdiv_eq_ediv_of_nonneg _ (Int.pow_nonneg (by decide))]
  norm_cast
theorem i64_succ {i : Nat} (h : i < 9223372036854775807) : IntKind.i64.wrap ((i : Int) + 1) = ((i + 1 : Nat) : Int) := by rw [i64_in (by omega) (by omega)]; rfl
theorem i64_nat {i : Nat} (h : i < 9223372036854775808) : IntKind.i64.wrap (i : Int) = (i : Int) := i64_in (by omega) (by omega)
theorem u64_nat {i : Nat} (h : i < 18446744073709551616) : IntKind.u64.wrap (i : Int) = (i : Int) := u64_in (by omega) (by omega)
theorem i64_add {i j : Nat} (h : i + j < 9223372036854775808) : IntKind.i64.wrap ((i : Int) + (j : Int)) = ((i + j : Nat) : Int) := by rw [i64_in (by omega) (by omega)]; rfl
theorem i64_sub {i j : Nat} (h : j ≤ i) (h2 : i < 9223372036854775808) : IntKind.i64.wrap ((i : Int) - (j : Int)) = ((i - j : Nat) : Int) := by rw [i64_in (by omega) (by omega)]; omega
theorem u64_add {i j : Nat} (h : i + j < 18446744073709551616) : IntKind.u64.wrap ((i : Int) + (j : Int)) = ((i + j : Nat) : Int) := by rw [u64_in (by omega) (by omega)]; rfl
theorem u64_sub {i j : Nat} (h : j ≤ i) (h2 : i < 18446744073709551616) : IntKind.u64.wrap ((i : Int) - (j : Int)) = ((i - j : Nat) : Int) := by rw [u64_in (by omega) (by omega)]; omega
def poly : Nat := 3988292384
def cstep (n : Nat) : Nat := n / 2 ^^^ (if n % 2 = 1 then poly else 0)
def csteps : Nat → Nat → Nat
  | 0, n => n
  | k + 1, n => csteps k (cstep n)
theorem xor4 (a b c d : Nat) : (a ^^^ b) ^^^ (c ^^^ d) = (a ^^^ c) ^^^ (b ^^^ d) := by
  rw [Nat.xor_assoc, Nat.xor_assoc, ← Nat.xor_assoc b, Nat.xor_comm b c, Nat.xor_assoc c]
theorem cstep_xor (a b : Nat) : cstep (a ^^^ b) = cstep a ^^^ cstep b := by
  unfold cstep
  rw [Nat.xor_div_two, xor4]
  congr 1
  have h : (a ^^^ b) % 2 = 1 ↔ ¬ (a % 2 = 1 ↔ b % 2 = 1) := Nat.xor_mod_two_eq_one
  by_cases ha : a % 2 = 1 <;> by_cases hb : b % 2 = 1 <;> simp [ha, hb, h]
theorem csteps_xor : ∀ (k a b : Nat), csteps k (a ^^^ b) = csteps k a ^^^ csteps k b
  | 0, _, _ => rfl
  | k + 1, a, b => by simp only [csteps]; rw [cstep_xor, csteps_xor k]
theorem cstep_lt {n : Nat} (h : n < 4294967296) : cstep n < 4294967296 := by
  unfold cstep
  refine Nat.xor_lt_two_pow (n := 32) (by omega) ?_
  split <;> decide
theorem csteps_lt : ∀ (k : Nat) {n : Nat}, n < 4294967296 → csteps k n < 4294967296
  | 0, _, h => h
  | k + 1, _, h => csteps_lt k (cstep_lt h)
theorem csteps_split : ∀ (k n : Nat), csteps k n = n / 2 ^ k ^^^ csteps k (n % 2 ^ k)
  | 0, n => by simp [csteps, Nat.mod_one]
  | k + 1, n => by
    have e : ∀ m, cstep m = m / 2 ^^^ (if m % 2 = 1 then poly else 0) := fun _ => rfl
    have h1 : n % 2 ^ (k + 1) % 2 = n % 2 := Nat.mod_mod_of_dvd _ (by rw [Nat.pow_succ]; exact ⟨_, Nat.mul_comm _ _⟩)
    have h2 : n % 2 ^ (k + 1) / 2 = n / 2 % 2 ^ k := by rw [Nat.pow_succ, Nat.mul_comm, Nat.mod_mul_right_div_self]
    show csteps k (cstep n) = n / 2 ^ (k + 1) ^^^ csteps k (cstep (n % 2 ^ (k + 1)))
    rw [e n, e (n % 2 ^ (k + 1)), h1, h2, csteps_xor, csteps_xor, csteps_split k (n / 2), Nat.div_div_eq_div_mul, Nat.mul_comm 2, ← Nat.pow_succ, Nat.xor_assoc]
def cbyte (n : Nat) (c : UInt8) : Nat := csteps 8 (n ^^^ c.toNat)
def crc (l : List UInt8) : Nat := l.foldl cbyte 4294967295
theorem cbyte_lt {n : Nat} (h : n < 4294967296) (c : UInt8) : cbyte n c < 4294967296 :=
  csteps_lt 8 (Nat.xor_lt_two_pow (n := 32) h (by have := c.toNat_lt; omega))
theorem crc_lt (l : List UInt8) : crc l < 4294967296 := by
  have : ∀ (l : List UInt8) (n : Nat), n < 4294967296 → l.foldl cbyte n < 4294967296 := by
    intro l
    induction l with
    | nil => exact fun n h => h
    | cons c l ih => exact fun n h => ih _ (cbyte_lt h c)
  exact this l _ (by decide)
theorem csteps_add : ∀ (j k n : Nat), csteps (j + k) n = csteps k (csteps j n)
  | 0, k, n => by simp [csteps]
  | j + 1, k, n => by rw [Nat.add_right_comm]; simp only [csteps]; exact csteps_add j k _
theorem cbyte_nibble (n : Nat) (c : UInt8) : cbyte n c = (let m := n ^^^ c.toNat; let m1 := m / 16 ^^^ csteps 4 (m % 16); m1 / 16 ^^^ csteps 4 (m1 % 16)) := by
  show csteps (4 + 4) _ = _
  rw [csteps_add, csteps_split 4 (csteps 4 _), csteps_split 4 (n ^^^ c.toNat)]
theorem cstep_beside (n c : Nat) : (n / 2 ^^^ (if n % 2 ≠ c % 2 then poly else 0)) ^^^ (c / 2) = cstep (n ^^^ c) := by
  unfold cstep
  rw [Nat.xor_div_two, Nat.xor_assoc, Nat.xor_comm _ (c / 2), ← Nat.xor_assoc]
  congr 1
  have h : (n ^^^ c) % 2 = 1 ↔ ¬ (n % 2 = 1 ↔ c % 2 = 1) := Nat.xor_mod_two_eq_one
  by_cases ha : n % 2 = 1 <;> by_cases hb : c % 2 = 1 <;> simp [ha, hb, h] <;> omega
theorem xor_full {n : Nat} (h : n < 4294967296) : 4294967295 ^^^ n = 4294967295 - n := by
  apply Nat.eq_of_testBit_eq
  intro i
  rw [Nat.testBit_xor]
  have e : 4294967295 - n = 2 ^ 32 - (n + 1) := by omega
  rw [e, Nat.testBit_two_pow_sub_succ (by simpa using h)]
  rw [show (4294967295 : Nat) = 2 ^ 32 - 1 by decide, Nat.testBit_two_pow_sub_one]
  by_cases hi : i < 32
  · simp [hi]
  · have : n.testBit i = false := Nat.testBit_lt_two_pow (Nat.lt_of_lt_of_le h (by
      calc 4294967296 = 2 ^ 32 := by decide
        _ ≤ 2 ^ i := Nat.pow_le_pow_right (by decide) (by omega)))
    simp [hi, this]
end Go.Sx
namespace Go.Sx
set_option linter.unusedVariables false
def sel : List Nat → List Asn → List Asn
  | [], L => L
  | i :: is, L => match L[i]? with
    | some A => A :: sel is (L.eraseIdx i)
    | none => L
theorem sel_perm : ∀ (is : List Nat) (L : List Asn), L.Perm (sel is L)
  | [], L => .refl _
  | i :: is, L => by
    unfold sel
    split
    · rename_i A h
      exact (erase_perm L i A h).trans (.cons _ (sel_perm is _))
    · exact .refl _
section
variable {H H' : Heap} {S : PH} {L : List Asn}
theorem Sat.sel (h : Sat H S L) (is : List Nat) : Sat H S (Sx.sel is L) := h.perm (sel_perm is L)
theorem LoopStart.sat {D l : Nat} {rc : LoopState → Option Code → Obj} (h : LoopStart H D l rc H') (hs : Sat H S L) : Sat H' S (blk l (rc .ready none) :: blk D (.deferred (some [])) :: L) := by
  obtain ⟨rfl, rfl, rfl⟩ := h
  have h1 : Sat (H.push (.deferred (some []))) S (Sx.blk H.size (.deferred (some [])) :: L) := hs.fresh ⟨rfl, rfl⟩
  exact h1.fresh ⟨by simp, rfl⟩
theorem Sat.setB {b : Nat} {o o' : Obj} (hs : Sat H S (Sx.blk b o :: L)) : Sat (Sx.setB H b o') S (Sx.blk b o' :: L) := by
  have hb := Sat.blk hs
  refine hs.turn ?_ fun c hc => ?_
  · simp [Sx.setB, lt_of_some hb]
  · simp [Sx.setB, Array.getElem?_setIfInBounds_ne (Ne.symm hc)]
end
end Go.Sx
namespace Go.Sx
set_option linter.unusedVariables false
def emp : Asn := fun _ => True
def ast : List Asn → Asn
  | [] => emp
  | A :: L => st A (ast L)
section
variable {H H' : Heap} {S : PH} {L M : List Asn} {A B : Asn}
theorem Sat.emp (h : Sat H S L) : Sat H S (Sx.emp :: L) := h.addFact (p := True) trivial
theorem Sat.unast : ∀ {L M : List Asn}, Sat H S (ast L :: M) → Sat H S (L ++ M)
  | [], _, h => h.drop
  | A :: L, M, h => by
    have h1 := h.unst.swap
    have h2 := h1.unast
    exact h2.perm List.perm_middle
theorem Sat.mkast : ∀ {L M : List Asn}, Sat H S (L ++ M) → Sat H S (ast L :: M)
  | [], _, h => h.emp
  | A :: L, M, h => by
    have h1 : Sat H S (L ++ A :: M) := h.perm List.perm_middle.symm
    exact h1.mkast.swap.mkst
def updF {α : Type} (f : Nat → α) (i : Nat) (x : α) : Nat → α := fun j => if j = i then x else f j
theorem updF_same {α : Type} (f : Nat → α) (i : Nat) (x : α) : updF f i x i = x := by simp [updF]
theorem updF_ne {α : Type} (f : Nat → α) {i j : Nat} (x : α) (h : j ≠ i) : updF f i x j = f j := by simp [updF, h]
theorem updF_upd {α : Type} (f : Nat → α) (i : Nat) (x y : α) : updF (updF f i x) i y = updF f i y := by
  funext j; unfold updF; split <;> rfl
theorem updF_self {α : Type} (f : Nat → α) (i : Nat) : updF f i (f i) = f := by
  funext j; unfold updF; split
  · rename_i h; rw [h]
  · rfl
def bigA (n : Nat) (A : Nat → Asn) : Asn := ast ((List.range n).map A)
theorem range_cut {n i : Nat} (h : i < n) : List.range n = List.range i ++ i :: (List.range (n - i - 1)).map (· + (i + 1)) := by
  have : n = i + (1 + (n - i - 1)) := by omega
  conv => lhs; rw [this, List.range_add]
  congr 1
  rw [List.range_add]
  simp only [List.range_one, List.map_cons, List.map_map, List.cons_append, List.nil_append, Nat.add_zero]
  congr 1
  exact List.map_congr_left fun j _ => by simp only [Function.comp]; omega
theorem map_upd {α : Type} (f : Nat → α) {n i : Nat} (h : i < n) (x : α) : (List.range n).map (updF f i x) = (List.range i).map f ++ x :: ((List.range (n - i - 1)).map (· + (i + 1))).map f := by
  rw [range_cut h, List.map_append, List.map_cons, updF_same]
  congr 1
  · exact List.map_congr_left fun j hj => updF_ne f x (by have := List.mem_range.1 hj; omega)
  · congr 1
    rw [List.map_map, List.map_map]
    exact List.map_congr_left fun j hj => updF_ne f x (by simp; omega)
theorem bigA.put {n i : Nat} {F : Nat → Asn} (hi : i < n) (h : Sat H S (B :: bigA n (updF F i Sx.emp) :: M)) : Sat H S (bigA n (updF F i B) :: M) := by
  unfold bigA at *
  have h1 := h.swap.unast
  refine Sat.mkast ?_
  rw [map_upd F hi] at h1 ⊢
  simp only [List.append_assoc, List.cons_append] at h1 ⊢
  have h2 : Sat H S (Sx.emp :: ((List.range i).map F ++ (B :: (((List.range (n - i - 1)).map (· + (i + 1))).map F ++ M)))) :=
    h1.perm (List.perm_middle.trans (.cons _ (.append_left _ List.perm_middle)))
  exact h2.drop
theorem bigA.get {n i : Nat} {F : Nat → Asn} (hi : i < n) (h : Sat H S (bigA n F :: M)) : Sat H S (F i :: bigA n (updF F i Sx.emp) :: M) := by
  unfold bigA at *
  have h1 := h.unast
  have e : (List.range n).map F = (List.range n).map (updF F i (F i)) := by rw [updF_self]
  rw [e, map_upd F hi] at h1
  refine Sat.swap (Sat.mkast ?_)
  rw [map_upd F hi]
  simp only [List.append_assoc, List.cons_append] at h1 ⊢
  exact h1.emp.perm ((List.Perm.cons _ List.perm_middle).trans ((List.Perm.swap _ _ _).trans ((List.Perm.cons _ List.perm_middle.symm).trans (List.perm_middle.symm.trans (.append_left _ ((List.Perm.swap _ _ _).trans (.cons _ List.perm_middle.symm)))))))
theorem putL_len {l : List Value} {off : Nat} {vs : List Value} (h : off + vs.length ≤ l.length) : (putL l off vs).length = l.length := by
  simp [putL]; omega
theorem putL_get {l : List Value} {off : Nat} {vs : List Value} (h : off + vs.length ≤ l.length) (j : Nat) : (putL l off vs)[j]? = if j < off then l[j]? else if j < off + vs.length then vs[j - off]? else l[j]? := by
  unfold putL
  rw [List.append_assoc]
  by_cases h1 : j < off
  · rw [if_pos h1, List.getElem?_append_left (by simp; omega), List.getElem?_take, if_pos h1]
  · rw [if_neg h1, List.getElem?_append_right (by simp; omega), List.length_take, Nat.min_eq_left (by omega)]
    by_cases h2 : j < off + vs.length
    · rw [if_pos h2, List.getElem?_append_left (by omega)]
    · rw [if_neg h2, List.getElem?_append_right (by omega), List.getElem?_drop]
      congr 1; omega
theorem putL_at {l : List Value} {off : Nat} {v : Value} (h : off < l.length) : (putL l off [v])[off]? = some v := by
  rw [putL_get (by simp only [List.length_cons, List.length_nil]; omega)]; simp
theorem putL_ne {l : List Value} {off : Nat} {v : Value} (h : off < l.length) {j : Nat} (hj : j ≠ off) : (putL l off [v])[j]? = l[j]? := by
  rw [putL_get (by simp only [List.length_cons, List.length_nil]; omega)]
  split
  · rfl
  · split
    · simp only [List.length_cons, List.length_nil] at *; omega
    · rfl
end
end Go.Sx
namespace Go.Sx
open Go Go.ChangeShapes Go.WideShapes Go.RowKit
set_option linter.unusedVariables false
def heapS (h : Heap) : PH := fun b => h[b]?
theorem sat_all (h : Heap) : Sat h (heapS h) [] := ⟨⟨fun _ => none, trivial, fun b => .inl rfl, fun b o h => by cases h⟩, fun b o h => h⟩
theorem below_of {w w' : World} {S' : PH} {L : List Asn} (hw : SameW w w') (hle : PH.le (heapS w.heap) S') (hs : Sat w'.heap S' L) : Below w.heap.size w w' := by
  have hb : ∀ k, k < w.heap.size → w'.heap[k]? = w.heap[k]? := by
    intro k hk
    have h1 : heapS w.heap k = some (w.heap[k]) := by simp [heapS, hk]
    rw [hs.sealed k _ (hle k _ h1)]
    simp [hk]
  refine ⟨hw.1, hw.2.1, hw.2.2, ?_, hb⟩
  by_cases h0 : w.heap.size = 0
  · omega
  · have := hb (w.heap.size - 1) (by omega)
    have h1 : w.heap[w.heap.size - 1]? = some (w.heap[w.heap.size - 1]'(by omega)) := Array.getElem?_eq_getElem (by omega)
    rw [h1] at this
    have := (Array.getElem?_eq_some_iff.1 this).1
    omega
section
variable {H : Type} {enc : TypeId × Value → H} {P : Program}
theorem cell_heap {W : World} {a : Addr} {v : Value} (h : W.cell? a = some v) : ∃ c T fz, a.spot = none ∧ W.heap[a.block]? = some (.cells c T fz) ∧ c[a.off]? = some v := by
  unfold World.cell? at h
  split at h
  · rename_i c T fz hc
    split at h
    · cases h
    · rename_i hsp
      exact ⟨c, T, fz, by simpa using hsp, hc, h⟩
  · cases h
theorem addr_eta {a : Addr} (h : a.spot = none) : a = ⟨a.block, a.off, none⟩ := by cases a; simp_all
theorem add_eta {a : Addr} (h : a.spot = none) (n : Nat) : a.add n = ⟨a.block, a.off + n, none⟩ := by
  unfold Addr.add
  split
  · rename_i h0; subst h0; exact addr_eta h
  · rfl
theorem trod_rd {t e : TypeId} {sz : Nat} (ht : P.underlying t = some (.slice e)) (hc : P.cellsOf e = sz) (hsz : 0 < sz) {W : World} {held : Bool} {fuel : Nat} {cs : List Value} {x : DataW H × List MemPlace}
    (h : DataW.trod enc P W 0 (fun _ => true) held fuel t cs = some x) :
    ∃ (v : Sl) (rows : List (List Value)), cs = [.slice v.a v.l v.c] ∧ v.l ≤ 9223372036854775807 ∧ rows.length = v.l ∧ Rd (heapS W.heap) v sz rows.flatten ∧
      ∀ r ∈ rows, r.length = sz ∧ ∃ n y, DataW.trod enc P W 0 (fun _ => true) held n e r = some y := by
  rcases DataW.trod_slice ht h with ⟨rfl, rfl⟩ | ⟨a, len, cap, elems, rest, n, _, rfl, rfl, hb, hl, hm, hlen, hel, hsp, hns⟩
  · exact ⟨⟨none, 0, 0⟩, [], rfl, by decide, rfl, Rd.nil _ _, fun r hr => by cases hr⟩
  have one : ∀ i, i < len → ∃ r : List Value, r.length = sz ∧ (∀ j, j < sz → W.cell? ((a.add (i * sz)).add j) = r[j]?) ∧ ∃ n y, DataW.trod enc P W 0 (fun _ => true) held n e r = some y := by
    intro i hi
    have h1 := hel i hi
    rw [show elems[i]? = some (elems[i]'(by omega)) from List.getElem?_eq_getElem (by omega), Option.bind_eq_some_iff] at h1
    obtain ⟨r, h2, h3⟩ := h1
    rw [hc] at h2
    obtain ⟨_, h4, h5⟩ := World.cells?_some h2
    exact ⟨r, h4, h5, n, _, h3⟩
  have all : ∀ k, k ≤ len → ∃ rows : List (List Value), rows.length = k ∧ (∀ r ∈ rows, r.length = sz ∧ ∃ n y, DataW.trod enc P W 0 (fun _ => true) held n e r = some y) ∧
      rows.flatten.length = k * sz ∧ (0 < k → ∃ c T fz, a.spot = none ∧ W.heap[a.block]? = some (.cells c T fz) ∧ ∀ j x, rows.flatten[j]? = some x → c[a.off + j]? = some x) := by
    intro k
    induction k with
    | zero => exact fun _ => ⟨[], rfl, (fun r hr => by cases hr), by simp, fun h => absurd h (by omega)⟩
    | succ k ih =>
      intro hk
      obtain ⟨rows, h1, h2, h3, h4⟩ := ih (by omega)
      obtain ⟨r, g1, g2, g3⟩ := one k (by omega)
      have hsp : a.spot = none := by
        by_cases h0 : 0 < k
        · obtain ⟨_, _, _, q, _⟩ := h4 h0; exact q
        · have hk0 : k = 0 := by omega
          subst hk0
          have := g2 0 hsz
          rw [show r[0]? = some (r[0]'(by omega)) from List.getElem?_eq_getElem (by omega), Nat.zero_mul] at this
          obtain ⟨_, _, _, q, _⟩ := cell_heap this
          simpa [Addr.add] using q
      refine ⟨rows ++ [r], by simp [h1], fun r' hr' => ?_, by simp [h3, g1, Nat.succ_mul], fun _ => ?_⟩
      · rcases List.mem_append.1 hr' with h | h
        · exact h2 r' h
        · simp only [List.mem_singleton] at h; subst h; exact ⟨g1, g3⟩
      · have g0 := g2 0 hsz
        rw [show r[0]? = some (r[0]'(by omega)) from List.getElem?_eq_getElem (by omega), add_eta hsp] at g0
        obtain ⟨c, T, fz, _, q1, q2⟩ := cell_heap g0
        have q1 : W.heap[a.block]? = some (.cells c T fz) := q1
        refine ⟨c, T, fz, hsp, q1, fun j x hx => ?_⟩
        simp only [List.flatten_append, List.flatten_cons, List.flatten_nil, List.append_nil] at hx
        by_cases hj : j < rows.flatten.length
        · rw [List.getElem?_append_left hj] at hx
          have h0 : 0 < k := by
            rcases Nat.eq_zero_or_pos k with h | h
            · subst h; rw [h3] at hj; omega
            · exact h
          obtain ⟨c', T', fz', _, q3, q4⟩ := h4 h0
          rw [q1] at q3
          cases q3
          exact q4 j x hx
        · rw [List.getElem?_append_right (by omega)] at hx
          have hjr : j - rows.flatten.length < r.length := (List.getElem?_eq_some_iff.1 hx).1
          have := g2 (j - rows.flatten.length) (by omega)
          rw [hx, add_eta hsp] at this
          obtain ⟨c', T', fz', _, q3, q4⟩ := cell_heap this
          have e0 : (Addr.add ⟨a.block, a.off + k * sz, none⟩ (j - rows.flatten.length)).block = a.block := block_add _ _
          rw [e0, q1] at q3
          cases q3
          have e : (Addr.add ⟨a.block, a.off + k * sz, none⟩ (j - rows.flatten.length)).off = a.off + j := by
            rw [add_eta rfl, h3]; show a.off + k * sz + (j - k * sz) = _
            omega
          rw [e] at q4
          exact q4
  obtain ⟨rows, h1, h2, h3, h4⟩ := all len (Nat.le_refl _)
  refine ⟨⟨some a, len, cap⟩, rows, rfl, Nat.le_trans hl hm, h1, ⟨h3, hl, ?_⟩, h2⟩
  rcases Nat.eq_zero_or_pos len with h | h
  · exact .inl h
  · obtain ⟨c, T, fz, q1, q2, q3⟩ := h4 h
    exact .inr ⟨a.block, a.off, c, T, fz, by show some a = _; rw [← addr_eta q1], q2, q3⟩
theorem row_list {α : Type} {f : α → List Value} {Q : α → Prop} : ∀ (rows : List (List Value)), (∀ r ∈ rows, ∃ x, r = f x ∧ Q x) → ∃ xs : List α, rows = xs.map f ∧ ∀ x ∈ xs, Q x
  | [], _ => ⟨[], rfl, fun x hx => by cases hx⟩
  | r :: rows, h => by
    obtain ⟨x, h1, h2⟩ := h r (by simp)
    obtain ⟨xs, h3, h4⟩ := row_list rows fun r hr => h r (by simp [hr])
    refine ⟨x :: xs, by simp [h1, h3], fun y hy => ?_⟩
    rcases List.mem_cons.1 hy with h | h
    · subst h; exact h2
    · exact h4 y h
theorem trod_rdInts {t e : TypeId} {k : IntKind} (ht : P.underlying t = some (.slice e)) (he : P.underlying e = some (.int k)) (hc : P.cellsOf e = 1) {W : World} {held : Bool} {fuel : Nat} {cs : List Value} {x : DataW H × List MemPlace}
    (h : DataW.trod enc P W 0 (fun _ => true) held fuel t cs = some x) :
    ∃ (v : Sl) (zs : List Int), cs = [.slice v.a v.l v.c] ∧ v.l ≤ 9223372036854775807 ∧ zs.length = v.l ∧ Rd (heapS W.heap) v 1 (zs.map fun z => .int k z) ∧ ∀ z ∈ zs, (Lit.int k z).wf = true := by
  obtain ⟨v, rows, h1, h2, h3, h4, h5⟩ := trod_rd ht hc (by decide) h
  obtain ⟨zs, rfl, h7⟩ := row_list (f := fun z : Int => [Value.int k z]) (Q := fun z => (Lit.int k z).wf = true) rows fun r hr => by
    obtain ⟨_, n, y, hy⟩ := h5 r hr
    obtain ⟨z, rfl, _, hz⟩ := DataW.trod_int he hy
    exact ⟨z, rfl, hz⟩
  refine ⟨v, zs, h1, h2, by simpa using h3, ?_, h7⟩
  have e : (zs.map fun z => [Value.int k z]).flatten = zs.map fun z => .int k z := by
    clear h4 h3 h5 h7
    induction zs with
    | nil => rfl
    | cons z zs ih => simp [ih]
  rw [e] at h4
  exact h4
theorem post_law {f : Func} {s : ChangeSpec} {apart fresh handsOn : Bool} {W W' : World} {args : Array Value} {v : Value} {ds gs : List (DataW H)} {before pa pv : List MemPlace}
    (hW : DataW.Whole enc P f.params.toList s.vars apart W args.toList ds gs before)
    (hres : ∀ (b : Nat) (sp : Nat → Bool) (hd : Bool), DataW.TrodAll enc P W' b sp hd f.resultTypes.toList (v.resultList f.resultTypes.size) (s.fn H (ds ++ gs)).results [])
    (hargs : DataW.TrodAll enc P W' 0 (fun b => decide (b < W.heap.size)) true f.params.toList args.toList (s.fn H (ds ++ gs)).args pa)
    (hvars : DataW.TrodVars enc P W' (fun b => decide (b < W.heap.size)) s.vars (s.fn H (ds ++ gs)).vars pv) (hb : Below W.heap.size W W') :
    s.post enc P f apart fresh handsOn false W args v W' :=
  ⟨ds, gs, before, [], pa, pv, hW, hres _ _ _, hargs, hvars, hb.frame _, fun h => by cases h⟩
theorem trod_below {t : TypeId} (hl : laidOutB P = true) (hr : P.readableRec t = true) (hrow : t < P.types.size) {W W' : World} {v : Value} {d : DataW H} {ps : List MemPlace}
    (h : DataW.Trod enc P W 0 (fun _ => true) true t v d ps) (hb : Below W.heap.size W W') (hlt : ∀ x ∈ ps, x.block < W.heap.size) :
    DataW.Trod enc P W' 0 (fun b => decide (b < W.heap.size)) true t v d ps :=
  WideElems.Trod_stays hl hr hrow h (fun x hx => hb.same (hlt x hx)) (fun x hx => by simpa using hlt x hx)
end
end Go.Sx
namespace Go.Sx.Tryz
open Go Go.Sx Go.Proofs
set_option maxRecDepth 100000
def ti3 : Ti := ⟨.int .i64, 1, [.int .i64 0], [.i .i64]⟩
theorem ti3_ok : ti3.ok Tryz.prog 3 := Ti.mk_ok (by kernel_rfl) Tryz.underlying3 rfl
def ti4 : Ti := ⟨.bool, 1, [.bool false], [.b]⟩
theorem ti4_ok : ti4.ok Tryz.prog 4 := Ti.mk_ok (by kernel_rfl) Tryz.underlying4 rfl
def ti5 : Ti := ⟨.int .u8, 1, [.int .u8 0], [.i .u8]⟩
theorem ti5_ok : ti5.ok Tryz.prog 5 := Ti.mk_ok (by kernel_rfl) Tryz.underlying5 rfl
def ti9 : Ti := ⟨.str, 1, [.string ⟨#[]⟩], [.s]⟩
theorem ti9_ok : ti9.ok Tryz.prog 9 := Ti.mk_ok (by kernel_rfl) Tryz.underlying9 rfl
def ti22 : Ti := ⟨.slice 40, 1, [.slice none 0 0], [.sl]⟩
theorem ti22_ok : ti22.ok Tryz.prog 22 := Ti.mk_ok (by kernel_rfl) Tryz.underlying22 rfl
def ti25 : Ti := ⟨.int .u64, 1, [.int .u64 0], [.i .u64]⟩
theorem ti25_ok : ti25.ok Tryz.prog 25 := Ti.mk_ok (by kernel_rfl) Tryz.underlying25 rfl
def ti26 : Ti := ⟨.ptr, 1, [.pointer none], [.p]⟩
theorem ti26_ok : ti26.ok Tryz.prog 26 := Ti.mk_ok (by kernel_rfl) Tryz.underlying26 ⟨_, rfl⟩
def ti28 : Ti := ⟨.ptr, 1, [.pointer none], [.p]⟩
theorem ti28_ok : ti28.ok Tryz.prog 28 := Ti.mk_ok (by kernel_rfl) Tryz.underlying28 ⟨_, rfl⟩
def ti29 : Ti := ⟨.int .i64, 1, [.int .i64 0], [.i .i64]⟩
theorem ti29_ok : ti29.ok Tryz.prog 29 := Ti.mk_ok (by kernel_rfl) Tryz.underlying29 rfl
def ti32 : Ti := ⟨.int .u64, 1, [.int .u64 0], [.i .u64]⟩
theorem ti32_ok : ti32.ok Tryz.prog 32 := Ti.mk_ok (by kernel_rfl) Tryz.underlying32 rfl
def ti33 : Ti := ⟨.slice 5, 1, [.slice none 0 0], [.sl]⟩
theorem ti33_ok : ti33.ok Tryz.prog 33 := Ti.mk_ok (by kernel_rfl) Tryz.underlying33 rfl
def ti35 : Ti := ⟨.strct [(0, 32), (1, 32), (2, 33)], 3, [.int .u64 0, .int .u64 0, .slice none 0 0], [.i .u64, .i .u64, .sl]⟩
theorem ti35_ok : ti35.ok Tryz.prog 35 := Ti.mk_ok (by kernel_rfl) Tryz.underlying35 ⟨_, rfl, rfl⟩
def ti36 : Ti := ⟨.slice 35, 1, [.slice none 0 0], [.sl]⟩
theorem ti36_ok : ti36.ok Tryz.prog 36 := Ti.mk_ok (by kernel_rfl) Tryz.underlying36 rfl
def ti38 : Ti := ⟨.strct [(0, 35), (3, 36)], 4, [.int .u64 0, .int .u64 0, .slice none 0 0, .slice none 0 0], [.i .u64, .i .u64, .sl, .sl]⟩
theorem ti38_ok : ti38.ok Tryz.prog 38 := Ti.mk_ok (by kernel_rfl) Tryz.underlying38 ⟨_, rfl, rfl⟩
def ti40 : Ti := ⟨.strct [(0, 3), (1, 3), (2, 3), (3, 32), (4, 32), (5, 33)], 6, [.int .i64 0, .int .i64 0, .int .i64 0, .int .u64 0, .int .u64 0, .slice none 0 0], [.i .i64, .i .i64, .i .i64, .i .u64, .i .u64, .sl]⟩
theorem ti40_ok : ti40.ok Tryz.prog 40 := Ti.mk_ok (by kernel_rfl) Tryz.underlying40 ⟨_, rfl, rfl⟩
def ti45 : Ti := ⟨.slice 3, 1, [.slice none 0 0], [.sl]⟩
theorem ti45_ok : ti45.ok Tryz.prog 45 := Ti.mk_ok (by kernel_rfl) Tryz.underlying45 rfl
def ti47 : Ti := ⟨.strct [(0, 5), (1, 45)], 2, [.int .u8 0, .slice none 0 0], [.i .u8, .sl]⟩
theorem ti47_ok : ti47.ok Tryz.prog 47 := Ti.mk_ok (by kernel_rfl) Tryz.underlying47 ⟨_, rfl, rfl⟩
def ti49 : Ti := ⟨.slice 38, 1, [.slice none 0 0], [.sl]⟩
theorem ti49_ok : ti49.ok Tryz.prog 49 := Ti.mk_ok (by kernel_rfl) Tryz.underlying49 rfl
def ti55 : Ti := ⟨.slice 66, 1, [.slice none 0 0], [.sl]⟩
theorem ti55_ok : ti55.ok Tryz.prog 55 := Ti.mk_ok (by kernel_rfl) Tryz.underlying55 rfl
def ti57 : Ti := ⟨.ptr, 1, [.pointer none], [.p]⟩
theorem ti57_ok : ti57.ok Tryz.prog 57 := Ti.mk_ok (by kernel_rfl) Tryz.underlying57 ⟨_, rfl⟩
def ti61 : Ti := ⟨.strct [(0, 32), (1, 32)], 2, [.int .u64 0, .int .u64 0], [.i .u64, .i .u64]⟩
theorem ti61_ok : ti61.ok Tryz.prog 61 := Ti.mk_ok (by kernel_rfl) Tryz.underlying61 ⟨_, rfl, rfl⟩
def ti62 : Ti := ⟨.strct [(0, 32), (1, 32), (2, 33)], 3, [.int .u64 0, .int .u64 0, .slice none 0 0], [.i .u64, .i .u64, .sl]⟩
theorem ti62_ok : ti62.ok Tryz.prog 62 := Ti.mk_ok (by kernel_rfl) Tryz.underlying62 ⟨_, rfl, rfl⟩
def ti64 : Ti := ⟨.strct [(0, 61), (2, 62), (5, 4), (6, 36)], 7, [.int .u64 0, .int .u64 0, .int .u64 0, .int .u64 0, .slice none 0 0, .bool false, .slice none 0 0], [.i .u64, .i .u64, .i .u64, .i .u64, .sl, .b, .sl]⟩
theorem ti64_ok : ti64.ok Tryz.prog 64 := Ti.mk_ok (by kernel_rfl) Tryz.underlying64 ⟨_, rfl, rfl⟩
def ti66 : Ti := ⟨.strct [(0, 3), (1, 3), (2, 3), (3, 32), (4, 32), (5, 33)], 6, [.int .i64 0, .int .i64 0, .int .i64 0, .int .u64 0, .int .u64 0, .slice none 0 0], [.i .i64, .i .i64, .i .i64, .i .u64, .i .u64, .sl]⟩
theorem ti66_ok : ti66.ok Tryz.prog 66 := Ti.mk_ok (by kernel_rfl) Tryz.underlying66 ⟨_, rfl, rfl⟩
def ti71 : Ti := ⟨.slice 64, 1, [.slice none 0 0], [.sl]⟩
theorem ti71_ok : ti71.ok Tryz.prog 71 := Ti.mk_ok (by kernel_rfl) Tryz.underlying71 rfl
def ti74 : Ti := ⟨.strct [(0, 32), (1, 32), (2, 33)], 3, [.int .u64 0, .int .u64 0, .slice none 0 0], [.i .u64, .i .u64, .sl]⟩
theorem ti74_ok : ti74.ok Tryz.prog 74 := Ti.mk_ok (by kernel_rfl) Tryz.underlying74 ⟨_, rfl, rfl⟩
def ti81 : Ti := ⟨.slice 85, 1, [.slice none 0 0], [.sl]⟩
theorem ti81_ok : ti81.ok Tryz.prog 81 := Ti.mk_ok (by kernel_rfl) Tryz.underlying81 rfl
def ti85 : Ti := ⟨.strct [(0, 32), (1, 32), (2, 33)], 3, [.int .u64 0, .int .u64 0, .slice none 0 0], [.i .u64, .i .u64, .sl]⟩
theorem ti85_ok : ti85.ok Tryz.prog 85 := Ti.mk_ok (by kernel_rfl) Tryz.underlying85 ⟨_, rfl, rfl⟩
def ti89 : Ti := ⟨.strct [(0, 33), (1, 3)], 2, [.slice none 0 0, .int .i64 0], [.sl, .i .i64]⟩
theorem ti89_ok : ti89.ok Tryz.prog 89 := Ti.mk_ok (by kernel_rfl) Tryz.underlying89 ⟨_, rfl, rfl⟩
def ti90 : Ti := ⟨.arr 32 89, 64, [.slice none 0 0, .int .i64 0, .slice none 0 0, .int .i64 0, .slice none 0 0, .int .i64 0, .slice none 0 0, .int .i64 0, .slice none 0 0, .int .i64 0, .slice none 0 0, .int .i64 0, .slice none 0 0, .int .i64 0, .slice none 0 0, .int .i64 0, .slice none 0 0, .int .i64 0, .slice none 0 0, .int .i64 0, .slice none 0 0, .int .i64 0, .slice none 0 0, .int .i64 0, .slice none 0 0, .int .i64 0, .slice none 0 0, .int .i64 0, .slice none 0 0, .int .i64 0, .slice none 0 0, .int .i64 0, .slice none 0 0, .int .i64 0, .slice none 0 0, .int .i64 0, .slice none 0 0, .int .i64 0, .slice none 0 0, .int .i64 0, .slice none 0 0, .int .i64 0, .slice none 0 0, .int .i64 0, .slice none 0 0, .int .i64 0, .slice none 0 0, .int .i64 0, .slice none 0 0, .int .i64 0, .slice none 0 0, .int .i64 0, .slice none 0 0, .int .i64 0, .slice none 0 0, .int .i64 0, .slice none 0 0, .int .i64 0, .slice none 0 0, .int .i64 0, .slice none 0 0, .int .i64 0, .slice none 0 0, .int .i64 0], []⟩
theorem ti90_ok : ti90.ok Tryz.prog 90 := Ti.mk_ok (by kernel_rfl) Tryz.underlying90 rfl
def ti92 : Ti := ⟨.strct [(0, 90), (64, 4), (65, 3), (66, 4), (67, 3)], 68, [.slice none 0 0, .int .i64 0, .slice none 0 0, .int .i64 0, .slice none 0 0, .int .i64 0, .slice none 0 0, .int .i64 0, .slice none 0 0, .int .i64 0, .slice none 0 0, .int .i64 0, .slice none 0 0, .int .i64 0, .slice none 0 0, .int .i64 0, .slice none 0 0, .int .i64 0, .slice none 0 0, .int .i64 0, .slice none 0 0, .int .i64 0, .slice none 0 0, .int .i64 0, .slice none 0 0, .int .i64 0, .slice none 0 0, .int .i64 0, .slice none 0 0, .int .i64 0, .slice none 0 0, .int .i64 0, .slice none 0 0, .int .i64 0, .slice none 0 0, .int .i64 0, .slice none 0 0, .int .i64 0, .slice none 0 0, .int .i64 0, .slice none 0 0, .int .i64 0, .slice none 0 0, .int .i64 0, .slice none 0 0, .int .i64 0, .slice none 0 0, .int .i64 0, .slice none 0 0, .int .i64 0, .slice none 0 0, .int .i64 0, .slice none 0 0, .int .i64 0, .slice none 0 0, .int .i64 0, .slice none 0 0, .int .i64 0, .slice none 0 0, .int .i64 0, .slice none 0 0, .int .i64 0, .slice none 0 0, .int .i64 0, .bool false, .int .i64 0, .bool false, .int .i64 0], []⟩
theorem ti92_ok : ti92.ok Tryz.prog 92 := Ti.mk_ok (by kernel_rfl) Tryz.underlying92 ⟨_, rfl, rfl⟩
def ti94 : Ti := ⟨.strct [(0, 85), (3, 81)], 4, [.int .u64 0, .int .u64 0, .slice none 0 0, .slice none 0 0], [.i .u64, .i .u64, .sl, .sl]⟩
theorem ti94_ok : ti94.ok Tryz.prog 94 := Ti.mk_ok (by kernel_rfl) Tryz.underlying94 ⟨_, rfl, rfl⟩
def ti95 : Ti := ⟨.slice 107, 1, [.slice none 0 0], [.sl]⟩
theorem ti95_ok : ti95.ok Tryz.prog 95 := Ti.mk_ok (by kernel_rfl) Tryz.underlying95 rfl
def ti97 : Ti := ⟨.strct [(0, 26), (1, 3), (2, 3), (3, 3), (4, 94), (8, 95), (9, 4)], 10, [.pointer none, .int .i64 0, .int .i64 0, .int .i64 0, .int .u64 0, .int .u64 0, .slice none 0 0, .slice none 0 0, .slice none 0 0, .bool false], [.p, .i .i64, .i .i64, .i .i64, .i .u64, .i .u64, .sl, .sl, .sl, .b]⟩
theorem ti97_ok : ti97.ok Tryz.prog 97 := Ti.mk_ok (by kernel_rfl) Tryz.underlying97 ⟨_, rfl, rfl⟩
def ti98 : Ti := ⟨.slice 33, 1, [.slice none 0 0], [.sl]⟩
theorem ti98_ok : ti98.ok Tryz.prog 98 := Ti.mk_ok (by kernel_rfl) Tryz.underlying98 rfl
def ti103 : Ti := ⟨.strct [(0, 32), (1, 4), (2, 32), (3, 32)], 4, [.int .u64 0, .bool false, .int .u64 0, .int .u64 0], [.i .u64, .b, .i .u64, .i .u64]⟩
theorem ti103_ok : ti103.ok Tryz.prog 103 := Ti.mk_ok (by kernel_rfl) Tryz.underlying103 ⟨_, rfl, rfl⟩
def ti107 : Ti := ⟨.strct [(0, 3), (1, 103)], 5, [.int .i64 0, .int .u64 0, .bool false, .int .u64 0, .int .u64 0], [.i .i64, .i .u64, .b, .i .u64, .i .u64]⟩
theorem ti107_ok : ti107.ok Tryz.prog 107 := Ti.mk_ok (by kernel_rfl) Tryz.underlying107 ⟨_, rfl, rfl⟩
def ti119 : Ti := ⟨.strct [(0, 35), (3, 36), (4, 3)], 5, [.int .u64 0, .int .u64 0, .slice none 0 0, .slice none 0 0, .int .i64 0], [.i .u64, .i .u64, .sl, .sl, .i .i64]⟩
theorem ti119_ok : ti119.ok Tryz.prog 119 := Ti.mk_ok (by kernel_rfl) Tryz.underlying119 ⟨_, rfl, rfl⟩
def ti123 : Ti := ⟨.ptr, 1, [.pointer none], [.p]⟩
theorem ti123_ok : ti123.ok Tryz.prog 123 := Ti.mk_ok (by kernel_rfl) Tryz.underlying123 ⟨_, rfl⟩
def ti125 : Ti := ⟨.ptr, 1, [.pointer none], [.p]⟩
theorem ti125_ok : ti125.ok Tryz.prog 125 := Ti.mk_ok (by kernel_rfl) Tryz.underlying125 ⟨_, rfl⟩
def ti126 : Ti := ⟨.ptr, 1, [.pointer none], [.p]⟩
theorem ti126_ok : ti126.ok Tryz.prog 126 := Ti.mk_ok (by kernel_rfl) Tryz.underlying126 ⟨_, rfl⟩
def ti128 : Ti := ⟨.strct [(0, 125), (1, 126), (2, 28), (3, 4)], 4, [.pointer none, .pointer none, .pointer none, .bool false], [.p, .p, .p, .b]⟩
theorem ti128_ok : ti128.ok Tryz.prog 128 := Ti.mk_ok (by kernel_rfl) Tryz.underlying128 ⟨_, rfl, rfl⟩
def ti141 : Ti := ⟨.fn, 1, [.nilFunc], [.v]⟩
theorem ti141_ok : ti141.ok Tryz.prog 141 := Ti.mk_ok (by kernel_rfl) Tryz.underlying141 ⟨_, _, _, rfl⟩
def ti145 : Ti := ⟨.strct [(0, 33)], 1, [.slice none 0 0], [.sl]⟩
theorem ti145_ok : ti145.ok Tryz.prog 145 := Ti.mk_ok (by kernel_rfl) Tryz.underlying145 ⟨_, rfl, rfl⟩
def ti174 : Ti := ⟨.arr 2 3, 2, [.int .i64 0, .int .i64 0], [.i .i64, .i .i64]⟩
theorem ti174_ok : ti174.ok Tryz.prog 174 := Ti.mk_ok (by kernel_rfl) Tryz.underlying174 rfl
def ti176 : Ti := ⟨.strct [(0, 32), (1, 32)], 2, [.int .u64 0, .int .u64 0], [.i .u64, .i .u64]⟩
theorem ti176_ok : ti176.ok Tryz.prog 176 := Ti.mk_ok (by kernel_rfl) Tryz.underlying176 ⟨_, rfl, rfl⟩
def ti178 : Ti := ⟨.strct [(0, 26), (1, 174), (3, 3), (4, 3), (5, 176), (7, 4)], 8, [.pointer none, .int .i64 0, .int .i64 0, .int .i64 0, .int .i64 0, .int .u64 0, .int .u64 0, .bool false], [.p, .i .i64, .i .i64, .i .i64, .i .i64, .i .u64, .i .u64, .b]⟩
theorem ti178_ok : ti178.ok Tryz.prog 178 := Ti.mk_ok (by kernel_rfl) Tryz.underlying178 ⟨_, rfl, rfl⟩
def ti182 : Ti := ⟨.strct [(0, 26), (1, 174), (3, 3), (4, 74), (7, 4)], 8, [.pointer none, .int .i64 0, .int .i64 0, .int .i64 0, .int .u64 0, .int .u64 0, .slice none 0 0, .bool false], [.p, .i .i64, .i .i64, .i .i64, .i .u64, .i .u64, .sl, .b]⟩
theorem ti182_ok : ti182.ok Tryz.prog 182 := Ti.mk_ok (by kernel_rfl) Tryz.underlying182 ⟨_, rfl, rfl⟩
def ti187 : Ti := ⟨.ptr, 1, [.pointer none], [.p]⟩
theorem ti187_ok : ti187.ok Tryz.prog 187 := Ti.mk_ok (by kernel_rfl) Tryz.underlying187 ⟨_, rfl⟩
def ti188 : Ti := ⟨.ptr, 1, [.pointer none], [.p]⟩
theorem ti188_ok : ti188.ok Tryz.prog 188 := Ti.mk_ok (by kernel_rfl) Tryz.underlying188 ⟨_, rfl⟩
def ti189 : Ti := ⟨.slice 32, 1, [.slice none 0 0], [.sl]⟩
theorem ti189_ok : ti189.ok Tryz.prog 189 := Ti.mk_ok (by kernel_rfl) Tryz.underlying189 rfl
def ti192 : Ti := ⟨.fn, 1, [.nilFunc], [.v]⟩
theorem ti192_ok : ti192.ok Tryz.prog 192 := Ti.mk_ok (by kernel_rfl) Tryz.underlying192 ⟨_, _, _, rfl⟩
def ti193 : Ti := ⟨.map, 1, [.map none], [.m]⟩
theorem ti193_ok : ti193.ok Tryz.prog 193 := Ti.mk_ok (by kernel_rfl) Tryz.underlying193 ⟨_, _, rfl⟩
def ti196 : Ti := ⟨.fn, 1, [.nilFunc], [.v]⟩
theorem ti196_ok : ti196.ok Tryz.prog 196 := Ti.mk_ok (by kernel_rfl) Tryz.underlying196 ⟨_, _, _, rfl⟩
def ti203 : Ti := ⟨.ptr, 1, [.pointer none], [.p]⟩
theorem ti203_ok : ti203.ok Tryz.prog 203 := Ti.mk_ok (by kernel_rfl) Tryz.underlying203 ⟨_, rfl⟩
def ti207 : Ti := ⟨.fn, 1, [.nilFunc], [.v]⟩
theorem ti207_ok : ti207.ok Tryz.prog 207 := Ti.mk_ok (by kernel_rfl) Tryz.underlying207 ⟨_, _, _, rfl⟩
def ti208 : Ti := ⟨.fn, 1, [.nilFunc], [.v]⟩
theorem ti208_ok : ti208.ok Tryz.prog 208 := Ti.mk_ok (by kernel_rfl) Tryz.underlying208 ⟨_, _, _, rfl⟩
def ti217 : Ti := ⟨.ptr, 1, [.pointer none], [.p]⟩
theorem ti217_ok : ti217.ok Tryz.prog 217 := Ti.mk_ok (by kernel_rfl) Tryz.underlying217 ⟨_, rfl⟩
def ti219 : Ti := ⟨.strct [(0, 33), (1, 4)], 2, [.slice none 0 0, .bool false], [.sl, .b]⟩
theorem ti219_ok : ti219.ok Tryz.prog 219 := Ti.mk_ok (by kernel_rfl) Tryz.underlying219 ⟨_, rfl, rfl⟩
def ti226 : Ti := ⟨.int .u32, 1, [.int .u32 0], [.i .u32]⟩
theorem ti226_ok : ti226.ok Tryz.prog 226 := Ti.mk_ok (by kernel_rfl) Tryz.underlying226 rfl
def ti232 : Ti := ⟨.strct [(0, 33), (1, 4)], 2, [.slice none 0 0, .bool false], [.sl, .b]⟩
theorem ti232_ok : ti232.ok Tryz.prog 232 := Ti.mk_ok (by kernel_rfl) Tryz.underlying232 ⟨_, rfl, rfl⟩
def ti238 : Ti := ⟨.arr 16 226, 16, [.int .u32 0, .int .u32 0, .int .u32 0, .int .u32 0, .int .u32 0, .int .u32 0, .int .u32 0, .int .u32 0, .int .u32 0, .int .u32 0, .int .u32 0, .int .u32 0, .int .u32 0, .int .u32 0, .int .u32 0, .int .u32 0], [.i .u32, .i .u32, .i .u32, .i .u32, .i .u32, .i .u32, .i .u32, .i .u32, .i .u32, .i .u32, .i .u32, .i .u32, .i .u32, .i .u32, .i .u32, .i .u32]⟩
theorem ti238_ok : ti238.ok Tryz.prog 238 := Ti.mk_ok (by kernel_rfl) Tryz.underlying238 rfl
def tyL : List (TypeId × Ti) := [(3, ti3), (4, ti4), (5, ti5), (9, ti9), (22, ti22), (25, ti25), (26, ti26), (28, ti28), (29, ti29), (32, ti32), (33, ti33), (35, ti35), (36, ti36), (38, ti38), (40, ti40), (45, ti45), (47, ti47), (49, ti49), (55, ti55), (57, ti57), (61, ti61), (62, ti62), (64, ti64), (66, ti66), (71, ti71), (74, ti74), (81, ti81), (85, ti85), (89, ti89), (90, ti90), (92, ti92), (94, ti94), (95, ti95), (97, ti97), (98, ti98), (103, ti103), (107, ti107), (119, ti119), (123, ti123), (125, ti125), (126, ti126), (128, ti128), (141, ti141), (145, ti145), (174, ti174), (176, ti176), (178, ti178), (182, ti182), (187, ti187), (188, ti188), (189, ti189), (192, ti192), (193, ti193), (196, ti196), (203, ti203), (207, ti207), (208, ti208), (217, ti217), (219, ti219), (226, ti226), (232, ti232), (238, ti238)]
def resL : List (FuncId × List Kd) := [(3, [.one (.b)]), (4, [.one (.b)]), (5, [.one (.b)]), (6, [.one (.b)]), (7, [.one (.b)]), (8, [.one (.b)]), (9, [.one (.b)]), (10, [.one (.p)]), (11, [.one (.p), .one (.i .i64)]), (12, [.one (.p), .ag [.i .u64, .i .u64, .sl, .sl], .one (.b)]), (13, [.one (.b)]), (14, []), (15, [.one (.b)]), (16, []), (17, [.ag [.i .u64, .i .u64, .sl, .sl], .one (.b)]), (18, [.ag [.i .u64, .i .u64, .sl]]), (19, [.one (.b)]), (20, [.one (.b)]), (21, [.one (.p), .one (.i .i64)]), (22, [.ag [.i .u64, .i .u64, .i .u64, .i .u64, .sl, .b, .sl], .one (.i .i64), .one (.i .i64)]), (23, [.one (.b)]), (24, [.one (.b)]), (25, [.one (.i .i64)]), (26, [.one (.p)]), (27, [.ag [.i .u64, .i .u64, .sl], .one (.b)]), (28, [.one (.i .u64)]), (29, [.one (.i .i64)]), (30, [.one (.b)]), (31, [.one (.sl)]), (32, [.one (.sl)]), (33, [.one (.i .i64)]), (34, [.ag [.i .u64, .i .u64, .sl]]), (35, [.one (.i .i64)]), (36, [.one (.sl)]), (37, [.one (.sl)]), (38, [.ag [.i .u64, .i .u64, .sl, .sl], .one (.sl), .one (.i .i64)]), (39, [.ag [.i .u64, .b, .i .u64, .i .u64], .one (.b)]), (40, []), (41, [.one (.b)]), (42, [.one (.b)]), (43, []), (44, [.one (.i .u64)]), (45, [.ag [.i .u64, .i .u64, .sl, .sl]]), (46, [.one (.i .i64)]), (47, [.one (.i .i64)]), (48, [.one (.sl), .one (.b)]), (49, [.one (.i .u64), .one (.i .u64)]), (50, [.one (.i .u64), .one (.i .u64)]), (51, [.ag [.i .u64, .i .u64, .sl, .sl, .i .i64], .one (.i .i64)]), (52, [.one (.sl)]), (53, [.one (.b)]), (54, [.ag [.i .u64, .i .u64, .sl]]), (55, [.one (.i .i64)]), (56, [.one (.i .i64)]), (57, [.one (.i .u64), .one (.i .u64)]), (58, [.one (.p), .one (.i .i64)]), (59, [.one (.p), .one (.i .i64)]), (60, [.one (.b)]), (61, [.one (.i .u64), .one (.i .u64)]), (62, [.one (.i .u64)]), (63, [.one (.i .i64)]), (64, [.one (.b)]), (65, [.ag [.i .u64, .i .u64, .i .u64, .i .u64, .sl, .b, .sl]]), (66, [.one (.i .u64), .one (.i .u64)]), (67, [.one (.b)]), (68, [.one (.i .i64)]), (69, [.one (.i .i64)]), (70, [.one (.i .i64)]), (71, [.one (.sl)]), (72, [.ag [.i .u64, .i .u64, .sl], .one (.b)]), (73, [.one (.i .u64)]), (74, [.one (.i .i64)]), (75, [.one (.i .i64)]), (76, [.one (.b)]), (77, [.one (.i .i64)]), (78, [.ag [.i .u64, .i .u64, .sl]]), (79, [.one (.b)]), (80, []), (81, []), (82, [.one (.sl), .one (.i .i64)]), (83, [.one (.sl)]), (84, [.one (.i .i64)]), (85, [.one (.i .i64)]), (86, [.one (.sl)]), (87, [.one (.b)]), (88, [.one (.b)]), (89, [.one (.sl)]), (90, [.one (.i .i64)]), (91, [.one (.i .i64)]), (92, [.one (.b)]), (93, [.one (.p)]), (94, [.one (.sl)]), (95, [.one (.b)]), (96, [.one (.i .u8), .one (.sl), .one (.i .i64), .one (.i .i64)]), (97, [.ag [.i .u64, .b, .i .u64, .i .u64], .one (.b)]), (98, [.one (.b)]), (99, [.one (.i .i64)]), (100, [.one (.i .i64), .one (.i .i64)]), (101, [.one (.i .i64)]), (102, [.one (.i .i64)]), (103, [.one (.i .i64)]), (104, []), (105, []), (106, [.one (.sl)]), (107, [.one (.b)]), (108, []), (109, [.one (.i .u64), .one (.b)]), (110, [.ag [.i .u64, .i .u64, .sl, .sl, .i .i64], .one (.i .i64)]), (111, [.one (.i .i64)]), (112, [.ag [.i .u64, .i .u64], .one (.b), .one (.i .i64)]), (113, []), (114, [.ag [.i .u64, .i .u64, .sl], .one (.b)]), (115, [.one (.b)]), (116, [.one (.b)]), (117, [.one (.b)]), (118, [.one (.b)]), (119, [.one (.b)]), (120, [.one (.b)]), (121, [.one (.i .i64)]), (122, [.one (.b)]), (123, []), (124, [.one (.sl)]), (125, [.one (.b)]), (126, [.one (.b)]), (127, []), (128, [.one (.i .i64)]), (129, [.one (.i .i64)]), (130, [.one (.v)]), (131, [.one (.b)]), (132, [.one (.b)]), (133, [.one (.b)]), (134, [.one (.b)]), (135, [.one (.p)]), (136, [.one (.i .u64)]), (137, [.one (.b)]), (138, [.one (.i .i64)]), (139, [.one (.b)]), (140, [.one (.b)]), (141, [.one (.i .i64)]), (142, [.one (.i .i64)]), (143, [.one (.i .i64)]), (144, []), (145, [.one (.v)]), (146, [.one (.i .i64)]), (147, []), (148, []), (149, [.one (.sl)]), (150, [.one (.b)]), (151, [.one (.i .u8), .one (.sl), .one (.i .i64), .one (.i .i64)]), (152, [.one (.i .u64), .one (.b), .ag [.i .u64, .i .u64, .sl], .one (.b)]), (153, [.ag [.i .u64, .i .u64, .sl, .sl, .i .i64], .one (.b)]), (154, [.one (.i .u64)]), (155, [.one (.s)]), (156, [.one (.i .i64)]), (157, [.one (.sl), .one (.i .i64)]), (158, [.one (.b)]), (159, [.ag [.i .u64, .i .u64], .one (.b)]), (160, []), (161, [.one (.i .i64)]), (162, [.one (.i .u32)]), (163, [.one (.i .i64)]), (164, []), (165, [.one (.b)]), (166, []), (167, [.one (.b)]), (168, [.one (.s)]), (169, [.one (.i .i64)]), (170, []), (171, [.one (.b)]), (172, []), (173, [.one (.sl)]), (174, [.one (.i .u32)]), (175, [.one (.b)]), (176, [.one (.i .u64)]), (177, [.ag [.i .u64, .i .u64], .one (.b)]), (178, [.one (.i .u32)]), (179, []), (180, []), (181, [.one (.b)]), (182, [.one (.s)]), (183, []), (184, [])]
def rtL : List (TypeId × List Kd) := [(0, []), (3, [.one (.i .i64)]), (4, [.one (.b)]), (9, [.one (.s)]), (29, [.one (.i .i64)]), (226, [.one (.i .u32)])]
def tab : Tab := { ty := fun t => tyL.lookup t, res := fun g => resL.lookup g, rt := fun t => rtL.lookup t }
theorem call3 : Callable Tryz.prog 3 := ⟨_, Tryz.func3, by kernel_rfl, by kernel_rfl⟩
theorem call4 : Callable Tryz.prog 4 := ⟨_, Tryz.func4, by kernel_rfl, by kernel_rfl⟩
theorem call5 : Callable Tryz.prog 5 := ⟨_, Tryz.func5, by kernel_rfl, by kernel_rfl⟩
theorem call6 : Callable Tryz.prog 6 := ⟨_, Tryz.func6, by kernel_rfl, by kernel_rfl⟩
theorem call7 : Callable Tryz.prog 7 := ⟨_, Tryz.func7, by kernel_rfl, by kernel_rfl⟩
theorem call8 : Callable Tryz.prog 8 := ⟨_, Tryz.func8, by kernel_rfl, by kernel_rfl⟩
theorem call9 : Callable Tryz.prog 9 := ⟨_, Tryz.func9, by kernel_rfl, by kernel_rfl⟩
theorem call10 : Callable Tryz.prog 10 := ⟨_, Tryz.func10, by kernel_rfl, by kernel_rfl⟩
theorem call11 : Callable Tryz.prog 11 := ⟨_, Tryz.func11, by kernel_rfl, by kernel_rfl⟩
theorem call12 : Callable Tryz.prog 12 := ⟨_, Tryz.func12, by kernel_rfl, by kernel_rfl⟩
theorem call13 : Callable Tryz.prog 13 := ⟨_, Tryz.func13, by kernel_rfl, by kernel_rfl⟩
theorem call14 : Callable Tryz.prog 14 := ⟨_, Tryz.func14, by kernel_rfl, by kernel_rfl⟩
theorem call15 : Callable Tryz.prog 15 := ⟨_, Tryz.func15, by kernel_rfl, by kernel_rfl⟩
theorem call16 : Callable Tryz.prog 16 := ⟨_, Tryz.func16, by kernel_rfl, by kernel_rfl⟩
theorem call17 : Callable Tryz.prog 17 := ⟨_, Tryz.func17, by kernel_rfl, by kernel_rfl⟩
theorem call18 : Callable Tryz.prog 18 := ⟨_, Tryz.func18, by kernel_rfl, by kernel_rfl⟩
theorem call19 : Callable Tryz.prog 19 := ⟨_, Tryz.func19, by kernel_rfl, by kernel_rfl⟩
theorem call20 : Callable Tryz.prog 20 := ⟨_, Tryz.func20, by kernel_rfl, by kernel_rfl⟩
theorem call21 : Callable Tryz.prog 21 := ⟨_, Tryz.func21, by kernel_rfl, by kernel_rfl⟩
theorem call22 : Callable Tryz.prog 22 := ⟨_, Tryz.func22, by kernel_rfl, by kernel_rfl⟩
theorem call23 : Callable Tryz.prog 23 := ⟨_, Tryz.func23, by kernel_rfl, by kernel_rfl⟩
theorem call24 : Callable Tryz.prog 24 := ⟨_, Tryz.func24, by kernel_rfl, by kernel_rfl⟩
theorem call25 : Callable Tryz.prog 25 := ⟨_, Tryz.func25, by kernel_rfl, by kernel_rfl⟩
theorem call26 : Callable Tryz.prog 26 := ⟨_, Tryz.func26, by kernel_rfl, by kernel_rfl⟩
theorem call27 : Callable Tryz.prog 27 := ⟨_, Tryz.func27, by kernel_rfl, by kernel_rfl⟩
theorem call28 : Callable Tryz.prog 28 := ⟨_, Tryz.func28, by kernel_rfl, by kernel_rfl⟩
theorem call29 : Callable Tryz.prog 29 := ⟨_, Tryz.func29, by kernel_rfl, by kernel_rfl⟩
theorem call30 : Callable Tryz.prog 30 := ⟨_, Tryz.func30, by kernel_rfl, by kernel_rfl⟩
theorem call31 : Callable Tryz.prog 31 := ⟨_, Tryz.func31, by kernel_rfl, by kernel_rfl⟩
theorem call32 : Callable Tryz.prog 32 := ⟨_, Tryz.func32, by kernel_rfl, by kernel_rfl⟩
theorem call33 : Callable Tryz.prog 33 := ⟨_, Tryz.func33, by kernel_rfl, by kernel_rfl⟩
theorem call34 : Callable Tryz.prog 34 := ⟨_, Tryz.func34, by kernel_rfl, by kernel_rfl⟩
theorem call35 : Callable Tryz.prog 35 := ⟨_, Tryz.func35, by kernel_rfl, by kernel_rfl⟩
theorem call36 : Callable Tryz.prog 36 := ⟨_, Tryz.func36, by kernel_rfl, by kernel_rfl⟩
theorem call37 : Callable Tryz.prog 37 := ⟨_, Tryz.func37, by kernel_rfl, by kernel_rfl⟩
theorem call38 : Callable Tryz.prog 38 := ⟨_, Tryz.func38, by kernel_rfl, by kernel_rfl⟩
theorem call39 : Callable Tryz.prog 39 := ⟨_, Tryz.func39, by kernel_rfl, by kernel_rfl⟩
theorem call40 : Callable Tryz.prog 40 := ⟨_, Tryz.func40, by kernel_rfl, by kernel_rfl⟩
theorem call41 : Callable Tryz.prog 41 := ⟨_, Tryz.func41, by kernel_rfl, by kernel_rfl⟩
theorem call42 : Callable Tryz.prog 42 := ⟨_, Tryz.func42, by kernel_rfl, by kernel_rfl⟩
theorem call43 : Callable Tryz.prog 43 := ⟨_, Tryz.func43, by kernel_rfl, by kernel_rfl⟩
theorem call44 : Callable Tryz.prog 44 := ⟨_, Tryz.func44, by kernel_rfl, by kernel_rfl⟩
theorem call45 : Callable Tryz.prog 45 := ⟨_, Tryz.func45, by kernel_rfl, by kernel_rfl⟩
theorem call46 : Callable Tryz.prog 46 := ⟨_, Tryz.func46, by kernel_rfl, by kernel_rfl⟩
theorem call47 : Callable Tryz.prog 47 := ⟨_, Tryz.func47, by kernel_rfl, by kernel_rfl⟩
theorem call48 : Callable Tryz.prog 48 := ⟨_, Tryz.func48, by kernel_rfl, by kernel_rfl⟩
theorem call49 : Callable Tryz.prog 49 := ⟨_, Tryz.func49, by kernel_rfl, by kernel_rfl⟩
theorem call50 : Callable Tryz.prog 50 := ⟨_, Tryz.func50, by kernel_rfl, by kernel_rfl⟩
theorem call51 : Callable Tryz.prog 51 := ⟨_, Tryz.func51, by kernel_rfl, by kernel_rfl⟩
theorem call52 : Callable Tryz.prog 52 := ⟨_, Tryz.func52, by kernel_rfl, by kernel_rfl⟩
theorem call53 : Callable Tryz.prog 53 := ⟨_, Tryz.func53, by kernel_rfl, by kernel_rfl⟩
theorem call54 : Callable Tryz.prog 54 := ⟨_, Tryz.func54, by kernel_rfl, by kernel_rfl⟩
theorem call55 : Callable Tryz.prog 55 := ⟨_, Tryz.func55, by kernel_rfl, by kernel_rfl⟩
theorem call56 : Callable Tryz.prog 56 := ⟨_, Tryz.func56, by kernel_rfl, by kernel_rfl⟩
theorem call57 : Callable Tryz.prog 57 := ⟨_, Tryz.func57, by kernel_rfl, by kernel_rfl⟩
theorem call58 : Callable Tryz.prog 58 := ⟨_, Tryz.func58, by kernel_rfl, by kernel_rfl⟩
theorem call59 : Callable Tryz.prog 59 := ⟨_, Tryz.func59, by kernel_rfl, by kernel_rfl⟩
theorem call60 : Callable Tryz.prog 60 := ⟨_, Tryz.func60, by kernel_rfl, by kernel_rfl⟩
theorem call61 : Callable Tryz.prog 61 := ⟨_, Tryz.func61, by kernel_rfl, by kernel_rfl⟩
theorem call62 : Callable Tryz.prog 62 := ⟨_, Tryz.func62, by kernel_rfl, by kernel_rfl⟩
theorem call63 : Callable Tryz.prog 63 := ⟨_, Tryz.func63, by kernel_rfl, by kernel_rfl⟩
theorem call64 : Callable Tryz.prog 64 := ⟨_, Tryz.func64, by kernel_rfl, by kernel_rfl⟩
theorem call65 : Callable Tryz.prog 65 := ⟨_, Tryz.func65, by kernel_rfl, by kernel_rfl⟩
theorem call66 : Callable Tryz.prog 66 := ⟨_, Tryz.func66, by kernel_rfl, by kernel_rfl⟩
theorem call67 : Callable Tryz.prog 67 := ⟨_, Tryz.func67, by kernel_rfl, by kernel_rfl⟩
theorem call68 : Callable Tryz.prog 68 := ⟨_, Tryz.func68, by kernel_rfl, by kernel_rfl⟩
theorem call69 : Callable Tryz.prog 69 := ⟨_, Tryz.func69, by kernel_rfl, by kernel_rfl⟩
theorem call70 : Callable Tryz.prog 70 := ⟨_, Tryz.func70, by kernel_rfl, by kernel_rfl⟩
theorem call71 : Callable Tryz.prog 71 := ⟨_, Tryz.func71, by kernel_rfl, by kernel_rfl⟩
theorem call72 : Callable Tryz.prog 72 := ⟨_, Tryz.func72, by kernel_rfl, by kernel_rfl⟩
theorem call73 : Callable Tryz.prog 73 := ⟨_, Tryz.func73, by kernel_rfl, by kernel_rfl⟩
theorem call74 : Callable Tryz.prog 74 := ⟨_, Tryz.func74, by kernel_rfl, by kernel_rfl⟩
theorem call75 : Callable Tryz.prog 75 := ⟨_, Tryz.func75, by kernel_rfl, by kernel_rfl⟩
theorem call76 : Callable Tryz.prog 76 := ⟨_, Tryz.func76, by kernel_rfl, by kernel_rfl⟩
theorem call77 : Callable Tryz.prog 77 := ⟨_, Tryz.func77, by kernel_rfl, by kernel_rfl⟩
theorem call78 : Callable Tryz.prog 78 := ⟨_, Tryz.func78, by kernel_rfl, by kernel_rfl⟩
theorem call79 : Callable Tryz.prog 79 := ⟨_, Tryz.func79, by kernel_rfl, by kernel_rfl⟩
theorem call80 : Callable Tryz.prog 80 := ⟨_, Tryz.func80, by kernel_rfl, by kernel_rfl⟩
theorem call81 : Callable Tryz.prog 81 := ⟨_, Tryz.func81, by kernel_rfl, by kernel_rfl⟩
theorem call82 : Callable Tryz.prog 82 := ⟨_, Tryz.func82, by kernel_rfl, by kernel_rfl⟩
theorem call83 : Callable Tryz.prog 83 := ⟨_, Tryz.func83, by kernel_rfl, by kernel_rfl⟩
theorem call84 : Callable Tryz.prog 84 := ⟨_, Tryz.func84, by kernel_rfl, by kernel_rfl⟩
theorem call85 : Callable Tryz.prog 85 := ⟨_, Tryz.func85, by kernel_rfl, by kernel_rfl⟩
theorem call86 : Callable Tryz.prog 86 := ⟨_, Tryz.func86, by kernel_rfl, by kernel_rfl⟩
theorem call87 : Callable Tryz.prog 87 := ⟨_, Tryz.func87, by kernel_rfl, by kernel_rfl⟩
theorem call88 : Callable Tryz.prog 88 := ⟨_, Tryz.func88, by kernel_rfl, by kernel_rfl⟩
theorem call89 : Callable Tryz.prog 89 := ⟨_, Tryz.func89, by kernel_rfl, by kernel_rfl⟩
theorem call90 : Callable Tryz.prog 90 := ⟨_, Tryz.func90, by kernel_rfl, by kernel_rfl⟩
theorem call91 : Callable Tryz.prog 91 := ⟨_, Tryz.func91, by kernel_rfl, by kernel_rfl⟩
theorem call92 : Callable Tryz.prog 92 := ⟨_, Tryz.func92, by kernel_rfl, by kernel_rfl⟩
theorem call93 : Callable Tryz.prog 93 := ⟨_, Tryz.func93, by kernel_rfl, by kernel_rfl⟩
theorem call94 : Callable Tryz.prog 94 := ⟨_, Tryz.func94, by kernel_rfl, by kernel_rfl⟩
theorem call95 : Callable Tryz.prog 95 := ⟨_, Tryz.func95, by kernel_rfl, by kernel_rfl⟩
theorem call96 : Callable Tryz.prog 96 := ⟨_, Tryz.func96, by kernel_rfl, by kernel_rfl⟩
theorem call97 : Callable Tryz.prog 97 := ⟨_, Tryz.func97, by kernel_rfl, by kernel_rfl⟩
theorem call98 : Callable Tryz.prog 98 := ⟨_, Tryz.func98, by kernel_rfl, by kernel_rfl⟩
theorem call99 : Callable Tryz.prog 99 := ⟨_, Tryz.func99, by kernel_rfl, by kernel_rfl⟩
theorem call100 : Callable Tryz.prog 100 := ⟨_, Tryz.func100, by kernel_rfl, by kernel_rfl⟩
theorem call101 : Callable Tryz.prog 101 := ⟨_, Tryz.func101, by kernel_rfl, by kernel_rfl⟩
theorem call102 : Callable Tryz.prog 102 := ⟨_, Tryz.func102, by kernel_rfl, by kernel_rfl⟩
theorem call103 : Callable Tryz.prog 103 := ⟨_, Tryz.func103, by kernel_rfl, by kernel_rfl⟩
theorem call104 : Callable Tryz.prog 104 := ⟨_, Tryz.func104, by kernel_rfl, by kernel_rfl⟩
theorem call105 : Callable Tryz.prog 105 := ⟨_, Tryz.func105, by kernel_rfl, by kernel_rfl⟩
theorem call106 : Callable Tryz.prog 106 := ⟨_, Tryz.func106, by kernel_rfl, by kernel_rfl⟩
theorem call107 : Callable Tryz.prog 107 := ⟨_, Tryz.func107, by kernel_rfl, by kernel_rfl⟩
theorem call108 : Callable Tryz.prog 108 := ⟨_, Tryz.func108, by kernel_rfl, by kernel_rfl⟩
theorem call109 : Callable Tryz.prog 109 := ⟨_, Tryz.func109, by kernel_rfl, by kernel_rfl⟩
theorem call110 : Callable Tryz.prog 110 := ⟨_, Tryz.func110, by kernel_rfl, by kernel_rfl⟩
theorem call111 : Callable Tryz.prog 111 := ⟨_, Tryz.func111, by kernel_rfl, by kernel_rfl⟩
theorem call112 : Callable Tryz.prog 112 := ⟨_, Tryz.func112, by kernel_rfl, by kernel_rfl⟩
theorem call113 : Callable Tryz.prog 113 := ⟨_, Tryz.func113, by kernel_rfl, by kernel_rfl⟩
theorem call114 : Callable Tryz.prog 114 := ⟨_, Tryz.func114, by kernel_rfl, by kernel_rfl⟩
theorem call115 : Callable Tryz.prog 115 := ⟨_, Tryz.func115, by kernel_rfl, by kernel_rfl⟩
theorem call116 : Callable Tryz.prog 116 := ⟨_, Tryz.func116, by kernel_rfl, by kernel_rfl⟩
theorem call117 : Callable Tryz.prog 117 := ⟨_, Tryz.func117, by kernel_rfl, by kernel_rfl⟩
theorem call118 : Callable Tryz.prog 118 := ⟨_, Tryz.func118, by kernel_rfl, by kernel_rfl⟩
theorem call119 : Callable Tryz.prog 119 := ⟨_, Tryz.func119, by kernel_rfl, by kernel_rfl⟩
theorem call120 : Callable Tryz.prog 120 := ⟨_, Tryz.func120, by kernel_rfl, by kernel_rfl⟩
theorem call121 : Callable Tryz.prog 121 := ⟨_, Tryz.func121, by kernel_rfl, by kernel_rfl⟩
theorem call122 : Callable Tryz.prog 122 := ⟨_, Tryz.func122, by kernel_rfl, by kernel_rfl⟩
theorem call123 : Callable Tryz.prog 123 := ⟨_, Tryz.func123, by kernel_rfl, by kernel_rfl⟩
theorem call124 : Callable Tryz.prog 124 := ⟨_, Tryz.func124, by kernel_rfl, by kernel_rfl⟩
theorem call125 : Callable Tryz.prog 125 := ⟨_, Tryz.func125, by kernel_rfl, by kernel_rfl⟩
theorem call126 : Callable Tryz.prog 126 := ⟨_, Tryz.func126, by kernel_rfl, by kernel_rfl⟩
theorem call127 : Callable Tryz.prog 127 := ⟨_, Tryz.func127, by kernel_rfl, by kernel_rfl⟩
theorem call128 : Callable Tryz.prog 128 := ⟨_, Tryz.func128, by kernel_rfl, by kernel_rfl⟩
theorem call129 : Callable Tryz.prog 129 := ⟨_, Tryz.func129, by kernel_rfl, by kernel_rfl⟩
theorem call130 : Callable Tryz.prog 130 := ⟨_, Tryz.func130, by kernel_rfl, by kernel_rfl⟩
theorem call131 : Callable Tryz.prog 131 := ⟨_, Tryz.func131, by kernel_rfl, by kernel_rfl⟩
theorem call132 : Callable Tryz.prog 132 := ⟨_, Tryz.func132, by kernel_rfl, by kernel_rfl⟩
theorem call133 : Callable Tryz.prog 133 := ⟨_, Tryz.func133, by kernel_rfl, by kernel_rfl⟩
theorem call134 : Callable Tryz.prog 134 := ⟨_, Tryz.func134, by kernel_rfl, by kernel_rfl⟩
theorem call135 : Callable Tryz.prog 135 := ⟨_, Tryz.func135, by kernel_rfl, by kernel_rfl⟩
theorem call136 : Callable Tryz.prog 136 := ⟨_, Tryz.func136, by kernel_rfl, by kernel_rfl⟩
theorem call137 : Callable Tryz.prog 137 := ⟨_, Tryz.func137, by kernel_rfl, by kernel_rfl⟩
theorem call138 : Callable Tryz.prog 138 := ⟨_, Tryz.func138, by kernel_rfl, by kernel_rfl⟩
theorem call139 : Callable Tryz.prog 139 := ⟨_, Tryz.func139, by kernel_rfl, by kernel_rfl⟩
theorem call140 : Callable Tryz.prog 140 := ⟨_, Tryz.func140, by kernel_rfl, by kernel_rfl⟩
theorem call141 : Callable Tryz.prog 141 := ⟨_, Tryz.func141, by kernel_rfl, by kernel_rfl⟩
theorem call142 : Callable Tryz.prog 142 := ⟨_, Tryz.func142, by kernel_rfl, by kernel_rfl⟩
theorem call143 : Callable Tryz.prog 143 := ⟨_, Tryz.func143, by kernel_rfl, by kernel_rfl⟩
theorem call144 : Callable Tryz.prog 144 := ⟨_, Tryz.func144, by kernel_rfl, by kernel_rfl⟩
theorem call145 : Callable Tryz.prog 145 := ⟨_, Tryz.func145, by kernel_rfl, by kernel_rfl⟩
theorem call146 : Callable Tryz.prog 146 := ⟨_, Tryz.func146, by kernel_rfl, by kernel_rfl⟩
theorem call147 : Callable Tryz.prog 147 := ⟨_, Tryz.func147, by kernel_rfl, by kernel_rfl⟩
theorem call148 : Callable Tryz.prog 148 := ⟨_, Tryz.func148, by kernel_rfl, by kernel_rfl⟩
theorem call149 : Callable Tryz.prog 149 := ⟨_, Tryz.func149, by kernel_rfl, by kernel_rfl⟩
theorem call150 : Callable Tryz.prog 150 := ⟨_, Tryz.func150, by kernel_rfl, by kernel_rfl⟩
theorem call151 : Callable Tryz.prog 151 := ⟨_, Tryz.func151, by kernel_rfl, by kernel_rfl⟩
theorem call152 : Callable Tryz.prog 152 := ⟨_, Tryz.func152, by kernel_rfl, by kernel_rfl⟩
theorem call153 : Callable Tryz.prog 153 := ⟨_, Tryz.func153, by kernel_rfl, by kernel_rfl⟩
theorem call154 : Callable Tryz.prog 154 := ⟨_, Tryz.func154, by kernel_rfl, by kernel_rfl⟩
theorem call155 : Callable Tryz.prog 155 := ⟨_, Tryz.func155, by kernel_rfl, by kernel_rfl⟩
theorem call156 : Callable Tryz.prog 156 := ⟨_, Tryz.func156, by kernel_rfl, by kernel_rfl⟩
theorem call157 : Callable Tryz.prog 157 := ⟨_, Tryz.func157, by kernel_rfl, by kernel_rfl⟩
theorem call158 : Callable Tryz.prog 158 := ⟨_, Tryz.func158, by kernel_rfl, by kernel_rfl⟩
theorem call159 : Callable Tryz.prog 159 := ⟨_, Tryz.func159, by kernel_rfl, by kernel_rfl⟩
theorem call160 : Callable Tryz.prog 160 := ⟨_, Tryz.func160, by kernel_rfl, by kernel_rfl⟩
theorem call161 : Callable Tryz.prog 161 := ⟨_, Tryz.func161, by kernel_rfl, by kernel_rfl⟩
theorem call162 : Callable Tryz.prog 162 := ⟨_, Tryz.func162, by kernel_rfl, by kernel_rfl⟩
theorem call163 : Callable Tryz.prog 163 := ⟨_, Tryz.func163, by kernel_rfl, by kernel_rfl⟩
theorem call164 : Callable Tryz.prog 164 := ⟨_, Tryz.func164, by kernel_rfl, by kernel_rfl⟩
theorem call165 : Callable Tryz.prog 165 := ⟨_, Tryz.func165, by kernel_rfl, by kernel_rfl⟩
theorem call166 : Callable Tryz.prog 166 := ⟨_, Tryz.func166, by kernel_rfl, by kernel_rfl⟩
theorem call167 : Callable Tryz.prog 167 := ⟨_, Tryz.func167, by kernel_rfl, by kernel_rfl⟩
theorem call168 : Callable Tryz.prog 168 := ⟨_, Tryz.func168, by kernel_rfl, by kernel_rfl⟩
theorem call169 : Callable Tryz.prog 169 := ⟨_, Tryz.func169, by kernel_rfl, by kernel_rfl⟩
theorem call170 : Callable Tryz.prog 170 := ⟨_, Tryz.func170, by kernel_rfl, by kernel_rfl⟩
theorem call171 : Callable Tryz.prog 171 := ⟨_, Tryz.func171, by kernel_rfl, by kernel_rfl⟩
theorem call172 : Callable Tryz.prog 172 := ⟨_, Tryz.func172, by kernel_rfl, by kernel_rfl⟩
theorem call173 : Callable Tryz.prog 173 := ⟨_, Tryz.func173, by kernel_rfl, by kernel_rfl⟩
theorem call174 : Callable Tryz.prog 174 := ⟨_, Tryz.func174, by kernel_rfl, by kernel_rfl⟩
theorem call175 : Callable Tryz.prog 175 := ⟨_, Tryz.func175, by kernel_rfl, by kernel_rfl⟩
theorem call176 : Callable Tryz.prog 176 := ⟨_, Tryz.func176, by kernel_rfl, by kernel_rfl⟩
theorem call177 : Callable Tryz.prog 177 := ⟨_, Tryz.func177, by kernel_rfl, by kernel_rfl⟩
theorem call178 : Callable Tryz.prog 178 := ⟨_, Tryz.func178, by kernel_rfl, by kernel_rfl⟩
theorem call179 : Callable Tryz.prog 179 := ⟨_, Tryz.func179, by kernel_rfl, by kernel_rfl⟩
theorem call180 : Callable Tryz.prog 180 := ⟨_, Tryz.func180, by kernel_rfl, by kernel_rfl⟩
theorem call181 : Callable Tryz.prog 181 := ⟨_, Tryz.func181, by kernel_rfl, by kernel_rfl⟩
theorem call182 : Callable Tryz.prog 182 := ⟨_, Tryz.func182, by kernel_rfl, by kernel_rfl⟩
theorem call183 : Callable Tryz.prog 183 := ⟨_, Tryz.func183, by kernel_rfl, by kernel_rfl⟩
theorem call184 : Callable Tryz.prog 184 := ⟨_, Tryz.func184, by kernel_rfl, by kernel_rfl⟩
theorem tyL_ok : ∀ x ∈ tyL, x.2.ok Tryz.prog x.1 := by
  unfold tyL
  refine List.forall_mem_cons.2 ⟨ti3_ok, ?_⟩
  refine List.forall_mem_cons.2 ⟨ti4_ok, ?_⟩
  refine List.forall_mem_cons.2 ⟨ti5_ok, ?_⟩
  refine List.forall_mem_cons.2 ⟨ti9_ok, ?_⟩
  refine List.forall_mem_cons.2 ⟨ti22_ok, ?_⟩
  refine List.forall_mem_cons.2 ⟨ti25_ok, ?_⟩
  refine List.forall_mem_cons.2 ⟨ti26_ok, ?_⟩
  refine List.forall_mem_cons.2 ⟨ti28_ok, ?_⟩
  refine List.forall_mem_cons.2 ⟨ti29_ok, ?_⟩
  refine List.forall_mem_cons.2 ⟨ti32_ok, ?_⟩
  refine List.forall_mem_cons.2 ⟨ti33_ok, ?_⟩
  refine List.forall_mem_cons.2 ⟨ti35_ok, ?_⟩
  refine List.forall_mem_cons.2 ⟨ti36_ok, ?_⟩
  refine List.forall_mem_cons.2 ⟨ti38_ok, ?_⟩
  refine List.forall_mem_cons.2 ⟨ti40_ok, ?_⟩
  refine List.forall_mem_cons.2 ⟨ti45_ok, ?_⟩
  refine List.forall_mem_cons.2 ⟨ti47_ok, ?_⟩
  refine List.forall_mem_cons.2 ⟨ti49_ok, ?_⟩
  refine List.forall_mem_cons.2 ⟨ti55_ok, ?_⟩
  refine List.forall_mem_cons.2 ⟨ti57_ok, ?_⟩
  refine List.forall_mem_cons.2 ⟨ti61_ok, ?_⟩
  refine List.forall_mem_cons.2 ⟨ti62_ok, ?_⟩
  refine List.forall_mem_cons.2 ⟨ti64_ok, ?_⟩
  refine List.forall_mem_cons.2 ⟨ti66_ok, ?_⟩
  refine List.forall_mem_cons.2 ⟨ti71_ok, ?_⟩
  refine List.forall_mem_cons.2 ⟨ti74_ok, ?_⟩
  refine List.forall_mem_cons.2 ⟨ti81_ok, ?_⟩
  refine List.forall_mem_cons.2 ⟨ti85_ok, ?_⟩
  refine List.forall_mem_cons.2 ⟨ti89_ok, ?_⟩
  refine List.forall_mem_cons.2 ⟨ti90_ok, ?_⟩
  refine List.forall_mem_cons.2 ⟨ti92_ok, ?_⟩
  refine List.forall_mem_cons.2 ⟨ti94_ok, ?_⟩
  refine List.forall_mem_cons.2 ⟨ti95_ok, ?_⟩
  refine List.forall_mem_cons.2 ⟨ti97_ok, ?_⟩
  refine List.forall_mem_cons.2 ⟨ti98_ok, ?_⟩
  refine List.forall_mem_cons.2 ⟨ti103_ok, ?_⟩
  refine List.forall_mem_cons.2 ⟨ti107_ok, ?_⟩
  refine List.forall_mem_cons.2 ⟨ti119_ok, ?_⟩
  refine List.forall_mem_cons.2 ⟨ti123_ok, ?_⟩
  refine List.forall_mem_cons.2 ⟨ti125_ok, ?_⟩
  refine List.forall_mem_cons.2 ⟨ti126_ok, ?_⟩
  refine List.forall_mem_cons.2 ⟨ti128_ok, ?_⟩
  refine List.forall_mem_cons.2 ⟨ti141_ok, ?_⟩
  refine List.forall_mem_cons.2 ⟨ti145_ok, ?_⟩
  refine List.forall_mem_cons.2 ⟨ti174_ok, ?_⟩
  refine List.forall_mem_cons.2 ⟨ti176_ok, ?_⟩
  refine List.forall_mem_cons.2 ⟨ti178_ok, ?_⟩
  refine List.forall_mem_cons.2 ⟨ti182_ok, ?_⟩
  refine List.forall_mem_cons.2 ⟨ti187_ok, ?_⟩
  refine List.forall_mem_cons.2 ⟨ti188_ok, ?_⟩
  refine List.forall_mem_cons.2 ⟨ti189_ok, ?_⟩
  refine List.forall_mem_cons.2 ⟨ti192_ok, ?_⟩
  refine List.forall_mem_cons.2 ⟨ti193_ok, ?_⟩
  refine List.forall_mem_cons.2 ⟨ti196_ok, ?_⟩
  refine List.forall_mem_cons.2 ⟨ti203_ok, ?_⟩
  refine List.forall_mem_cons.2 ⟨ti207_ok, ?_⟩
  refine List.forall_mem_cons.2 ⟨ti208_ok, ?_⟩
  refine List.forall_mem_cons.2 ⟨ti217_ok, ?_⟩
  refine List.forall_mem_cons.2 ⟨ti219_ok, ?_⟩
  refine List.forall_mem_cons.2 ⟨ti226_ok, ?_⟩
  refine List.forall_mem_cons.2 ⟨ti232_ok, ?_⟩
  refine List.forall_mem_cons.2 ⟨ti238_ok, ?_⟩
  exact nofun
theorem resL_ok : ∀ x ∈ resL, Callable Tryz.prog x.1 := by
  unfold resL
  refine List.forall_mem_cons.2 ⟨call3, ?_⟩
  refine List.forall_mem_cons.2 ⟨call4, ?_⟩
  refine List.forall_mem_cons.2 ⟨call5, ?_⟩
  refine List.forall_mem_cons.2 ⟨call6, ?_⟩
  refine List.forall_mem_cons.2 ⟨call7, ?_⟩
  refine List.forall_mem_cons.2 ⟨call8, ?_⟩
  refine List.forall_mem_cons.2 ⟨call9, ?_⟩
  refine List.forall_mem_cons.2 ⟨call10, ?_⟩
  refine List.forall_mem_cons.2 ⟨call11, ?_⟩
  refine List.forall_mem_cons.2 ⟨call12, ?_⟩
  refine List.forall_mem_cons.2 ⟨call13, ?_⟩
  refine List.forall_mem_cons.2 ⟨call14, ?_⟩
  refine List.forall_mem_cons.2 ⟨call15, ?_⟩
  refine List.forall_mem_cons.2 ⟨call16, ?_⟩
  refine List.forall_mem_cons.2 ⟨call17, ?_⟩
  refine List.forall_mem_cons.2 ⟨call18, ?_⟩
  refine List.forall_mem_cons.2 ⟨call19, ?_⟩
  refine List.forall_mem_cons.2 ⟨call20, ?_⟩
  refine List.forall_mem_cons.2 ⟨call21, ?_⟩
  refine List.forall_mem_cons.2 ⟨call22, ?_⟩
  refine List.forall_mem_cons.2 ⟨call23, ?_⟩
  refine List.forall_mem_cons.2 ⟨call24, ?_⟩
  refine List.forall_mem_cons.2 ⟨call25, ?_⟩
  refine List.forall_mem_cons.2 ⟨call26, ?_⟩
  refine List.forall_mem_cons.2 ⟨call27, ?_⟩
  refine List.forall_mem_cons.2 ⟨call28, ?_⟩
  refine List.forall_mem_cons.2 ⟨call29, ?_⟩
  refine List.forall_mem_cons.2 ⟨call30, ?_⟩
  refine List.forall_mem_cons.2 ⟨call31, ?_⟩
  refine List.forall_mem_cons.2 ⟨call32, ?_⟩
  refine List.forall_mem_cons.2 ⟨call33, ?_⟩
  refine List.forall_mem_cons.2 ⟨call34, ?_⟩
  refine List.forall_mem_cons.2 ⟨call35, ?_⟩
  refine List.forall_mem_cons.2 ⟨call36, ?_⟩
  refine List.forall_mem_cons.2 ⟨call37, ?_⟩
  refine List.forall_mem_cons.2 ⟨call38, ?_⟩
  refine List.forall_mem_cons.2 ⟨call39, ?_⟩
  refine List.forall_mem_cons.2 ⟨call40, ?_⟩
  refine List.forall_mem_cons.2 ⟨call41, ?_⟩
  refine List.forall_mem_cons.2 ⟨call42, ?_⟩
  refine List.forall_mem_cons.2 ⟨call43, ?_⟩
  refine List.forall_mem_cons.2 ⟨call44, ?_⟩
  refine List.forall_mem_cons.2 ⟨call45, ?_⟩
  refine List.forall_mem_cons.2 ⟨call46, ?_⟩
  refine List.forall_mem_cons.2 ⟨call47, ?_⟩
  refine List.forall_mem_cons.2 ⟨call48, ?_⟩
  refine List.forall_mem_cons.2 ⟨call49, ?_⟩
  refine List.forall_mem_cons.2 ⟨call50, ?_⟩
  refine List.forall_mem_cons.2 ⟨call51, ?_⟩
  refine List.forall_mem_cons.2 ⟨call52, ?_⟩
  refine List.forall_mem_cons.2 ⟨call53, ?_⟩
  refine List.forall_mem_cons.2 ⟨call54, ?_⟩
  refine List.forall_mem_cons.2 ⟨call55, ?_⟩
  refine List.forall_mem_cons.2 ⟨call56, ?_⟩
  refine List.forall_mem_cons.2 ⟨call57, ?_⟩
  refine List.forall_mem_cons.2 ⟨call58, ?_⟩
  refine List.forall_mem_cons.2 ⟨call59, ?_⟩
  refine List.forall_mem_cons.2 ⟨call60, ?_⟩
  refine List.forall_mem_cons.2 ⟨call61, ?_⟩
  refine List.forall_mem_cons.2 ⟨call62, ?_⟩
  refine List.forall_mem_cons.2 ⟨call63, ?_⟩
  refine List.forall_mem_cons.2 ⟨call64, ?_⟩
  refine List.forall_mem_cons.2 ⟨call65, ?_⟩
  refine List.forall_mem_cons.2 ⟨call66, ?_⟩
  refine List.forall_mem_cons.2 ⟨call67, ?_⟩
  refine List.forall_mem_cons.2 ⟨call68, ?_⟩
  refine List.forall_mem_cons.2 ⟨call69, ?_⟩
  refine List.forall_mem_cons.2 ⟨call70, ?_⟩
  refine List.forall_mem_cons.2 ⟨call71, ?_⟩
  refine List.forall_mem_cons.2 ⟨call72, ?_⟩
  refine List.forall_mem_cons.2 ⟨call73, ?_⟩
  refine List.forall_mem_cons.2 ⟨call74, ?_⟩
  refine List.forall_mem_cons.2 ⟨call75, ?_⟩
  refine List.forall_mem_cons.2 ⟨call76, ?_⟩
  refine List.forall_mem_cons.2 ⟨call77, ?_⟩
  refine List.forall_mem_cons.2 ⟨call78, ?_⟩
  refine List.forall_mem_cons.2 ⟨call79, ?_⟩
  refine List.forall_mem_cons.2 ⟨call80, ?_⟩
  refine List.forall_mem_cons.2 ⟨call81, ?_⟩
  refine List.forall_mem_cons.2 ⟨call82, ?_⟩
  refine List.forall_mem_cons.2 ⟨call83, ?_⟩
  refine List.forall_mem_cons.2 ⟨call84, ?_⟩
  refine List.forall_mem_cons.2 ⟨call85, ?_⟩
  refine List.forall_mem_cons.2 ⟨call86, ?_⟩
  refine List.forall_mem_cons.2 ⟨call87, ?_⟩
  refine List.forall_mem_cons.2 ⟨call88, ?_⟩
  refine List.forall_mem_cons.2 ⟨call89, ?_⟩
  refine List.forall_mem_cons.2 ⟨call90, ?_⟩
  refine List.forall_mem_cons.2 ⟨call91, ?_⟩
  refine List.forall_mem_cons.2 ⟨call92, ?_⟩
  refine List.forall_mem_cons.2 ⟨call93, ?_⟩
  refine List.forall_mem_cons.2 ⟨call94, ?_⟩
  refine List.forall_mem_cons.2 ⟨call95, ?_⟩
  refine List.forall_mem_cons.2 ⟨call96, ?_⟩
  refine List.forall_mem_cons.2 ⟨call97, ?_⟩
  refine List.forall_mem_cons.2 ⟨call98, ?_⟩
  refine List.forall_mem_cons.2 ⟨call99, ?_⟩
  refine List.forall_mem_cons.2 ⟨call100, ?_⟩
  refine List.forall_mem_cons.2 ⟨call101, ?_⟩
  refine List.forall_mem_cons.2 ⟨call102, ?_⟩
  refine List.forall_mem_cons.2 ⟨call103, ?_⟩
  refine List.forall_mem_cons.2 ⟨call104, ?_⟩
  refine List.forall_mem_cons.2 ⟨call105, ?_⟩
  refine List.forall_mem_cons.2 ⟨call106, ?_⟩
  refine List.forall_mem_cons.2 ⟨call107, ?_⟩
  refine List.forall_mem_cons.2 ⟨call108, ?_⟩
  refine List.forall_mem_cons.2 ⟨call109, ?_⟩
  refine List.forall_mem_cons.2 ⟨call110, ?_⟩
  refine List.forall_mem_cons.2 ⟨call111, ?_⟩
  refine List.forall_mem_cons.2 ⟨call112, ?_⟩
  refine List.forall_mem_cons.2 ⟨call113, ?_⟩
  refine List.forall_mem_cons.2 ⟨call114, ?_⟩
  refine List.forall_mem_cons.2 ⟨call115, ?_⟩
  refine List.forall_mem_cons.2 ⟨call116, ?_⟩
  refine List.forall_mem_cons.2 ⟨call117, ?_⟩
  refine List.forall_mem_cons.2 ⟨call118, ?_⟩
  refine List.forall_mem_cons.2 ⟨call119, ?_⟩
  refine List.forall_mem_cons.2 ⟨call120, ?_⟩
  refine List.forall_mem_cons.2 ⟨call121, ?_⟩
  refine List.forall_mem_cons.2 ⟨call122, ?_⟩
  refine List.forall_mem_cons.2 ⟨call123, ?_⟩
  refine List.forall_mem_cons.2 ⟨call124, ?_⟩
  refine List.forall_mem_cons.2 ⟨call125, ?_⟩
  refine List.forall_mem_cons.2 ⟨call126, ?_⟩
  refine List.forall_mem_cons.2 ⟨call127, ?_⟩
  refine List.forall_mem_cons.2 ⟨call128, ?_⟩
  refine List.forall_mem_cons.2 ⟨call129, ?_⟩
  refine List.forall_mem_cons.2 ⟨call130, ?_⟩
  refine List.forall_mem_cons.2 ⟨call131, ?_⟩
  refine List.forall_mem_cons.2 ⟨call132, ?_⟩
  refine List.forall_mem_cons.2 ⟨call133, ?_⟩
  refine List.forall_mem_cons.2 ⟨call134, ?_⟩
  refine List.forall_mem_cons.2 ⟨call135, ?_⟩
  refine List.forall_mem_cons.2 ⟨call136, ?_⟩
  refine List.forall_mem_cons.2 ⟨call137, ?_⟩
  refine List.forall_mem_cons.2 ⟨call138, ?_⟩
  refine List.forall_mem_cons.2 ⟨call139, ?_⟩
  refine List.forall_mem_cons.2 ⟨call140, ?_⟩
  refine List.forall_mem_cons.2 ⟨call141, ?_⟩
  refine List.forall_mem_cons.2 ⟨call142, ?_⟩
  refine List.forall_mem_cons.2 ⟨call143, ?_⟩
  refine List.forall_mem_cons.2 ⟨call144, ?_⟩
  refine List.forall_mem_cons.2 ⟨call145, ?_⟩
  refine List.forall_mem_cons.2 ⟨call146, ?_⟩
  refine List.forall_mem_cons.2 ⟨call147, ?_⟩
  refine List.forall_mem_cons.2 ⟨call148, ?_⟩
  refine List.forall_mem_cons.2 ⟨call149, ?_⟩
  refine List.forall_mem_cons.2 ⟨call150, ?_⟩
  refine List.forall_mem_cons.2 ⟨call151, ?_⟩
  refine List.forall_mem_cons.2 ⟨call152, ?_⟩
  refine List.forall_mem_cons.2 ⟨call153, ?_⟩
  refine List.forall_mem_cons.2 ⟨call154, ?_⟩
  refine List.forall_mem_cons.2 ⟨call155, ?_⟩
  refine List.forall_mem_cons.2 ⟨call156, ?_⟩
  refine List.forall_mem_cons.2 ⟨call157, ?_⟩
  refine List.forall_mem_cons.2 ⟨call158, ?_⟩
  refine List.forall_mem_cons.2 ⟨call159, ?_⟩
  refine List.forall_mem_cons.2 ⟨call160, ?_⟩
  refine List.forall_mem_cons.2 ⟨call161, ?_⟩
  refine List.forall_mem_cons.2 ⟨call162, ?_⟩
  refine List.forall_mem_cons.2 ⟨call163, ?_⟩
  refine List.forall_mem_cons.2 ⟨call164, ?_⟩
  refine List.forall_mem_cons.2 ⟨call165, ?_⟩
  refine List.forall_mem_cons.2 ⟨call166, ?_⟩
  refine List.forall_mem_cons.2 ⟨call167, ?_⟩
  refine List.forall_mem_cons.2 ⟨call168, ?_⟩
  refine List.forall_mem_cons.2 ⟨call169, ?_⟩
  refine List.forall_mem_cons.2 ⟨call170, ?_⟩
  refine List.forall_mem_cons.2 ⟨call171, ?_⟩
  refine List.forall_mem_cons.2 ⟨call172, ?_⟩
  refine List.forall_mem_cons.2 ⟨call173, ?_⟩
  refine List.forall_mem_cons.2 ⟨call174, ?_⟩
  refine List.forall_mem_cons.2 ⟨call175, ?_⟩
  refine List.forall_mem_cons.2 ⟨call176, ?_⟩
  refine List.forall_mem_cons.2 ⟨call177, ?_⟩
  refine List.forall_mem_cons.2 ⟨call178, ?_⟩
  refine List.forall_mem_cons.2 ⟨call179, ?_⟩
  refine List.forall_mem_cons.2 ⟨call180, ?_⟩
  refine List.forall_mem_cons.2 ⟨call181, ?_⟩
  refine List.forall_mem_cons.2 ⟨call182, ?_⟩
  refine List.forall_mem_cons.2 ⟨call183, ?_⟩
  refine List.forall_mem_cons.2 ⟨call184, ?_⟩
  exact nofun
theorem tabOk : TabOk Tryz.prog tab := TabOk.mk' tyL_ok resL_ok
theorem mixed : Tryz.prog.follows .mixedOrders = true := by kernel_rfl
end Go.Sx.Tryz
namespace Go.Sx.Tryz
open Go Go.Sx Go.Proofs
set_option maxRecDepth 100000
set_option linter.unusedVariables false
noncomputable def c123 : Code := (Tryz.f123.body).getD .skip
def a123 : Ann := (.seq (.inn (.loop [(1, .one (.i .u64))] (.seq (.seq .leaf (.br .leaf .leaf)) (.seq (.inn .leaf) .leaf)))) .leaf)
theorem ok123 : okC tab 31 true c123 a123 = true := by kernel_rfl
theorem vc123 (w_b w_o : Nat) (n_ : Int) (h : Heap) (R : Value → Heap → Prop)
  (hv : ∃ (I1 : Int → Heap → Prop) (mu1 : Int → Heap → Nat), I1 n_ h ∧ (∀ n1 : Int, ∀ h1, I1 n1 h1 → ∀ _ : Env,
   CondP (decide ((n1 : Int) ≥ 128)) (
   ∃ x1 : Sl, cellH h1 w_b w_o = some (.slice x1.a x1.l x1.c) ∧
   ∀ b1 h2, Fresh h1 (.cells #[.int .u8 (bOr .u8 (IntKind.u8.wrap n1) 128)] 5) b1 h2 →
   RunK Tryz.prog (.sl) (Builtin.append_ #[33, 33] 33 #[.slice x1.a x1.l x1.c, .slice (some ⟨b1, 0, none⟩) 1 1]) h2 (fun x2 h3 =>
   CanSt h3 w_b w_o [.slice x2.a x2.l x2.c] ∧ ∀ h4, Stored h3 w_b w_o [.slice x2.a x2.l x2.c] h4 →
   (0 : Int) ≤ 7 ∧
   I1 (shrV .u64 n1 7) h4 ∧ mu1 (shrV .u64 n1 7) h4 < mu1 n1 h1)) (
   ∃ x3 : Sl, cellH h1 w_b w_o = some (.slice x3.a x3.l x3.c) ∧
   ∀ b2 h5, Fresh h1 (.cells #[.int .u8 (IntKind.u8.wrap n1)] 5) b2 h5 →
   RunK Tryz.prog (.sl) (Builtin.append_ #[33, 33] 33 #[.slice x3.a x3.l x3.c, .slice (some ⟨b2, 0, none⟩) 1 1]) h5 (fun x4 h6 =>
   CanSt h6 w_b w_o [.slice x4.a x4.l x4.c] ∧ ∀ h7, Stored h6 w_b w_o [.slice x4.a x4.l x4.c] h7 →
   R (.tuple #[]) h7)))) :
  CallsH Tryz.prog 123 #[.pointer (some ⟨w_b, w_o, none⟩), .int .u64 n_] h R :=
  calls_of_vc tabOk mixed Tryz.func123 (c := c123) (by kernel_rfl) (n := 31) rfl (rs := []) (by kernel_rfl) ok123 (args := [.pointer (some ⟨w_b, w_o, none⟩), .int .u64 n_]) (Nat.le_of_ble_eq_true rfl) (Eq.mpr (by kernel_rfl) hv)
end Go.Sx.Tryz
namespace Go.Sx.Tryz
open Go Go.Sx Go.Proofs
set_option maxRecDepth 100000
set_option linter.unusedVariables false
noncomputable def c80 : Code := (Tryz.f80.body).getD .skip
def a80 : Ann := (.seq .leaf (.inn (.loop [(7, .one (.i .i64))] (.seq .leaf (.seq (.br .leaf .leaf) (.seq (.inn (.seq .leaf (.seq .leaf (.br .leaf .leaf)))) .leaf))))))
theorem ok80 : okC tab 19 true c80 a80 = true := by kernel_rfl
theorem vc80 (w_b w_o : Nat) (l_ : Sl) (h : Heap) (R : Value → Heap → Prop)
  (hv : ∃ (I1 : Int → Heap → Prop) (mu1 : Int → Heap → Nat), I1 0 h ∧ (∀ n1 : Int, ∀ h1, I1 n1 h1 → ∀ _ : Env,
   CondP (decide ((n1 : Int) < ((l_.l : Nat) : Int))) (
   ((0 : Int) ≤ n1 ∧ (n1 : Int) < ((l_.l : Nat) : Int)) ∧
   NilP l_.a (fun b1 o1 =>
   ∃ n2 : Int, cellH h1 b1 (o1 + n1.toNat) = some (.int .u64 n2) ∧
   CallsH Tryz.prog 123 #[.pointer (some ⟨w_b, w_o, none⟩), .int .u64 n2] h1 (fun r1 h2 => r1 = .tuple #[] ∧
   I1 (IntKind.i64.wrap (n1 + 1)) h2 ∧ mu1 (IntKind.i64.wrap (n1 + 1)) h2 < mu1 n1 h1))) (
   R (.tuple #[]) h1))) :
  CallsH Tryz.prog 80 #[.pointer (some ⟨w_b, w_o, none⟩), .slice l_.a l_.l l_.c] h R :=
  calls_of_vc tabOk mixed Tryz.func80 (c := c80) (by kernel_rfl) (n := 19) rfl (rs := []) (by kernel_rfl) ok80 (args := [.pointer (some ⟨w_b, w_o, none⟩), .slice l_.a l_.l l_.c]) (Nat.le_of_ble_eq_true rfl) (Eq.mpr (by kernel_rfl) hv)
end Go.Sx.Tryz
namespace Go.Sx.Tryz
open Go Go.Sx Go.Proofs
set_option maxRecDepth 100000
set_option linter.unusedVariables false
noncomputable def c81 : Code := (Tryz.f81.body).getD .skip
def a81 : Ann := (.seq .leaf (.br (.seq .leaf .leaf) .leaf))
theorem ok81 : okC tab 20 true c81 a81 = true := by kernel_rfl
theorem vc81 (w_b w_o : Nat) (s_ : ByteArray) (h : Heap) (R : Value → Heap → Prop)
  (hv : CallsH Tryz.prog 123 #[.pointer (some ⟨w_b, w_o, none⟩), .int .u64 (IntKind.u64.wrap ((s_.size : Nat) : Int))] h (fun r1 h1 => r1 = .tuple #[] ∧
   ∃ x1 : Sl, cellH h1 w_b w_o = some (.slice x1.a x1.l x1.c) ∧
   RunK Tryz.prog (.sl) (Builtin.append_ #[33, 9] 33 #[.slice x1.a x1.l x1.c, .string s_]) h1 (fun x2 h2 =>
   CanSt h2 w_b w_o [.slice x2.a x2.l x2.c] ∧ ∀ h3, Stored h2 w_b w_o [.slice x2.a x2.l x2.c] h3 →
   R (.tuple #[]) h3))) :
  CallsH Tryz.prog 81 #[.pointer (some ⟨w_b, w_o, none⟩), .string s_] h R :=
  calls_of_vc tabOk mixed Tryz.func81 (c := c81) (by kernel_rfl) (n := 20) rfl (rs := []) (by kernel_rfl) ok81 (args := [.pointer (some ⟨w_b, w_o, none⟩), .string s_]) (Nat.le_of_ble_eq_true rfl) (Eq.mpr (by kernel_rfl) hv)
end Go.Sx.Tryz
namespace Go.Sx.Tryz
open Go Go.Sx Go.Proofs
set_option maxRecDepth 100000
set_option linter.unusedVariables false
noncomputable def c83 : Code := (Tryz.f83.body).getD .skip
def a83 : Ann := (.seq .leaf (.seq (.seq .leaf (.br (.seq .leaf .leaf) .leaf)) (.seq .leaf .leaf)))
theorem ok83 : okC tab 10 true c83 a83 = true := by kernel_rfl
theorem vc83 (w_b w_o : Nat) (h : Heap) (R : Value → Heap → Prop)
  (hv : ∃ x1 : Sl, cellH h w_b w_o = some (.slice x1.a x1.l x1.c) ∧
   RunK Tryz.prog (.sl) (Builtin.append_ #[33, 33] 33 #[.slice none 0 0, .slice x1.a x1.l x1.c]) h (fun x2 h1 =>
   R (.slice x2.a x2.l x2.c) h1)) :
  CallsH Tryz.prog 83 #[.pointer (some ⟨w_b, w_o, none⟩)] h R :=
  calls_of_vc tabOk mixed Tryz.func83 (c := c83) (by kernel_rfl) (n := 10) rfl (rs := [.tmp 2]) (by kernel_rfl) ok83 (args := [.pointer (some ⟨w_b, w_o, none⟩)]) (Nat.le_of_ble_eq_true rfl) (Eq.mpr (by kernel_rfl) hv)
end Go.Sx.Tryz
namespace Go.Sx.Tryz
open Go Go.Sx Go.Proofs
set_option maxRecDepth 100000
set_option linter.unusedVariables false
noncomputable def c104 : Code := (Tryz.f104.body).getD .skip
def a104 : Ann := (.seq (.seq .leaf (.br (.seq .leaf .leaf) .leaf)) .leaf)
theorem ok104 : okC tab 11 true c104 a104 = true := by kernel_rfl
theorem vc104 (w_b w_o : Nat) (is_ : Bool) (h : Heap) (R : Value → Heap → Prop)
  (hv : CondP is_ (
   ∀ b1 h1, Fresh h (.cells #[.int .u64 1] 32) b1 h1 →
   CallsH Tryz.prog 80 #[.pointer (some ⟨w_b, w_o, none⟩), .slice (some ⟨b1, 0, none⟩) 1 1] h1 (fun r1 h2 => r1 = .tuple #[] ∧
   R (.tuple #[]) h2)) (
   ∀ b2 h3, Fresh h (.cells #[.int .u64 0] 32) b2 h3 →
   CallsH Tryz.prog 80 #[.pointer (some ⟨w_b, w_o, none⟩), .slice (some ⟨b2, 0, none⟩) 1 1] h3 (fun r2 h4 => r2 = .tuple #[] ∧
   R (.tuple #[]) h4))) :
  CallsH Tryz.prog 104 #[.pointer (some ⟨w_b, w_o, none⟩), .bool is_] h R :=
  calls_of_vc tabOk mixed Tryz.func104 (c := c104) (by kernel_rfl) (n := 11) rfl (rs := []) (by kernel_rfl) ok104 (args := [.pointer (some ⟨w_b, w_o, none⟩), .bool is_]) (Nat.le_of_ble_eq_true rfl) (Eq.mpr (by kernel_rfl) hv)
end Go.Sx.Tryz
namespace Go.Sx.Tryz
open Go Go.Sx Go.Proofs
set_option linter.unusedVariables false
theorem el33 : ElemOk Tryz.prog 33 5 1 1 := ElemOk.mk' (z := .int .u8 0) Tryz.underlying33 (by kernel_rfl) rfl (by decide)
def natB (n : Nat) : List UInt8 := if h : n < 128 then [UInt8.ofNat n] else UInt8.ofNat (n % 128 + 128) :: natB (n / 128)
termination_by n
decreasing_by omega
theorem natB_small {n : Nat} (h : n < 128) : natB n = [UInt8.ofNat n] := by rw [natB, dif_pos h]
theorem natB_big {n : Nat} (h : ¬ n < 128) : natB n = UInt8.ofNat (n % 128 + 128) :: natB (n / 128) := by rw [natB, dif_neg h]
theorem natB_len : ∀ (f n : Nat), n < 128 ^ f → 0 < f → (natB n).length ≤ f
  | 0, n, h, h0 => by omega
  | f + 1, n, h, _ => by
    by_cases hn : n < 128
    · rw [natB_small hn]; simp
    · rw [natB_big hn]
      have hf : 0 < f := by
        rcases Nat.eq_zero_or_pos f with e | e
        · subst e; simp at h; omega
        · exact e
      have := natB_len f (n / 128) (by rw [Nat.pow_succ] at h; omega) hf
      simp; omega
theorem natB_le {n : Nat} (h : n < 18446744073709551616) : (natB n).length ≤ 10 := natB_len 10 n (by omega) (by decide)
def wr (b : Nat) (xs : List UInt8) : Asn := exs fun v : Sl => st (lst b 145 [.slice v.a v.l v.c]) (own 5 1 v (bv xs))
theorem wr_shut {H : Heap} {S : PH} {R : List Asn} {b : Nat} {xs : List UInt8} {v : Sl} (hs : Sat H S (lst b 145 [.slice v.a v.l v.c] :: own 5 1 v (bv xs) :: R)) : Sat H S (wr b xs :: R) :=
  Sat.shut (A := fun v : Sl => st (lst b 145 [.slice v.a v.l v.c]) (own 5 1 v (bv xs))) v hs.mkst
theorem wr_push {H : Heap} {S : PH} {R : List Asn} {b : Nat} {xs : List UInt8} {c : UInt8} {x : Int} (hx : x = (c.toNat : Int)) (hs : Sat H S (wr b xs :: R)) (hlen : xs.length < 1099511627776) {K : Heap → Prop}
    (hk : ∀ H', Sat H' S (wr b (xs ++ [c]) :: R) → K H') :
    ∃ x1 : Sl, cellH H b 0 = some (.slice x1.a x1.l x1.c) ∧ ∀ b1 h2, Fresh H (.cells #[.int .u8 x] 5) b1 h2 →
      RunK Tryz.prog (.sl) (Builtin.append_ #[33, 33] 33 #[.slice x1.a x1.l x1.c, .slice (some ⟨b1, 0, none⟩) 1 1]) h2 (fun x2 h3 =>
        CanSt h3 b 0 [.slice x2.a x2.l x2.c] ∧ ∀ h4, Stored h3 b 0 [.slice x2.a x2.l x2.c] h4 → K h4) := by
  obtain ⟨v, hs⟩ := hs.open
  have hs := hs.unst
  refine ⟨v, hs.cell 0 rfl, fun b1 h2 hf => ?_⟩
  have hs2 := hs.fresh hf
  have hl := (own.len hs.swap).1
  rw [bv_len] at hl
  have e : Sat h2 S (lst b1 5 (bv [c]) :: own 5 1 v (bv xs) :: lst b 145 [.slice v.a v.l v.c] :: R) := by
    subst hx
    exact (hs2.pick 2 rfl).swap
  refine append_one el33 e (by simp [bv]) (bv_one _) (by omega) (by unfold maxLen; omega) fun v' H' hv' hs3 => ?_
  rw [← bv_append] at hs3
  exact hs3.swap.store (Nat.le_refl _) fun H4 hs4 => hk H4 (wr_shut hs4)
theorem nat_spec {H : Heap} {S : PH} {R : List Asn} {b n : Nat} {xs : List UInt8} (hs : Sat H S (wr b xs :: R)) (hn : n < 18446744073709551616) (hlen : xs.length < 1000000000000) {K : Value → Heap → Prop}
    (hk : ∀ H', Sat H' S (wr b (xs ++ natB n) :: R) → K (.tuple #[]) H') : CallsH Tryz.prog 123 #[.pointer (some ⟨b, 0, none⟩), .int .u64 n] H K := by
  apply vc123
  refine ⟨fun n1 h => ∃ (m : Nat) (ys : List UInt8), n1 = m ∧ m < 18446744073709551616 ∧ Sat h S (wr b ys :: R) ∧ ys ++ natB m = xs ++ natB n, fun n1 _ => n1.toNat, ⟨n, xs, rfl, hn, hs, rfl⟩, ?_⟩
  rintro n1 h1 ⟨m, ys, rfl, hm, hs, hy⟩ _
  have hlen' : ys.length < 1099511627776 := by
    have := congrArg List.length hy
    have h2 := natB_le hn
    simp at this
    omega
  refine CondP.of (fun hc => ?_) (fun hc => ?_)
  · have hc : 128 ≤ m := by simp at hc; omega
    refine wr_push (c := UInt8.ofNat (m % 128 + 128)) ?_ hs hlen' fun H' hs' => ⟨by decide, ⟨m / 128, _, shr_u64 m, by omega, hs', ?_⟩, ?_⟩
    · have := or128 ⟨m % 256, by omega⟩
      rw [w_u8, show ((m : Int) % 256) = ((m % 256 : Nat) : Int) by omega, this]
      simp
      omega
    · rw [natB_big (by omega)] at hy
      rw [← hy]; simp
    · show (shrV .u64 (m : Int) 7).toNat < (m : Int).toNat
      rw [shr_u64]; omega
  · have hc : m < 128 := by simp at hc; omega
    refine wr_push (c := UInt8.ofNat m) ?_ hs hlen' fun H' hs' => hk _ ?_
    · rw [w_u8]; simp
    · rw [natB_small hc] at hy
      rw [← hy]; exact hs'
def natsV (ns : List Nat) : List Value := ns.map fun (n : Nat) => .int .u64 (n : Int)
def nats (ns : List Nat) : List UInt8 := ns.flatMap natB
theorem nats_len : ∀ {ns : List Nat}, (∀ n ∈ ns, n < 18446744073709551616) → (nats ns).length ≤ ns.length * 10
  | [], _ => by simp [nats]
  | n :: ns, h => by
    have h1 := natB_le (h n (by simp))
    have h2 := nats_len (ns := ns) fun m hm => h m (by simp [hm])
    simp only [nats, List.flatMap_cons, List.length_append, List.length_cons] at *
    omega
theorem Nat_spec {H : Heap} {S : PH} {R : List Asn} {b bl : Nat} {ns : List Nat} {xs : List UInt8} (hs : Sat H S (lst bl 32 (natsV ns) :: wr b xs :: R)) (hn : ∀ n ∈ ns, n < 18446744073709551616) (hlen : xs.length < 10000000000) (hl2 : ns.length < 1000000)
    {m : Nat} (hm : m = ns.length) {K : Value → Heap → Prop} (hk : ∀ H', Sat H' S (wr b (xs ++ nats ns) :: R) → K (.tuple #[]) H') :
    CallsH Tryz.prog 80 #[.pointer (some ⟨b, 0, none⟩), .slice (some ⟨bl, 0, none⟩) m m] H K := by
  subst hm
  refine vc80 b 0 ⟨some ⟨bl, 0, none⟩, ns.length, ns.length⟩ H K ?_
  refine ⟨fun n1 h => ∃ k : Nat, n1 = k ∧ k ≤ ns.length ∧ Sat h S (lst bl 32 (natsV ns) :: wr b (xs ++ nats (ns.take k)) :: R), fun n1 _ => ns.length - n1.toNat, ⟨0, rfl, Nat.zero_le _, by simpa [nats] using hs⟩, ?_⟩
  rintro n1 h1 ⟨k, rfl, hk1, hs⟩ _
  refine CondP.of (fun hc => ?_) (fun hc => ?_)
  · have hc : k < ns.length := by simp at hc; omega
    refine ⟨⟨by omega, by simpa using hc⟩, ⟨(ns[k] : Int), hs.cell _ (by simp [natsV, hc]), ?_⟩⟩
    have h1 := nats_len (ns := ns.take k) fun m hm => hn m (List.mem_of_mem_take hm)
    rw [List.length_take] at h1
    refine nat_spec hs.swap (hn _ (List.getElem_mem _)) (by rw [List.length_append]; omega) fun H' hs' => ⟨rfl, ⟨k + 1, ?_, by omega, ?_⟩, ?_⟩
    · rw [i64_in (by omega) (by omega)]; norm_cast
    · rw [List.take_succ_eq_append_getElem hc]
      simp only [nats, List.flatMap_append, List.flatMap_cons, List.flatMap_nil, List.append_nil, ← List.append_assoc] at hs' ⊢
      exact hs'.swap
    · show ns.length - (IntKind.i64.wrap ((k : Int) + 1)).toNat < ns.length - (k : Int).toNat
      rw [i64_in (by omega) (by omega)]; omega
  · have hc : k = ns.length := by simp at hc; omega
    subst hc
    rw [List.take_length] at hs
    exact hk _ hs.drop
theorem Nat_new {H H1 : Heap} {S : PH} {R : List Asn} {b bl : Nat} {ns : List Nat} {xs : List UInt8} {cs : Array Value} (hf : Fresh H (.cells cs 32) bl H1) (hs : Sat H S (wr b xs :: R)) (hcs : cs.toList = natsV ns) (hn : ∀ n ∈ ns, n < 18446744073709551616) (hlen : xs.length < 10000000000) (hl2 : ns.length < 1000000)
    {m : Nat} (hm : m = ns.length) {K : Value → Heap → Prop} (hk : ∀ H', Sat H' S (wr b (xs ++ nats ns) :: R) → K (.tuple #[]) H') :
    CallsH Tryz.prog 80 #[.pointer (some ⟨b, 0, none⟩), .slice (some ⟨bl, 0, none⟩) m m] H1 K := by
  have h2 := hs.fresh hf
  obtain rfl : cs = (natsV ns).toArray := by rw [← hcs]
  exact Nat_spec h2 hn hlen hl2 hm hk
def flagB (t : Bool) : List UInt8 := natB (if t then 1 else 0)
theorem Flag_spec {H : Heap} {S : PH} {R : List Asn} {b : Nat} {t : Bool} {xs : List UInt8} (hs : Sat H S (wr b xs :: R)) (hlen : xs.length < 10000000000)
    {K : Value → Heap → Prop} (hk : ∀ H', Sat H' S (wr b (xs ++ flagB t) :: R) → K (.tuple #[]) H') :
    CallsH Tryz.prog 104 #[.pointer (some ⟨b, 0, none⟩), .bool t] H K := by
  apply vc104
  cases t
  · intro b1 h1 hf
    exact Nat_new hf hs (ns := [0]) rfl (by simp) hlen (by simp) rfl fun H' hs' => ⟨rfl, hk H' (by simpa [nats, flagB] using hs')⟩
  · intro b1 h1 hf
    exact Nat_new hf hs (ns := [1]) rfl (by simp) hlen (by simp) rfl fun H' hs' => ⟨rfl, hk H' (by simpa [nats, flagB] using hs')⟩
theorem i5z : ∃ i, Tryz.prog.info? 5 = some i ∧ i.zero = some (.int .u8 0) ∧ i.size = 1 ∧ i.bytes = 1 := info_parts (by kernel_rfl)
def textB (s : List UInt8) : List UInt8 := natB s.length ++ s
theorem size_data (s : ByteArray) : s.data.toList.length = s.size := by rw [Array.length_toList]; rfl
theorem Text_spec {H : Heap} {S : PH} {R : List Asn} {b : Nat} {s : ByteArray} {xs : List UInt8} (hs : Sat H S (wr b xs :: R)) (hlen : xs.length < 10000000000) (hl2 : s.size < 10000000000)
    {K : Value → Heap → Prop} (hk : ∀ H', Sat H' S (wr b (xs ++ textB s.data.toList) :: R) → K (.tuple #[]) H') :
    CallsH Tryz.prog 81 #[.pointer (some ⟨b, 0, none⟩), .string s] H K := by
  apply vc81
  rw [u64_in (by omega) (by omega)]
  refine nat_spec hs (by omega) (by omega) fun H1 hs1 => ⟨rfl, ?_⟩
  obtain ⟨v, hs1⟩ := hs1.open
  have hs1 := hs1.unst
  refine ⟨v, hs1.cell 0 rfl, ?_⟩
  have hl := (own.len hs1.swap).1
  have hb := natB_le (n := s.size) (by omega)
  rw [bv_len, List.length_append] at hl
  refine append_str el33 i5z Tryz.underlying9 hs1.swap (by omega) fun v' H2 hv' hs2 => ?_
  rw [← bv_append] at hs2
  refine hs2.swap.store (Nat.le_refl _) fun H3 hs3 => hk H3 ?_
  rw [textB, size_data, ← List.append_assoc]
  exact wr_shut hs3
def RdB (S : PH) (v : Sl) (xs : List UInt8) : Prop := Rd S v 1 (bv xs)
theorem RdB.mono {S S' : PH} {v : Sl} {xs : List UInt8} (h : RdB S v xs) (hs : PH.le S S') : RdB S' v xs := Rd.mono h hs
theorem RdB.len {S : PH} {v : Sl} {xs : List UInt8} (h : RdB S v xs) : v.l = xs.length := by have := h.1; rw [bv_len] at this; omega
theorem Bytes_spec {H : Heap} {S : PH} {R : List Asn} {b : Nat} {xs : List UInt8} (hs : Sat H S (wr b xs :: R)) (hlen : xs.length < 10000000000)
    {K : Value → Heap → Prop} (hk : ∀ v H' S', PH.le S S' → Sat H' S' (wr b xs :: R) → RdB S' v xs → K (.slice v.a v.l v.c) H') :
    CallsH Tryz.prog 83 #[.pointer (some ⟨b, 0, none⟩)] H K := by
  apply vc83
  obtain ⟨v, hs⟩ := hs.open
  have hs := hs.unst
  refine ⟨v, hs.cell 0 rfl, ?_⟩
  have hl := (own.len hs.swap).1
  rw [bv_len] at hl
  refine append_own el33 (v := ⟨none, 0, 0⟩) (own.new 5 1 hs) (news := bv xs) (by rw [bv_len]; exact hl) ?_ (bv_one _) (by simp; omega) (by simp [maxLen]; omega) fun v' H' hv' hs' => ?_
  · rcases Nat.eq_zero_or_pos xs.length with h0 | h0
    · left; omega
    · right
      obtain ⟨g, hg, hc⟩ := own.cells hs.swap (by rw [bv_len]; exact h0)
      exact ⟨g, 0, hg, hc⟩
  · obtain ⟨S', h1, h2, h3⟩ := own.fixd hs'
    exact hk v' H' S' h1 (wr_shut h3) (by simpa [RdB] using h2)
end Go.Sx.Tryz
namespace Go.Sx.Tryz
open Go Go.Sx Go.Proofs
set_option maxRecDepth 100000
set_option linter.unusedVariables false
noncomputable def c135 : Code := (Tryz.f135.body).getD .skip
def a135 : Ann := (.seq .leaf (.seq .leaf .leaf))
theorem ok135 : okC tab 6 true c135 a135 = true := by kernel_rfl
theorem vc135 (b_ : Sl) (h : Heap) (R : Value → Heap → Prop)
  (hv : ∀ b1 h1, Fresh h (.cells #[.slice b_.a b_.l b_.c, .bool false] 232) b1 h1 →
   R (.pointer (some ⟨b1, 0, none⟩)) h1) :
  CallsH Tryz.prog 135 #[.slice b_.a b_.l b_.c] h R :=
  calls_of_vc tabOk mixed Tryz.func135 (c := c135) (by kernel_rfl) (n := 6) rfl (rs := [.tmp 2]) (by kernel_rfl) ok135 (args := [.slice b_.a b_.l b_.c]) (Nat.le_of_ble_eq_true rfl) (Eq.mpr (by kernel_rfl) hv)
end Go.Sx.Tryz
