/-
  Part 5 of the proof: K12, V95, K13, K14, SxZ, V94, V127, V128, V129, V164, V165, V179, K15, V38, K16, K17, V10.
-/
import Derived.Test.YtegikhoholfcmaaGreatM04
import Derived.Lib.ConvBytes
import Derived.MapKept
namespace Go.Sx.Tryz
open Go Go.Sx Go.Proofs
set_option linter.unusedVariables false
section
variable {H H' : Heap} {S : PH} {R : List Asn}
theorem conv_bytes (hs : Sat H S R) {s : ByteArray} (hl : s.size < 1000000000) {K : Sl → Heap → Prop} (hk : ∀ (v : Sl) H' S', PH.le S S' → RdB S' v s.data.toList → Sat H' S' R → K v H') :
    RunK Tryz.prog .sl (convert 9 33 (.string s)) H K := by
  intro w hw
  have hr := Go.Lib.run_convert_string_bytes (P := Tryz.prog) w 9 33 5 s Tryz.underlying9 Tryz.underlying33 Tryz.underlying5
  have hge := grownCap_ge w s.size 0 5
  obtain ⟨o, ho⟩ : ∃ o, o = Obj.cells (Go.Lib.bytesCells w 5 s) 5 ((Go.Lib.bytesCells w 5 s).size, (Go.Lib.bytesCells w 5 s).size + 1) := ⟨_, rfl⟩
  have hheap : (Go.Lib.bytesWorld w 5 s).heap = H.push o := by
    subst hw
    apply Array.ext_getElem?
    intro j
    rcases Nat.lt_trichotomy j w.heap.size with h | h | h
    · rw [Go.Lib.bytesWorld_at_old w 5 s j h, Array.getElem?_push, if_neg (by omega)]
    · subst h
      rw [Go.Lib.bytesWorld_at_new, ho]; simp
    · rw [Array.getElem?_eq_none (by rw [Go.Lib.bytesWorld_size]; omega), Array.getElem?_eq_none (by simp; omega)]
  refine ⟨⟨some ⟨w.heap.size, 0, none⟩, s.size, grownCap w s.size 0 5⟩, _, hr, ?_, ?_⟩
  · have : SameW w (w.drew.alloc (.cells (Go.Lib.bytesCells w 5 s) 5)) := ⟨rfl, rfl, rfl⟩
    refine this.trans ?_
    unfold Go.Lib.bytesWorld World.freeze
    split <;> exact ⟨rfl, rfl, rfl⟩
  · rw [hheap]
    have hs1 : Sat (H.push o) S (blk H.size o :: R) := hs.fresh ⟨rfl, rfl⟩
    obtain ⟨S', q1, q2, q3⟩ := hs1.fixd
    refine hk _ _ S' q1 ⟨?_, hge, .inr ⟨H.size, 0, _, _, _, by rw [hw], by rw [q2, ho], fun j x hx => ?_⟩⟩ q3
    · rw [bv_len, size_data, Nat.mul_one]
    · unfold Go.Lib.bytesCells
      have hj : j < s.size := by
        have := (List.getElem?_eq_some_iff.1 hx).1
        rw [bv_len, size_data] at this; exact this
      have hj' : j < s.data.size := hj
      rw [Nat.zero_add, Array.getElem?_append_left (by simpa using hj')]
      simp only [bv, List.getElem?_map, Array.getElem?_toList] at hx
      simpa using hx
def idxV (o : Option Nat) : Int := match o with | some i => i | none => -1
theorem index_spec {v : Sl} {es : List EB} {f : Value} {p : EB → Bool} (hs : Sat H S (ownE v es :: R)) (hlen : es.length < 1000000000)
    (hf : ∀ x ∈ es, ∀ h (K : Value → Heap → Prop), Sat h S (ownE v es :: R) → (∀ h', Sat h' S (ownE v es :: R) → K (.bool (p x)) h') → CallV Tryz.prog f [.agg (eV x).toArray] h K)
    {K : Value → Heap → Prop} (hK : ∀ h', Sat h' S (ownE v es :: R) → K (.int .i64 (idxV (es.findIdx? p))) h') : CallsH Tryz.prog 75 #[.slice v.a v.l v.c, f] H K := by
  apply vc75
  obtain ⟨hl, _⟩ := ownE.len hs
  refine ⟨fun n h => ∃ i : Nat, n = i ∧ i ≤ es.length ∧ (∀ j (hj : j < es.length), j < i → p es[j] = false) ∧ Sat h S (ownE v es :: R), fun n _ => es.length - n.toNat, ⟨0, rfl, Nat.zero_le _, fun j _ h => by omega, hs⟩, ?_⟩
  rintro n h1 ⟨i, rfl, hi, hp, hs1⟩ _
  refine CondP.of (fun hc => ?_) (fun hc => ?_)
  · have hc : i < es.length := by simp at hc; omega
    refine ⟨⟨by omega, by omega⟩, ?_⟩
    obtain ⟨g, ga, gc⟩ := ownE.at hs1 hc
    refine NilP.of ga ⟨_, _, _, gc, ?_⟩
    refine hf es[i] (List.getElem_mem hc) h1 _ hs1 fun h2 hs2 => ⟨_, rfl, CondP.of (fun ht => ?_) (fun ht => ?_)⟩
    · have := hK h2 hs2
      rw [List.findIdx?_eq_some_iff_getElem.2 ⟨hc, ht, fun j hj => by rw [hp j (by omega) hj]; simp⟩] at this
      exact this
    · refine ⟨⟨i + 1, i64_succ (by omega), hc, fun j hj hji => ?_, hs2⟩, ?_⟩
      · rcases Nat.lt_or_ge j i with h | h
        · exact hp j hj h
        · have : j = i := by omega
          subst this; exact ht
      · show es.length - (IntKind.i64.wrap ((i : Int) + 1)).toNat < es.length - i
        rw [i64_succ (by omega)]; show es.length - (i + 1) < _; omega
  · have hc : i = es.length := by simp at hc; omega
    subst hc
    have := hK h1 hs1
    rw [List.findIdx?_eq_none_iff.2 fun x hx => by
      obtain ⟨j, hj, rfl⟩ := List.getElem_of_mem hx
      exact hp j hj hj] at this
    exact this
theorem cloneE_spec {v : Sl} {es : List EB} (hs : Sat H S R) (hr : v.l = es.length ∧ (v.l = 0 ∨ ∃ b o, v.a = some ⟨b, o, none⟩ ∧ CellsAt H b o (entV es))) (hlen : es.length < 1000000000)
    {K : Value → Heap → Prop} (hk : ∀ (v' : Sl) H', Sat H' S (ownE v' es :: R) → K (.slice v'.a v'.l v'.c) H') : CallsH Tryz.prog 89 #[.slice v.a v.l v.c] H K := by
  apply vc89
  obtain ⟨hl, hr⟩ := hr
  refine CondP.of (fun hc => ?_) (fun hc => ?_)
  · have h0 : v.l = 0 := by
      rcases hr with h | ⟨b, o, h, _⟩
      · exact h
      · rw [h] at hc; cases hc
    have hx : es = [] := List.eq_nil_of_length_eq_zero (by omega)
    subst hx
    exact hk ⟨none, 0, 0⟩ H (own.new 85 3 hs)
  · intro b1 h1 hf
    have hs1 : Sat h1 S (lst b1 85 [] :: R) := hs.fresh hf
    have hs2 := own.ofLst (sz := 3) (n := 0) (c := 0) (xs := []) hs1 rfl (Nat.le_refl _) (by decide) rfl
    refine append_own el81 (v := ⟨some ⟨b1, 0, none⟩, 0, 0⟩) hs2 (m := v.l) (c := v.c) (news := entV es) (by rw [entV_len]; omega) ?_ (entV_one es) (by show (0 + v.l) * 40 ≤ _; omega) (by show 0 + v.l ≤ maxLen; unfold maxLen; omega) fun v' H' hv' hs' => hk v' H' hs'
    rcases hr with h | ⟨b, o, ha, hc⟩
    · exact .inl h
    · exact .inr ⟨b, o, ha, CellsAt.fresh hf hc⟩
theorem ownE.reads {v : Sl} {es : List EB} (h : Sat H S (ownE v es :: R)) (k : Nat) (hk : k ≤ es.length) (c : Nat) : (⟨subA v.a 0 c 3, k, c⟩ : Sl).l = (es.take k).length ∧ ((⟨subA v.a 0 c 3, k, c⟩ : Sl).l = 0 ∨ ∃ b o, (⟨subA v.a 0 c 3, k, c⟩ : Sl).a = some ⟨b, o, none⟩ ∧ CellsAt H b o (entV (es.take k))) := by
  refine ⟨by rw [List.length_take]; show k = _; omega, ?_⟩
  rcases Nat.eq_zero_or_pos k with h0 | h0
  · exact .inl h0
  · right
    obtain ⟨g, h1, h2⟩ := own.cells h (by rw [entV_len]; omega)
    refine ⟨g, 0, ?_, ?_⟩
    · show subA v.a 0 c 3 = _
      rw [subA_zero (by intro a ha; rw [h1] at ha; cases ha; rfl)]; exact h1
    · have := cells_sub h2 0 (k * 3)
      rw [List.drop_zero, entV, flat_take eV_len] at this
      exact this
structure Lg where
  fi : Nat
  ft : Nat
  es : List EB
def Lg.last (g : Lg) : EB := lastE g.fi g.ft g.es
def Lg.to (g : Lg) (i t : Nat) : Bool × Lg :=
  if i = g.fi ∧ t = g.ft then (true, { g with es := [] }) else
  match g.es.findIdx? (fun x => x.1.i == i && x.1.t == t) with
  | some k => (true, { g with es := g.es.take (k + 1) })
  | none => (false, g)
def Lg.begin (g : Lg) (h : Hd) (anew : Bool) : Bool × Lg := if (anew || h.anew) = true then (true, ⟨h.i, h.t, []⟩) else g.to h.i h.t
def lgA (gb : Nat) (T : TypeId) (g : Lg) : Asn := exs fun v : Sl => st (lst gb T (lgV g.fi g.ft v)) (ownE v g.es)
theorem lgA_open {gb : Nat} {T : TypeId} {g : Lg} (hs : Sat H S (lgA gb T g :: R)) : ∃ v, Sat H S (lst gb T (lgV g.fi g.ft v) :: ownE v g.es :: R) := by
  obtain ⟨v, hs⟩ := hs.open
  exact ⟨v, hs.unst⟩
theorem lgA_shut {gb : Nat} {T : TypeId} {g : Lg} {v : Sl} (hs : Sat H S (lst gb T (lgV g.fi g.ft v) :: ownE v g.es :: R)) : Sat H S (lgA gb T g :: R) :=
  Sat.shut (A := fun v : Sl => st (lst gb T (lgV g.fi g.ft v)) (ownE v g.es)) v hs.mkst
theorem beq_nat_int (a b : Nat) : ((a : Int) == (b : Int)) = (a == b) := by
  by_cases h : a = b
  · simp [h]
  · have : ¬ (a : Int) = (b : Int) := by omega
    rw [beq_eq_false_iff_ne.2 h, beq_eq_false_iff_ne.2 this]
theorem to_spec {gb : Nat} {T : TypeId} {g : Lg} {i t : Nat} (hs : Sat H S (lgA gb T g :: R)) (hlen : g.es.length < 1000000000)
    {K : Value → Heap → Prop} (hK : ∀ H', Sat H' S (lgA gb T (g.to i t).2 :: R) → K (.bool (g.to i t).1) H') : CallsH Tryz.prog 167 #[.pointer (some ⟨gb, 0, none⟩), .int .u64 (i : Int), .int .u64 (t : Int)] H K := by
  apply vc167
  intro b1 h1 hf1 b2 h2 hf2
  have hs1 : Sat h1 S (lst b1 32 [.int .u64 (i : Int)] :: lgA gb T g :: R) := hs.fresh hf1
  have hs2 : Sat h2 S (lst b2 32 [.int .u64 (t : Int)] :: lst b1 32 [.int .u64 (i : Int)] :: lgA gb T g :: R) := hs1.fresh hf2
  obtain ⟨v, hs3⟩ := lgA_open (hs2.sel [2])
  have hfind : ¬ (i = g.fi ∧ t = g.ft) → ∃ x : Sl, cellH h2 gb 3 = some (.slice x.a x.l x.c) ∧
      CallsH Tryz.prog 75 #[.slice x.a x.l x.c, .func (.func 181) #[] #[.pointer (some ⟨b1, 0, none⟩), .pointer (some ⟨b2, 0, none⟩)]] h2 (fun r1 h4 => ∃ n5 : Int, r1 = .int .i64 n5 ∧
        CondP (decide ((n5 : Int) < 0)) (K (.bool false) h4) (
        ∃ x2 : Sl, cellH h4 gb 3 = some (.slice x2.a x2.l x2.c) ∧
        ((0 : Int) ≤ (0 : Int) ∧ (0 : Int) ≤ IntKind.i64.wrap (n5 + 1) ∧ IntKind.i64.wrap (n5 + 1) ≤ ((x2.c : Nat) : Int)) ∧
        CallsH Tryz.prog 89 #[.slice (subA x2.a 0 x2.c 3) ((IntKind.i64.wrap (n5 + 1)).toNat) x2.c] h4 (fun r2 h5 => ∃ x3 : Sl, r2 = .slice x3.a x3.l x3.c ∧
          CanSt h5 gb 3 [.slice x3.a x3.l x3.c] ∧ ∀ h6, Stored h5 gb 3 [.slice x3.a x3.l x3.c] h6 → K (.bool true) h6))) := by
    intro hne
    refine ⟨v, hs3.cell 3 rfl, ?_⟩
    have hs4 := hs3.sel [1]
    obtain ⟨hl, hlc⟩ := ownE.len hs4
    refine index_spec (p := fun x => x.1.i == i && x.1.t == t) hs4 hlen (fun x hx h K' hs' hK' => ?_) fun h4 hs5 => ?_
    · refine .inl ⟨181, #[], _, rfl, call181, vc181 _ _ _ b1 0 b2 0 _ _ ?_⟩
      intro b3 h5 hf3
      have hs6 := hs'.fresh hf3
      have hs6 : Sat h5 S (lst b3 85 (eV x) :: ownE v g.es :: lst gb T (lgV g.fi g.ft v) :: lst b2 32 [.int .u64 (t : Int)] :: lst b1 32 [.int .u64 (i : Int)] :: R) := hs6
      refine ⟨_, hs6.cell 0 rfl, _, (hs6.pick 4 rfl).cell 0 rfl, CondP.of (fun hc => ?_) (fun hc => ?_)⟩
      · refine ⟨_, hs6.cell 1 rfl, _, (hs6.pick 3 rfl).cell 0 rfl, ?_⟩
        rw [beq_nat_int] at hc ⊢
        have := hK' h5 hs6.drop
        rw [hc, Bool.true_and] at this
        exact this
      · rw [beq_nat_int] at hc
        have := hK' h5 hs6.drop
        rw [hc, Bool.false_and] at this
        exact this
    · refine ⟨_, rfl, CondP.of (fun hc => ?_) (fun hc => ?_)⟩
      · cases hfi : g.es.findIdx? (fun x => x.1.i == i && x.1.t == t) with
        | some k => rw [hfi] at hc; exfalso; have h0 : ((k : Nat) : Int) < 0 := of_decide_eq_true hc; omega
        | none =>
          have e : g.to i t = (false, g) := by rw [Lg.to, if_neg hne, hfi]
          have hs7 := lgA_shut ((hs5.sel [1]).del 2 |>.del 2)
          have := hK h4 (by rw [e]; exact hs7)
          rw [e] at this; exact this
      · cases hfi : g.es.findIdx? (fun x => x.1.i == i && x.1.t == t) with
        | none => rw [hfi] at hc; simp [idxV] at hc
        | some k =>
          have hk : k < g.es.length := (List.findIdx?_eq_some_iff_getElem.1 hfi).1
          refine ⟨v, (hs5.sel [1]).cell 3 rfl, ?_⟩
          show (_ ∧ _ ≤ IntKind.i64.wrap ((k : Int) + 1) ∧ _) ∧ _
          rw [show idxV (some k) = (k : Int) from rfl, i64_succ (by omega)]
          simp only [Int.toNat_natCast]
          refine ⟨⟨by omega, by omega, by omega⟩, ?_⟩
          refine cloneE_spec (v := ⟨subA v.a 0 v.c 3, k + 1, v.c⟩) hs5 (ownE.reads hs5 (k + 1) hk v.c) (by rw [List.length_take]; omega) fun v' h5 hs6 => ⟨v', rfl, ?_⟩
          refine (hs6.sel [2]).store (by simp [lgV]) fun h6 hs7 => ?_
          have e : g.to i t = (true, { g with es := g.es.take (k + 1) }) := by rw [Lg.to, if_neg hne, hfi]
          have hs8 : Sat h6 S (lst gb T (lgV g.fi g.ft v') :: ownE v' (g.es.take (k + 1)) :: R) := ((hs7.del 2).del 2).del 2
          have := hK h6 (by rw [e]; exact lgA_shut (g := { g with es := g.es.take (k + 1) }) hs8)
          rw [e] at this; exact this
  refine ⟨_, (hs3.pick 3 rfl).cell 0 rfl, _, hs3.cell 0 rfl, CondP.of (fun hc => ⟨_, (hs3.pick 2 rfl).cell 0 rfl, _, hs3.cell 1 rfl, CondP.of (fun hc2 => ?_) (fun hc2 => hfind ?_)⟩) (fun hc => hfind ?_)⟩
  · rw [beq_nat_int] at hc hc2
    have h1 : i = g.fi ∧ t = g.ft := ⟨by simpa using hc, by simpa using hc2⟩
    have e : g.to i t = (true, { g with es := [] }) := by rw [Lg.to, if_pos h1]
    refine hs3.store (by simp [lgV]) fun h3 hs4 => ?_
    have hs5 : Sat h3 S (lst gb T (lgV g.fi g.ft ⟨none, 0, 0⟩) :: R) := ((hs4.del 1).del 1).del 1
    have := hK h3 (by rw [e]; exact lgA_shut (g := { g with es := [] }) (own.new 85 3 hs5).swap)
    rw [e] at this; exact this
  · rintro ⟨_, rfl⟩; simp at hc2
  · rintro ⟨rfl, _⟩; simp at hc
end
end Go.Sx.Tryz
namespace Go.Sx.Tryz
open Go Go.Sx Go.Proofs
set_option maxRecDepth 100000
set_option linter.unusedVariables false
noncomputable def c95 : Code := (Tryz.f95.body).getD .skip
def a95 : Ann := (.seq .leaf (.seq .leaf (.seq (.seq .leaf (.inn (.range [.one (.i .u8), .one (.sl)] true [] (.seq .leaf .leaf) (.inn (.seq .leaf (.seq (.seq .leaf (.inn (.seq .leaf (.br (.seq .leaf (.seq .leaf (.reg (.q 0 (.q 1 (.m 2 (.m 3 (.fin) (.nil)) (.nil))))))) (.seq .leaf (.br .leaf (.seq .leaf (.br .leaf .leaf)))))))) (.seq .leaf (.br (.seq .leaf .leaf) .leaf)))))))) (.seq .leaf (.seq .leaf .leaf)))))
theorem ok95 : okC tab 71 true c95 a95 = true := by kernel_rfl
theorem vc95 (g_b g_o : Nat) (b_ : Sl) (oldest_ : Bool) (newest_ : Bool) (h : Heap) (R : Value → Heap → Prop)
  (hv : ∀ b1 h1, Fresh h (.cells #[.pointer (some ⟨g_b, g_o, none⟩)] 187) b1 h1 →
   ∀ b2 h2, Fresh h1 (.cells #[.bool oldest_] 4) b2 h2 →
   ∀ b3 h3, Fresh h2 (.cells #[.bool false] 4) b3 h3 →
   ∀ b4 h4, Fresh h3 (.cells #[.bool false] 4) b4 h4 →
   ∀ b5 h5, Fresh h4 (.cells #[.int .u64 0] 32) b5 h5 →
   CanSt h5 b4 0 [.bool false] ∧ ∀ h6, Stored h5 b4 0 [.bool false] h6 →
   CanSt h6 b5 0 [.int .u64 0] ∧ ∀ h7, Stored h6 b5 0 [.int .u64 0] h7 →
   CallsH Tryz.prog 130 #[.slice b_.a b_.l b_.c] h7 (fun r1 h8 => ∃ v1 : Value, r1 = v1 ∧
   ∃ g1 cap1, v1 = .func (.func g1) #[] cap1 ∧ Callable Tryz.prog g1 ∧ ∀ D1 l1 rc1 h9, LoopStart h8 D1 l1 rc1 h9 →
   (∀ n1 : Int, ∀ x1 : Sl, ∀ (h10 : Heap) (R1 : Value → Heap → Prop), h10[l1]? = some (rc1 .ready none) →
   (h10[l1]? = some (rc1 .ready none) ∧
   CondP ((n1 : Int) == 1) (
   CallsH Tryz.prog 97 #[.int .u8 n1, .slice x1.a x1.l x1.c] (setB h10 l1 (rc1 .busy none)) (fun r2 h11 => ∃ n2 : Int, ∃ t1 : Bool, ∃ n3 : Int, ∃ n4 : Int, ∃ t2 : Bool, r2 = .tuple #[.agg #[.int .u64 n2, .bool t1, .int .u64 n3, .int .u64 n4], .bool t2] ∧
   ∀ b6 h12, Fresh h11 (.cells #[.int .u64 0, .bool false, .int .u64 0, .int .u64 0] 103) b6 h12 →
   CanSt h12 b6 0 [.int .u64 n2, .bool t1, .int .u64 n3, .int .u64 n4] ∧ ∀ h13, Stored h12 b6 0 [.int .u64 n2, .bool t1, .int .u64 n3, .int .u64 n4] h13 →
   CondP t2 (
   ∃ t3 : Bool, cellH h13 b4 0 = some (.bool t3) ∧
   CondP (!t3) (
   ∃ p1 : Option Addr, cellH h13 b1 0 = some (.pointer p1) ∧
   ∃ n5 : Int, ∃ t4 : Bool, ∃ n6 : Int, ∃ n7 : Int, CellsAt h13 b6 0 [.int .u64 n5, .bool t4, .int .u64 n6, .int .u64 n7] ∧
   ∃ t5 : Bool, cellH h13 b2 0 = some (.bool t5) ∧
   CallsH Tryz.prog 131 #[.pointer p1, .agg #[.int .u64 n5, .bool t4, .int .u64 n6, .int .u64 n7], .bool t5] h13 (fun r3 h14 => ∃ t6 : Bool, r3 = .bool t6 ∧
   ∃ n8 : Int, cellH h14 b6 2 = some (.int .u64 n8) ∧
   CanSt h14 b4 0 [.bool true] ∧ ∀ h15, Stored h14 b4 0 [.bool true] h15 →
   cellH h15 b6 2 = some (.int .u64 n8) ∧
   CanSt h15 b5 0 [.int .u64 n8] ∧ ∀ h16, Stored h15 b5 0 [.int .u64 n8] h16 →
   CondP (!t6) (
   CanSt h16 b3 0 [.bool false] ∧ ∀ h17, Stored h16 b3 0 [.bool false] h17 →
   h17[l1]? = some (rc1 .busy none) ∧ R1 (.bool false) (setB h17 l1 (rc1 .done (some .ret)))) (
   h16[l1]? = some (rc1 .busy none) ∧ R1 (.bool true) (setB h16 l1 (rc1 .ready none))))) (
   ∃ n9 : Int, cellH h13 b6 2 = some (.int .u64 n9) ∧
   CanSt h13 b4 0 [.bool true] ∧ ∀ h18, Stored h13 b4 0 [.bool true] h18 →
   cellH h18 b6 2 = some (.int .u64 n9) ∧
   CanSt h18 b5 0 [.int .u64 n9] ∧ ∀ h19, Stored h18 b5 0 [.int .u64 n9] h19 →
   CanSt h19 b3 0 [.bool false] ∧ ∀ h20, Stored h19 b3 0 [.bool false] h20 →
   h20[l1]? = some (rc1 .busy none) ∧ R1 (.bool false) (setB h20 l1 (rc1 .done (some .ret))))) (
   ∃ n10 : Int, cellH h13 b6 2 = some (.int .u64 n10) ∧
   CanSt h13 b4 0 [.bool true] ∧ ∀ h21, Stored h13 b4 0 [.bool true] h21 →
   cellH h21 b6 2 = some (.int .u64 n10) ∧
   CanSt h21 b5 0 [.int .u64 n10] ∧ ∀ h22, Stored h21 b5 0 [.int .u64 n10] h22 →
   CanSt h22 b3 0 [.bool false] ∧ ∀ h23, Stored h22 b3 0 [.bool false] h23 →
   h23[l1]? = some (rc1 .busy none) ∧ R1 (.bool false) (setB h23 l1 (rc1 .done (some .ret)))))) (
   CondP ((n1 : Int) == 2) (
   ∃ p2 : Option Addr, cellH (setB h10 l1 (rc1 .busy none)) b1 0 = some (.pointer p2) ∧
   CallsH Tryz.prog 132 #[.pointer p2, .slice x1.a x1.l x1.c] (setB h10 l1 (rc1 .busy none)) (fun r4 h24 => ∃ t7 : Bool, r4 = .bool t7 ∧
   CondP (!t7) (
   CanSt h24 b3 0 [.bool false] ∧ ∀ h25, Stored h24 b3 0 [.bool false] h25 →
   h25[l1]? = some (rc1 .busy none) ∧ R1 (.bool false) (setB h25 l1 (rc1 .done (some .ret)))) (
   h24[l1]? = some (rc1 .busy none) ∧ R1 (.bool true) (setB h24 l1 (rc1 .ready none))))) (
   CondP ((n1 : Int) == 3) (
   ∃ p3 : Option Addr, cellH (setB h10 l1 (rc1 .busy none)) b1 0 = some (.pointer p3) ∧
   ∃ n11 : Int, cellH (setB h10 l1 (rc1 .busy none)) b5 0 = some (.int .u64 n11) ∧
   CallsH Tryz.prog 133 #[.pointer p3, .slice x1.a x1.l x1.c, .int .u64 n11] (setB h10 l1 (rc1 .busy none)) (fun r5 h26 => ∃ t8 : Bool, r5 = .bool t8 ∧
   CondP (!t8) (
   CanSt h26 b3 0 [.bool false] ∧ ∀ h27, Stored h26 b3 0 [.bool false] h27 →
   h27[l1]? = some (rc1 .busy none) ∧ R1 (.bool false) (setB h27 l1 (rc1 .done (some .ret)))) (
   h26[l1]? = some (rc1 .busy none) ∧ R1 (.bool true) (setB h26 l1 (rc1 .ready none))))) (
   CanSt (setB h10 l1 (rc1 .busy none)) b3 0 [.bool false] ∧ ∀ h28, Stored (setB h10 l1 (rc1 .busy none)) b3 0 [.bool false] h28 →
   h28[l1]? = some (rc1 .busy none) ∧ R1 (.bool false) (setB h28 l1 (rc1 .done (some .ret))))))) → CallV Tryz.prog (.func (.yield l1) #[] #[]) [.int .u8 n1, .slice x1.a x1.l x1.c] h10 R1) →
   CallsH Tryz.prog g1 (.func (.yield l1) #[] #[] :: cap1.toList).toArray h9 (fun _ h29 =>
   (h29[l1]? = some (rc1 .ready none) ∧ CallsH Tryz.prog 100 #[.slice b_.a b_.l b_.c] (setB h29 l1 (rc1 .exhausted none)) (fun r6 h30 => ∃ n12 : Int, ∃ n13 : Int, r6 = .tuple #[.int .i64 n12, .int .i64 n13] ∧
   CondP ((n13 : Int) == 0) (
   CanSt h30 b3 0 [.bool true] ∧ ∀ h31, Stored h30 b3 0 [.bool true] h31 →
   h31[D1]? = some (.deferred (some [])) ∧
   ∃ t9 : Bool, cellH (setB h31 D1 (.deferred none)) b3 0 = some (.bool t9) ∧
   R (.bool t9) (setB h31 D1 (.deferred none))) (
   CondP ((n13 : Int) == 31) (
   CanSt h30 b3 0 [.bool newest_] ∧ ∀ h32, Stored h30 b3 0 [.bool newest_] h32 →
   h32[D1]? = some (.deferred (some [])) ∧
   ∃ t10 : Bool, cellH (setB h32 D1 (.deferred none)) b3 0 = some (.bool t10) ∧
   R (.bool t10) (setB h32 D1 (.deferred none))) (
   CanSt h30 b3 0 [.bool false] ∧ ∀ h33, Stored h30 b3 0 [.bool false] h33 →
   h33[D1]? = some (.deferred (some [])) ∧
   ∃ t11 : Bool, cellH (setB h33 D1 (.deferred none)) b3 0 = some (.bool t11) ∧
   R (.bool t11) (setB h33 D1 (.deferred none)))))) ∨
   (h29[l1]? = some (rc1 .done (some .ret)) ∧ (setB h29 l1 (rc1 .exhausted (some .ret)))[D1]? = some (.deferred (some [])) ∧
   ∃ t12 : Bool, cellH (setB (setB h29 l1 (rc1 .exhausted (some .ret))) D1 (.deferred none)) b3 0 = some (.bool t12) ∧
   R (.bool t12) (setB (setB h29 l1 (rc1 .exhausted (some .ret))) D1 (.deferred none)))))) :
  CallsH Tryz.prog 95 #[.pointer (some ⟨g_b, g_o, none⟩), .slice b_.a b_.l b_.c, .bool oldest_, .bool newest_] h R :=
  calls_of_vc tabOk mixed Tryz.func95 (c := c95) (by kernel_rfl) (n := 71) rfl (rs := [.cell 8 4]) (by kernel_rfl) ok95 (args := [.pointer (some ⟨g_b, g_o, none⟩), .slice b_.a b_.l b_.c, .bool oldest_, .bool newest_]) (Nat.le_of_ble_eq_true rfl) (Eq.mpr (by kernel_rfl) hv)
end Go.Sx.Tryz
namespace Go.Sx.Tryz
open Go Go.Sx Go.Proofs
set_option linter.unusedVariables false
section
variable {H H' : Heap} {S : PH} {R : List Asn}
theorem begin_spec {gb : Nat} {T : TypeId} {g : Lg} {hd : Hd} {anew : Bool} (hs : Sat H S (lgA gb T g :: R)) (hlen : g.es.length < 1000000000)
    {K : Value → Heap → Prop} (hK : ∀ H', Sat H' S (lgA gb T (g.begin hd anew).2 :: R) → K (.bool (g.begin hd anew).1) H') : CallsH Tryz.prog 131 #[.pointer (some ⟨gb, 0, none⟩), .agg (hdV hd).toArray, .bool anew] H K := by
  apply vc131
  intro b1 h1 hf
  have hs1 : Sat h1 S (lst b1 103 (hdV hd) :: lgA gb T g :: R) := hs.fresh hf
  have hreset : (anew || hd.anew) = true → CanSt h1 gb 0 [.int .u64 (hd.i : Int), .int .u64 (hd.t : Int), .slice none 0 0, .slice none 0 0] ∧ ∀ h2, Stored h1 gb 0 [.int .u64 (hd.i : Int), .int .u64 (hd.t : Int), .slice none 0 0, .slice none 0 0] h2 → K (.bool true) h2 := by
    intro hc
    obtain ⟨v, hs2⟩ := lgA_open hs1.swap
    refine hs2.store (by simp [lgV]) fun h2 hs3 => ?_
    have hs4 : Sat h2 S (lst gb T (lgV hd.i hd.t ⟨none, 0, 0⟩) :: R) := (hs3.del 1).del 1
    have e : g.begin hd anew = (true, ⟨hd.i, hd.t, []⟩) := by rw [Lg.begin, if_pos hc]
    have := hK h2 (by rw [e]; exact lgA_shut (g := ⟨hd.i, hd.t, []⟩) (own.new 85 3 hs4).swap)
    rw [e] at this; exact this
  refine CondP.of (fun hc => ⟨_, hs1.cell 2 rfl, _, hs1.cell 3 rfl, hreset (by rw [hc]; rfl)⟩) fun hc => ⟨_, hs1.cell 1 rfl, CondP.of (fun hc2 => ⟨_, hs1.cell 2 rfl, _, hs1.cell 3 rfl, hreset (by rw [hc2, Bool.or_true])⟩) fun hc2 => ⟨_, hs1.cell 2 rfl, _, hs1.cell 3 rfl, ?_⟩⟩
  have e : g.begin hd anew = g.to hd.i hd.t := by rw [Lg.begin, hc, hc2]; rfl
  rw [e] at hK
  exact to_spec hs1.swap hlen fun h2 hs2 => ⟨_, rfl, hK h2 (hs2.del 1)⟩
def Ent.body (e : Ent) : List UInt8 := natB e.i ++ natB e.t ++ textB e.b
def Ent.ok (e : Ent) : Prop := e.i ≤ MaxI ∧ e.t ≤ MaxI ∧ e.b.length ≤ 512
theorem Ent.body_len (e : Ent) (hk : e.ok) : e.body.length ≤ 542 := by
  obtain ⟨h1, h2, h3⟩ := hk
  unfold MaxI at *
  have a := natB_le (n := e.i) (by omega)
  have b := natB_le (n := e.t) (by omega)
  have c := natB_le (n := e.b.length) (by omega)
  simp only [Ent.body, textB, List.length_append]; omega
def Lg.Con (g : Lg) : Prop := g.last.1.i = g.fi + g.es.length
theorem add_ok {gb : Nat} {T : TypeId} {g : Lg} {e : Ent} {v : Sl} (hs : Sat H S (lgA gb T g :: R)) (hv : RdB S v e.body) (he : e.ok) (hi : e.i = g.last.1.i + 1) (ht : g.last.1.t ≤ e.t) (hlen : g.es.length < 1000000)
    {K : Value → Heap → Prop} (hK : ∀ x H' S', PH.le S S' → RdB S' x e.b → Sat H' S' (lgA gb T { g with es := g.es ++ [(e, x)] } :: R) → K (.bool true) H') : CallsH Tryz.prog 132 #[.pointer (some ⟨gb, 0, none⟩), .slice v.a v.l v.c] H K := by
  apply vc132
  obtain ⟨k1, k2, k3⟩ := he
  unfold MaxI at *
  refine ropen_spec hs fun p h1 hs1 => ⟨_, rfl, ?_⟩
  have hv0 : RdB S v (natB e.i ++ (natB e.t ++ (textB e.b ++ []))) := by
    have := hv; simp only [Ent.body, List.append_assoc] at this; simpa using this
  have l2 := natB_le (n := e.t) (by omega)
  have l3 := natB_le (n := e.b.length) (by omega)
  refine rnat_spec (most := 4611686018427387904) hs1 hv0 (by omega) k1 (by decide) (by simp [textB]; omega) fun v1 h2 hv1 hs2 => ⟨_, rfl, ?_⟩
  refine rnat_spec (most := 4611686018427387904) hs2 hv1 (by omega) k2 (by decide) (by simp [textB]; omega) fun v2 h3 hv2 hs3 => ⟨_, rfl, ?_⟩
  refine rtext_spec (most := 512) hs3 hv2 k3 (by decide) (by simp; omega) fun v3 h4 hv3 hs4 => ⟨_, rfl, ?_⟩
  refine conv_bytes hs4 (by show e.b.toArray.size < _; simp; omega) fun x h5 S1 hS1 hx hs5 => ?_
  have hx : RdB S1 x e.b := hx
  intro b1 h6 hf6
  have hs6 : Sat h6 S1 (lst b1 85 [.int .u64 0, .int .u64 0, .slice none 0 0] :: rdr p v3 false :: lgA gb T g :: R) := hs5.fresh hf6
  refine hs6.store (Nat.le_refl _) fun h7 hs7 => ?_
  have hs7 : Sat h7 S1 (lst b1 85 (eV (e, x)) :: rdr p v3 false :: lgA gb T g :: R) := hs7
  obtain ⟨w, hs8⟩ := lgA_open (hs7.sel [2])
  refine last_spec (pre := []) (post := []) (v := w) (fi := g.fi) (ft := g.ft) (es := g.es) hs8 (by omega) fun h8 hs9 => ⟨_, _, _, rfl, ?_⟩
  have hs9 : Sat h8 S1 (lst gb T (lgV g.fi g.ft w) :: ownE w g.es :: lst b1 85 (eV (e, x)) :: rdr p v3 false :: R) := hs9
  intro b2 h9 hf9
  have hs10 := hs9.fresh hf9
  have hs10 : Sat h9 S1 (lst b2 85 [.int .u64 0, .int .u64 0, .slice none 0 0] :: lst gb T (lgV g.fi g.ft w) :: ownE w g.es :: lst b1 85 (eV (e, x)) :: rdr p v3 false :: R) := hs10
  refine hs10.store (Nat.le_refl _) fun h10 hs11 => ?_
  have hs11 : Sat h10 S1 (lst b2 85 (eV g.last) :: lst gb T (lgV g.fi g.ft w) :: ownE w g.es :: lst b1 85 (eV (e, x)) :: rdr p v3 false :: R) := hs11
  refine ⟨fun t1 h => t1 = false ∧ Sat h S1 (lst gb T (lgV g.fi g.ft w) :: ownE w g.es :: lst b1 85 (eV (e, x)) :: R), ?_, ?_⟩
  · rintro t1 h11 ⟨rfl, hs12⟩ _
    refine CondP.of (fun hc => by cases hc) fun _ => ⟨w, hs12.cell 3 rfl, _, _, _, (hs12.pick 2 rfl).cells 0 rfl, ?_⟩
    intro b3 h12 hf12
    have hs13 := hs12.fresh hf12
    have hs13 : Sat h12 S1 (lst b3 85 (eV (e, x)) :: lst gb T (lgV g.fi g.ft w) :: ownE w g.es :: lst b1 85 (eV (e, x)) :: R) := hs13
    refine ⟨hs13.swap.cell 3 rfl, ?_⟩
    obtain ⟨hl, hlc⟩ := ownE.len (hs13.pick 2 rfl)
    refine append_one el81 (v := w) (xs := entV g.es) (hs13.sel [0, 1]) rfl (by intro u hu; simp [eV] at hu; rcases hu with rfl | rfl | rfl <;> rfl) (by omega) (by unfold maxLen; omega) fun w' h13 hw' hs14 => ?_
    refine hs14.swap.store (by simp [lgV]) fun h14 hs15 => ?_
    refine hK x h14 S1 hS1 hx (lgA_shut (g := { g with es := g.es ++ [(e, x)] }) (v := w') ?_)
    have e1 : entV (g.es ++ [(e, x)]) = entV g.es ++ eV (e, x) := by simp [entV]
    unfold ownE
    rw [e1]
    exact hs15.del 2
  · have hs12 := hs11.sel [4]
    refine rend_spec hs12 (RdB.len hv3) ⟨_, rfl, CondP.of (fun hc => by simp at hc) fun _ => ?_⟩
    have c1 : Sat h10 S1 _ := hs11.pick 3 rfl
    refine ⟨(e.i : Int), c1.cell 0 rfl, CondP.of (fun hc => ?_) fun _ => ⟨(e.i : Int), c1.cell 0 rfl, (g.last.1.i : Int), hs11.cell 0 rfl, CondP.of (fun hc => ?_) fun _ => ⟨(e.t : Int), c1.cell 1 rfl, (g.last.1.t : Int), hs11.cell 1 rfl, ?_, (hs11.drop).sel [0, 0, 0] |>.del 3⟩⟩⟩
    · simp at hc; omega
    · rw [u64_in (by omega) (by omega)] at hc
      simp at hc; omega
    · exact decide_eq_false (by omega)
theorem cut_ok {gb : Nat} {T : TypeId} {g : Lg} {fr ow : Nat} {v : Sl} (hs : Sat H S (lgA gb T g :: R)) (hv : RdB S v (natB fr)) (hfr : fr < 18446744073709551616) (how : ow < fr) (hmay : mayB g.fi g.last.1.i fr = true) (hcon : g.Con) (hlen : g.es.length < 1000000)
    {K : Value → Heap → Prop} (hK : ∀ H', Sat H' S (lgA gb T { g with es := g.es.take (fr - 1 - g.fi) } :: R) → K (.bool true) H') : CallsH Tryz.prog 133 #[.pointer (some ⟨gb, 0, none⟩), .slice v.a v.l v.c, .int .u64 (ow : Int)] H K := by
  apply vc133
  refine ropen_spec hs fun p h1 hs1 => ⟨_, rfl, ?_⟩
  have hv0 : RdB S v (natB fr ++ []) := by simpa using hv
  refine rnat_spec (most := 18446744073709551615) hs1 hv0 hfr (by omega) (by decide) (by simp) fun v1 h2 hv1 hs2 => ⟨_, rfl, ?_⟩
  have hm : g.fi < fr ∧ fr - 1 ≤ g.last.1.i := by
    unfold mayB at hmay
    rw [Bool.and_eq_true] at hmay
    exact ⟨of_decide_eq_true hmay.1, of_decide_eq_true hmay.2⟩
  unfold Lg.Con at hcon
  refine ⟨fun t1 h => t1 = false ∧ ∃ w, Sat h S (lst gb T (lgV g.fi g.ft w) :: ownE w g.es :: R), ?_, ?_⟩
  · rintro t1 h3 ⟨rfl, w, hs3⟩ _
    refine CondP.of (fun hc => by cases hc) fun _ => ⟨w, hs3.cell 3 rfl, _, hs3.cell 0 rfl, ?_⟩
    have e : IntKind.u64.wrap (IntKind.u64.wrap ((fr : Int) - 1) - (g.fi : Int)) = ((fr - 1 - g.fi : Nat) : Int) := by
      rw [u64_in (n := (fr : Int) - 1) (by omega) (by omega), u64_in (by omega) (by omega)]; omega
    rw [e]
    simp only [Int.toNat_natCast]
    obtain ⟨hl, hlc⟩ := ownE.len hs3.swap
    refine ⟨⟨by omega, by omega, by omega⟩, ?_⟩
    refine cloneE_spec (v := ⟨subA w.a 0 w.c 3, fr - 1 - g.fi, w.c⟩) hs3 (ownE.reads hs3.swap _ (by omega) w.c) (by rw [List.length_take]; omega) fun w' h4 hs4 => ⟨w', rfl, ?_⟩
    refine hs4.swap.store (by simp [lgV]) fun h5 hs5 => hK h5 (lgA_shut (g := { g with es := g.es.take (fr - 1 - g.fi) }) (v := w') (hs5.del 2))
  · refine rend_spec hs2 (RdB.len hv1) ⟨_, rfl, CondP.of (fun hc => by simp at hc) fun _ => CondP.of (fun hc => by simp at hc; omega) fun _ => ?_⟩
    obtain ⟨w, hs3⟩ := lgA_open hs2.drop
    refine may_spec (pre := []) (post := []) (v := w) (fi := g.fi) (ft := g.ft) (es := g.es) hs3 (by omega) hfr fun h3 hs4 => ⟨_, rfl, ?_, w, hs4⟩
    show (!mayB g.fi g.last.1.i fr) = false
    rw [hmay]; rfl
end
end Go.Sx.Tryz
namespace Go.Sx.Tryz
open Go Go.Sx Go.Proofs
set_option linter.unusedVariables false
inductive Rec where
  | hd (h : Hd)
  | en (e : Ent)
  | ct (f : Nat)
def Rec.par : Rec → Par
  | .hd h => (1, h.body)
  | .en e => (2, e.body)
  | .ct f => (3, natB f)
def Rec.ok : Rec → Prop
  | .hd h => h.ok
  | .en e => e.ok
  | .ct f => f < 18446744073709551616
theorem Rec.pok {r : Rec} (h : r.ok) : Pok r.par := by
  cases r with
  | hd h' => exact ⟨(by decide : (1 : UInt8) ≠ 0), by have := h'.body_len h; show h'.body.length ≤ _; omega⟩
  | en e => exact ⟨(by decide : (2 : UInt8) ≠ 0), by have := e.body_len h; show e.body.length ≤ _; omega⟩
  | ct f => exact ⟨(by decide : (3 : UInt8) ≠ 0), by have := natB_le (n := f) h; show (natB f).length ≤ _; omega⟩
structure PL where
  fi : Nat
  ft : Nat
  es : List Ent
def PL.last (g : PL) : Nat × Nat := match g.es.getLast? with | some e => (e.i, e.t) | none => (g.fi, g.ft)
def PL.to (g : PL) (i t : Nat) : Option PL :=
  if i = g.fi ∧ t = g.ft then some { g with es := [] } else
  match g.es.findIdx? (fun e => e.i == i && e.t == t) with
  | some k => some { g with es := g.es.take (k + 1) }
  | none => none
def PL.begin (g : PL) (h : Hd) (anew : Bool) : Option PL := if (anew || h.anew) = true then some ⟨h.i, h.t, []⟩ else g.to h.i h.t
structure Rd1 where
  g : PL
  begun : Bool
  own : Nat
def Rd1.step (oldest : Bool) (s : Rd1) : Rec → Option Rd1
  | .hd h => if s.begun = true then none else (s.g.begin h oldest).map fun g => ⟨g, true, h.i⟩
  | .en e => if e.i = s.g.last.1 + 1 ∧ s.g.last.2 ≤ e.t then some { s with g := { s.g with es := s.g.es ++ [e] } } else none
  | .ct f => if s.own < f ∧ mayB s.g.fi s.g.last.1 f = true then some { s with g := { s.g with es := s.g.es.take (f - 1 - s.g.fi) } } else none
def PL.Con (g : PL) : Prop := ∀ k (h : k < g.es.length), g.es[k].i = g.fi + k + 1
theorem PL.Con.last {g : PL} (h : g.Con) : g.last.1 = g.fi + g.es.length := by
  unfold PL.last
  rcases Nat.eq_zero_or_pos g.es.length with h0 | h0
  · have : g.es = [] := List.eq_nil_of_length_eq_zero h0
    simp [this]
  · rw [List.getLast?_eq_getElem?, List.getElem?_eq_getElem (by omega)]
    show g.es[g.es.length - 1].i = _
    rw [h _ (by omega)]; omega
theorem PL.Con.take {g : PL} (h : g.Con) (n : Nat) : PL.Con { g with es := g.es.take n } := by
  intro k hk
  have hk' : k < g.es.length := by simp at hk; omega
  show (g.es.take n)[k].i = _
  rw [List.getElem_take]; exact h k hk'
theorem PL.Con.nil (fi ft : Nat) : PL.Con ⟨fi, ft, []⟩ := fun k h => by simp at h
theorem PL.Con.to {g g' : PL} {i t : Nat} (h : g.Con) (e : g.to i t = some g') : g'.Con := by
  unfold PL.to at e
  split at e
  · cases e; exact PL.Con.nil _ _
  · split at e
    · cases e; exact h.take _
    · cases e
theorem PL.Con.begin {g g' : PL} {hd : Hd} {o : Bool} (h : g.Con) (e : g.begin hd o = some g') : g'.Con := by
  unfold PL.begin at e
  split at e
  · cases e; exact PL.Con.nil _ _
  · exact h.to e
theorem Rd1.step_con {o : Bool} {s s' : Rd1} {r : Rec} (h : s.g.Con) (e : s.step o r = some s') : s'.g.Con := by
  cases r with
  | hd hh =>
    simp only [Rd1.step] at e
    split at e
    · cases e
    · obtain ⟨g, h1, rfl⟩ := Option.map_eq_some_iff.1 e
      exact h.begin h1
  | en x =>
    simp only [Rd1.step] at e
    split at e
    · rename_i hx
      cases e
      intro k hk
      show (s.g.es ++ [x])[k].i = s.g.fi + k + 1
      rcases Nat.lt_or_ge k s.g.es.length with hlt | hge
      · rw [List.getElem_append_left hlt]; exact h k hlt
      · have hk' : k < (s.g.es ++ [x]).length := hk
        rw [List.length_append, List.length_singleton] at hk'
        have : k = s.g.es.length := by omega
        subst this
        rw [List.getElem_append_right (Nat.le_refl _)]
        simp only [Nat.sub_self, List.getElem_cons_zero]
        rw [hx.1, h.last]
    · cases e
  | ct f =>
    simp only [Rd1.step] at e
    split at e
    · cases e; exact h.take _
    · cases e
theorem Rd1.step_len {o : Bool} {s s' : Rd1} {r : Rec} (e : s.step o r = some s') : s'.g.es.length ≤ s.g.es.length + 1 := by
  cases r with
  | hd hh =>
    simp only [Rd1.step] at e
    split at e
    · cases e
    · obtain ⟨g, h1, rfl⟩ := Option.map_eq_some_iff.1 e
      unfold PL.begin at h1
      split at h1
      · cases h1; simp
      · unfold PL.to at h1
        split at h1
        · cases h1; simp
        · split at h1
          · cases h1; simp only [List.length_take]; omega
          · cases h1
  | en x =>
    simp only [Rd1.step] at e
    split at e
    · cases e; simp
    · cases e
  | ct f =>
    simp only [Rd1.step] at e
    split at e
    · cases e; simp only [List.length_take]; omega
    · cases e
theorem foldM_path {σ τ : Type} {f : σ → τ → Option σ} : ∀ {l : List τ} {s s' : σ}, l.foldlM f s = some s' → ∃ p : Nat → σ, p 0 = s ∧ p l.length = s' ∧ ∀ i (h : i < l.length), f (p i) l[i] = some (p (i + 1))
  | [], s, s', h => ⟨fun _ => s, rfl, by simpa using h, fun i h => by simp at h⟩
  | x :: l, s, s', h => by
    rw [List.foldlM_cons] at h
    obtain ⟨s1, h1, h2⟩ := Option.bind_eq_some_iff.1 h
    obtain ⟨p, p0, p1, p2⟩ := foldM_path h2
    refine ⟨fun i => match i with | 0 => s | i + 1 => p i, rfl, p1, fun i hi => ?_⟩
    cases i with
    | zero => simpa [p0] using h1
    | succ i => exact p2 i (by simpa using hi)
def Lg.pure (g : Lg) : PL := ⟨g.fi, g.ft, g.es.map (·.1)⟩
theorem Lg.pure_last (g : Lg) : g.pure.last = (g.last.1.i, g.last.1.t) := by
  unfold PL.last Lg.last lastE Lg.pure
  simp only [List.getLast?_map]
  cases g.es.getLast? <;> rfl
theorem Lg.pure_to {g : Lg} {i t : Nat} {p : PL} (h : g.pure.to i t = some p) : (g.to i t).1 = true ∧ (g.to i t).2.pure = p ∧ ∀ x ∈ (g.to i t).2.es, x ∈ g.es := by
  unfold PL.to Lg.pure at h
  unfold Lg.to
  simp only at h
  split at h
  · rename_i hc
    rw [if_pos hc]; cases h; exact ⟨rfl, rfl, fun x hx => by cases hx⟩
  · rename_i hc
    rw [if_neg hc]
    rw [List.findIdx?_map] at h
    have e : ((fun e : Ent => e.i == i && e.t == t) ∘ fun x : EB => x.1) = fun x : EB => x.1.i == i && x.1.t == t := rfl
    rw [e] at h
    split at h
    · rename_i k hk
      try rw [hk]
      cases h
      exact ⟨rfl, by simp [Lg.pure, List.map_take], fun x hx => List.mem_of_mem_take hx⟩
    · cases h
theorem Lg.pure_begin {g : Lg} {hd : Hd} {o : Bool} {p : PL} (h : g.pure.begin hd o = some p) : (g.begin hd o).1 = true ∧ (g.begin hd o).2.pure = p ∧ ∀ x ∈ (g.begin hd o).2.es, x ∈ g.es := by
  unfold PL.begin at h
  unfold Lg.begin
  split at h
  · rename_i hc
    rw [if_pos hc]; cases h; exact ⟨rfl, rfl, fun x hx => by cases hx⟩
  · rename_i hc
    rw [if_neg hc]; exact Lg.pure_to h
section
variable {H H' : Heap} {S : PH} {R : List Asn}
theorem read_ok {gb : Nat} {T : TypeId} {g : Lg} {v : Sl} {rs : List Rec} {t : List UInt8} {oldest newest : Bool} {s' : Rd1} (hs : Sat H S (lgA gb T g :: R)) (hg : eok S g.es) (hv : RdB S v (pbs (rs.map Rec.par) ++ t)) (hok : ∀ r ∈ rs, r.ok) (ht : Tail t) (hn : t = [] ∨ newest = true)
    (hrun : rs.foldlM (Rd1.step oldest) ⟨g.pure, false, 0⟩ = some s') (hcon : g.pure.Con) (hlen : g.es.length + rs.length < 1000000) (hvl : v.l < 1000000000)
    {K : Value → Heap → Prop} (hK : ∀ H' S' g', PH.le S S' → eok S' g'.es → g'.pure = s'.g → Sat H' S' (lgA gb T g' :: R) → K (.bool true) H') : CallsH Tryz.prog 95 #[.pointer (some ⟨gb, 0, none⟩), .slice v.a v.l v.c, .bool oldest, .bool newest] H K := by
  apply vc95
  obtain ⟨st, st0, stn, sts⟩ := foldM_path hrun
  have hstc : ∀ i, i ≤ rs.length → (st i).g.Con ∧ (st i).g.es.length ≤ g.es.length + i := by
    intro i
    induction i with
    | zero => intro _; rw [st0]; exact ⟨hcon, by simp [Lg.pure]⟩
    | succ i ih =>
      intro hi
      obtain ⟨h1, h2⟩ := ih (by omega)
      have := sts i (by omega)
      exact ⟨Rd1.step_con h1 this, by have := Rd1.step_len this; omega⟩
  intro b1 h1 f1 b2 h2 f2 b3 h3 f3 b4 h4 f4 b5 h5 f5
  have a1 : Sat h1 S (lst b1 187 [.pointer (some ⟨gb, 0, none⟩)] :: lgA gb T g :: R) := hs.fresh f1
  have a2 : Sat h2 S (lst b2 4 [.bool oldest] :: lst b1 187 [.pointer (some ⟨gb, 0, none⟩)] :: lgA gb T g :: R) := a1.fresh f2
  have a3 : Sat h3 S (lst b3 4 [.bool false] :: lst b2 4 [.bool oldest] :: lst b1 187 [.pointer (some ⟨gb, 0, none⟩)] :: lgA gb T g :: R) := a2.fresh f3
  have a4 : Sat h4 S (lst b4 4 [.bool false] :: lst b3 4 [.bool false] :: lst b2 4 [.bool oldest] :: lst b1 187 [.pointer (some ⟨gb, 0, none⟩)] :: lgA gb T g :: R) := a3.fresh f4
  have a5 : Sat h5 S (lst b5 32 [.int .u64 0] :: lst b4 4 [.bool false] :: lst b3 4 [.bool false] :: lst b2 4 [.bool oldest] :: lst b1 187 [.pointer (some ⟨gb, 0, none⟩)] :: lgA gb T g :: R) := a4.fresh f5
  refine a5.swap.store (Nat.le_refl _) fun h6 a6 => ?_
  refine a6.swap.store (Nat.le_refl _) fun h7 a7 => ?_
  apply vc130
  intro cb h8 f8
  have a8 := a7.fresh f8
  have a8 : Sat h8 S (lst cb 33 [.slice v.a v.l v.c] :: lst b5 32 [.int .u64 0] :: lst b4 4 [.bool false] :: lst b3 4 [.bool false] :: lst b2 4 [.bool oldest] :: lst b1 187 [.pointer (some ⟨gb, 0, none⟩)] :: lgA gb T g :: R) := a8
  refine ⟨_, rfl, 166, _, rfl, call166, fun D l rc h9 hL hround => ?_⟩
  have a9 := hL.sat a8
  refine each1_spec (α := Lg) (F := fun i g S => eok S g.es ∧ g.pure = (st i).g) (fun i x S S' hS hx => ⟨hx.1.mono hS, hx.2⟩)
    (G := fun i g => lst b5 32 [.int .u64 ((st i).own : Int)] :: lst b4 4 [.bool (st i).begun] :: lst b3 4 [.bool false] :: lst b2 4 [.bool oldest] :: lst b1 187 [.pointer (some ⟨gb, 0, none⟩)] :: lgA gb T g :: blk l (rc .ready none) :: blk D (.deferred (some [])) :: R)
    (x0 := g) (t := t) (ps := rs.map Rec.par) ?_ ⟨hg, by rw [st0]⟩ hv (fun p hp => by obtain ⟨r, hr, rfl⟩ := List.mem_map.1 hp; exact Rec.pok (hok r hr)) ht hvl (fun i hi S1 h v' g1 K1 hS1 hv1 hg1 hs1 hK1 => ?_) (fun h29 S2 g2 hS2 hg2 hs2 => ?_)
  · rw [st0]; exact a9.sel [2, 2, 2, 2, 2, 2, 2]
  · have hi' : i < rs.length := by simpa using hi
    have hpar : (rs.map Rec.par)[i] = rs[i].par := by simp
    have hst := sts i hi'
    obtain ⟨hci, hli⟩ := hstc i (by omega)
    have hl1 : h[l]? = some (rc .ready none) := Sat.blk (hs1.pick 7 rfl)
    have hb1 := (hs1.pick 7 rfl).setB (o' := rc .busy none)
    have hb1 : Sat (setB h l (rc .busy none)) S1 (blk l (rc .busy none) :: lst cb 33 [.slice v.a v.l v.c] :: lst b5 32 [.int .u64 ((st i).own : Int)] :: lst b4 4 [.bool (st i).begun] :: lst b3 4 [.bool false] :: lst b2 4 [.bool oldest] :: lst b1 187 [.pointer (some ⟨gb, 0, none⟩)] :: lgA gb T g1 :: blk D (.deferred (some [])) :: R) := hb1
    have hokr := hok _ (List.getElem_mem hi')
    have hgl : g1.es.length < 1000000 := by
      have := congrArg (fun p : PL => p.es.length) hg1.2
      simp only [Lg.pure, List.length_map] at this
      omega
    refine hround _ v' h K1 hl1 ⟨hl1, ?_⟩
    rw [hpar] at hv1 ⊢
    cases hr : rs[i] with
    | hd hh =>
      rw [hr] at hv1 hokr hst
      have hnb : (st i).begun = false ∧ ∃ p, (st i).g.begin hh oldest = some p ∧ st (i + 1) = ⟨p, true, hh.i⟩ := by
        simp only [Rd1.step] at hst
        split at hst
        · cases hst
        · rename_i hnb
          obtain ⟨p, h1, h2⟩ := Option.map_eq_some_iff.1 hst
          exact ⟨by simpa using hnb, p, h1, h2.symm⟩
      obtain ⟨hnb, p, hp, hst1⟩ := hnb
      refine CondP.of (fun _ => ?_) fun hc => by simp [Rec.par] at hc
      refine readHead_ok hb1 hv1 hokr fun h11 hs11 => ⟨_, _, _, _, _, rfl, ?_⟩
      intro b6 h12 f12
      have c1 := hs11.fresh f12
      have c1 : Sat h12 S1 (lst b6 103 [.int .u64 0, .bool false, .int .u64 0, .int .u64 0] :: blk l (rc .busy none) :: lst cb 33 [.slice v.a v.l v.c] :: lst b5 32 [.int .u64 ((st i).own : Int)] :: lst b4 4 [.bool (st i).begun] :: lst b3 4 [.bool false] :: lst b2 4 [.bool oldest] :: lst b1 187 [.pointer (some ⟨gb, 0, none⟩)] :: lgA gb T g1 :: blk D (.deferred (some [])) :: R) := c1
      refine c1.store (Nat.le_refl _) fun h13 c2 => CondP.of (fun _ => ?_) fun hc => by cases hc
      have c2 : Sat h13 S1 (lst b6 103 (hdV hh) :: blk l (rc .busy none) :: lst cb 33 [.slice v.a v.l v.c] :: lst b5 32 [.int .u64 ((st i).own : Int)] :: lst b4 4 [.bool (st i).begun] :: lst b3 4 [.bool false] :: lst b2 4 [.bool oldest] :: lst b1 187 [.pointer (some ⟨gb, 0, none⟩)] :: lgA gb T g1 :: blk D (.deferred (some [])) :: R) := c2
      refine ⟨_, (c2.pick 4 rfl).cell 0 rfl, CondP.of (fun _ => ?_) fun hc => by rw [hnb] at hc; cases hc⟩
      refine ⟨_, (c2.pick 7 rfl).cell 0 rfl, _, _, _, _, c2.cells 0 rfl, _, (c2.pick 6 rfl).cell 0 rfl, ?_⟩
      rw [← hg1.2] at hp
      obtain ⟨q1, q2, q3⟩ := Lg.pure_begin hp
      refine begin_spec (c2.sel [8]) (by omega) fun h14 c3 => ⟨_, rfl, ?_⟩
      rw [q1]
      have c3 : Sat h14 S1 (lgA gb T (g1.begin hh oldest).2 :: lst b6 103 (hdV hh) :: blk l (rc .busy none) :: lst cb 33 [.slice v.a v.l v.c] :: lst b5 32 [.int .u64 ((st i).own : Int)] :: lst b4 4 [.bool (st i).begun] :: lst b3 4 [.bool false] :: lst b2 4 [.bool oldest] :: lst b1 187 [.pointer (some ⟨gb, 0, none⟩)] :: blk D (.deferred (some [])) :: R) := c3
      refine ⟨_, (c3.pick 1 rfl).cell 2 rfl, ?_⟩
      refine (c3.pick 5 rfl).store (Nat.le_refl _) fun h15 c4 => ?_
      have c4 : Sat h15 S1 (lst b4 4 [.bool true] :: lgA gb T (g1.begin hh oldest).2 :: lst b6 103 (hdV hh) :: blk l (rc .busy none) :: lst cb 33 [.slice v.a v.l v.c] :: lst b5 32 [.int .u64 ((st i).own : Int)] :: lst b3 4 [.bool false] :: lst b2 4 [.bool oldest] :: lst b1 187 [.pointer (some ⟨gb, 0, none⟩)] :: blk D (.deferred (some [])) :: R) := c4
      refine ⟨(c4.pick 2 rfl).cell 2 rfl, ?_⟩
      refine (c4.pick 5 rfl).store (Nat.le_refl _) fun h16 c5 => CondP.of (fun hc => by cases hc) fun _ => ?_
      have c5 : Sat h16 S1 (lst b5 32 [.int .u64 (hh.i : Int)] :: lst b4 4 [.bool true] :: lgA gb T (g1.begin hh oldest).2 :: lst b6 103 (hdV hh) :: blk l (rc .busy none) :: lst cb 33 [.slice v.a v.l v.c] :: lst b3 4 [.bool false] :: lst b2 4 [.bool oldest] :: lst b1 187 [.pointer (some ⟨gb, 0, none⟩)] :: blk D (.deferred (some [])) :: R) := c5
      have c6 := (c5.del 3).pick 3 rfl
      refine ⟨Sat.blk c6, hK1 _ S1 (g1.begin hh oldest).2 (PH.le.refl _) ⟨fun x hx => hg1.1 x (q3 x hx), by rw [hst1]; exact q2⟩ ?_⟩
      rw [hst1]
      exact (c6.setB (o' := rc .ready none)).sel [4, 1, 1, 2, 2, 2, 1, 0]
    | en e =>
      rw [hr] at hv1 hokr hst
      have hnx : (e.i = (st i).g.last.1 + 1 ∧ (st i).g.last.2 ≤ e.t) ∧ st (i + 1) = { st i with g := { (st i).g with es := (st i).g.es ++ [e] } } := by
        simp only [Rd1.step] at hst
        split at hst
        · rename_i hx; injection hst with hst; exact ⟨hx, hst.symm⟩
        · cases hst
      obtain ⟨⟨n1, n2⟩, hst1⟩ := hnx
      have hpl := Lg.pure_last g1
      rw [hg1.2] at hpl
      rw [hpl] at n1 n2
      refine CondP.of (fun hc => by simp [Rec.par] at hc) fun _ => CondP.of (fun _ => ?_) fun hc => by simp [Rec.par] at hc
      refine ⟨_, (hb1.pick 6 rfl).cell 0 rfl, ?_⟩
      refine add_ok (hb1.sel [7]) hv1 hokr n1 n2 hgl fun x h24 S2 hS2 hx c3 => ⟨_, rfl, CondP.of (fun hc => by cases hc) fun _ => ?_⟩
      have c4 := c3.pick 1 rfl
      refine ⟨Sat.blk c4, hK1 _ S2 { g1 with es := g1.es ++ [(e, x)] } hS2 ⟨fun y hy => ?_, ?_⟩ ?_⟩
      · rcases List.mem_append.1 hy with h | h
        · exact (hg1.1.mono hS2) y h
        · simp only [List.mem_singleton] at h
          subst h; exact ⟨hx, hokr.2.2⟩
      · rw [hst1, ← hg1.2]; simp [Lg.pure]
      · rw [hst1]
        exact (c4.setB (o' := rc .ready none)).sel [2, 2, 2, 2, 2, 2, 1]
    | ct f =>
      rw [hr] at hv1 hokr hst
      have hnx : ((st i).own < f ∧ mayB (st i).g.fi (st i).g.last.1 f = true) ∧ st (i + 1) = { st i with g := { (st i).g with es := (st i).g.es.take (f - 1 - (st i).g.fi) } } := by
        simp only [Rd1.step] at hst
        split at hst
        · rename_i hx; injection hst with hst; exact ⟨hx, hst.symm⟩
        · cases hst
      obtain ⟨⟨n1, n2⟩, hst1⟩ := hnx
      have hcl := hci.last
      have hpl := Lg.pure_last g1
      rw [← hg1.2, hpl] at n2 hcl
      refine CondP.of (fun hc => by simp [Rec.par] at hc) fun _ => CondP.of (fun hc => by simp [Rec.par] at hc) fun _ => CondP.of (fun _ => ?_) fun hc => by simp [Rec.par] at hc
      refine ⟨_, (hb1.pick 6 rfl).cell 0 rfl, _, (hb1.pick 2 rfl).cell 0 rfl, ?_⟩
      refine cut_ok (hb1.sel [7]) hv1 hokr n1 n2 (by simpa [Lg.Con, Lg.pure] using hcl) hgl fun h26 c3 => ⟨_, rfl, CondP.of (fun hc => by cases hc) fun _ => ?_⟩
      have c4 := c3.pick 1 rfl
      refine ⟨Sat.blk c4, hK1 _ S1 { g1 with es := g1.es.take (f - 1 - g1.fi) } (PH.le.refl _) ⟨fun y hy => hg1.1 y (List.mem_of_mem_take hy), ?_⟩ ?_⟩
      · rw [hst1, ← hg1.2]; simp [Lg.pure, List.map_take]
      · rw [hst1]
        exact (c4.setB (o' := rc .ready none)).sel [2, 2, 2, 2, 2, 2, 1]
  · left
    have hl1 := hs2.pick 7 rfl
    have c1 := hl1.setB (o' := rc .exhausted none)
    have c1 : Sat (setB h29 l (rc .exhausted none)) S2 (blk l (rc .exhausted none) :: lst cb 33 [.slice v.a v.l v.c] :: lst b5 32 [.int .u64 ((st (rs.map Rec.par).length).own : Int)] :: lst b4 4 [.bool (st (rs.map Rec.par).length).begun] :: lst b3 4 [.bool false] :: lst b2 4 [.bool oldest] :: lst b1 187 [.pointer (some ⟨gb, 0, none⟩)] :: lgA gb T g2 :: blk D (.deferred (some [])) :: R) := c1
    refine ⟨Sat.blk hl1, ?_⟩
    refine end_spec c1 (hv.mono hS2) (fun p hp => by obtain ⟨r, hr, rfl⟩ := List.mem_map.1 hp; exact Rec.pok (hok r hr)) ht hvl fun h30 S3 hS3 c2 => ⟨_, _, rfl, ?_⟩
    have hg2p : g2.pure = s'.g := by
      have := hg2.2
      rw [List.length_map, stn] at this; exact this
    have fin : ∀ (b : Bool) (h31 : Heap), b = true → Sat h31 S3 (lst b3 4 [.bool b] :: blk l (rc .exhausted none) :: lst cb 33 [.slice v.a v.l v.c] :: lst b5 32 [.int .u64 ((st (rs.map Rec.par).length).own : Int)] :: lst b4 4 [.bool (st (rs.map Rec.par).length).begun] :: lst b2 4 [.bool oldest] :: lst b1 187 [.pointer (some ⟨gb, 0, none⟩)] :: lgA gb T g2 :: blk D (.deferred (some [])) :: R) →
        h31[D]? = some (.deferred (some [])) ∧ ∃ t9 : Bool, cellH (setB h31 D (.deferred none)) b3 0 = some (.bool t9) ∧ K (.bool t9) (setB h31 D (.deferred none)) := by
      rintro b h31 rfl c3
      have c4 := c3.pick 8 rfl
      have c5 := c4.setB (o' := .deferred none)
      have c6 : Sat (setB h31 D (.deferred none)) S3 (lst b3 4 [.bool true] :: lgA gb T g2 :: R) := (c5.sel [1, 7]).del 2 |>.del 2 |>.del 2 |>.del 2 |>.del 2 |>.del 2 |>.del 2
      exact ⟨Sat.blk c4, _, c6.cell 0 rfl, hK _ S3 g2 (hS2.trans hS3) (hg2.1.mono hS3) hg2p c6.drop⟩
    rcases Decidable.em (t = []) with h0 | h0
    · rw [if_pos h0]
      refine CondP.of (fun _ => ?_) fun hc => by simp at hc
      exact (c2.pick 4 rfl).store (Nat.le_refl _) fun h31 c3 => fin true h31 rfl c3
    · rw [if_neg h0]
      refine CondP.of (fun hc => by simp at hc) fun _ => CondP.of (fun _ => ?_) fun hc => by simp at hc
      exact (c2.pick 4 rfl).store (Nat.le_refl _) fun h31 c3 => fin newest h31 (hn.resolve_left h0) c3
end
end Go.Sx.Tryz
namespace Go.Sx
set_option linter.unusedVariables false
def mget : List (Int × Int) → Int → Option Int
  | [], _ => none
  | x :: l, a => if a = x.1 then some x.2 else mget l a
def mpE (l : List (Int × Int)) (es : List MapEntry) : Prop := es.map (fun e => (e.key, e.val)) = l.map fun x => (Value.int .i64 x.1, Value.int .u64 x.2)
def mp (b : Nat) (l : List (Int × Int)) : Asn := fun k => ∃ es c, k b = some (.map es c) ∧ mpE l es.toList
theorem findNow_mp : ∀ {l : List (Int × Int)} {es : List MapEntry} (a : Int) (i : Nat), mpE l es → ∃ r, Instr.findNow (.int .i64) (.int .i64 a) es i = some r ∧ (match mget l a with | none => r = none | some v => ∃ j, r = some (j, .int .u64 v))
  | [], [], a, i, _ => ⟨none, rfl, rfl⟩
  | x :: l, e :: es, a, i, h => by
    simp only [mpE, List.map_cons, List.cons.injEq, Prod.mk.injEq] at h
    obtain ⟨⟨hk, hv⟩, h⟩ := h
    unfold Instr.findNow
    rw [hk, hv]
    simp only [Instr.sameNow, if_true]
    by_cases ha : a = x.1
    · subst ha
      refine ⟨some (i, .int .u64 x.2), by simp, ?_⟩
      simp [mget]
    · obtain ⟨r, h1, h2⟩ := findNow_mp a (i + 1) (l := l) (es := es) h
      refine ⟨r, ?_, ?_⟩
      · rw [beq_eq_false_iff_ne.2 ha]; exact h1
      · rw [mget, if_neg ha]; exact h2
  | [], _ :: _, _, _, h => by simp [mpE] at h
  | _ :: _, [], _, _, h => by simp [mpE] at h
section
variable {H H' : Heap} {S : PH} {R : List Asn}
theorem Sat.mp_blk {b : Nat} {l : List (Int × Int)} (h : Sat H S (mp b l :: R)) : ∃ es c, mpE l es.toList ∧ Sat H S (Sx.blk b (.map es c) :: R) := by
  obtain ⟨⟨k, ⟨k1, k2, ⟨es, c, g1, g2⟩, h2, hs⟩, h3, h4⟩, h5⟩ := h
  exact ⟨es, c, g2, ⟨k, ⟨k1, k2, g1, h2, hs⟩, h3, h4⟩, h5⟩
theorem Sat.blk_mp {b : Nat} {l : List (Int × Int)} {es : Array MapEntry} {c : Nat} (hm : mpE l es.toList) (h : Sat H S (Sx.blk b (.map es c) :: R)) : Sat H S (mp b l :: R) := h.weak fun k hk => ⟨es, c, hk, hm⟩
theorem makeMap_run {P : Program} {t : TypeId} (hs : Sat H S R) {K : Option Nat → Heap → Prop} (hk : ∀ b H', Sat H' S (mp b [] :: R) → K (some b) H') : RunK P .m (Instr.makeMap t none) H K := by
  intro w hw
  subst hw
  refine ⟨some w.heap.size, w.alloc (.map #[] 0), ?_, ⟨rfl, rfl, rfl⟩, hk _ _ ?_⟩
  · simp only [Instr.makeMap, Sem.run_bind, Sem.run_pure, Result.andThen_ok, run_newObj_alloc, K1.mk]
  · have h1 : Sat (w.heap.push (.map #[] 0)) S (Sx.blk w.heap.size (.map #[] 0) :: R) := hs.fresh ⟨rfl, rfl⟩
    exact h1.blk_mp (es := #[]) (l := []) rfl
theorem mapUpdate_run {P : Program} {t kt vt : TypeId} (ht : P.underlying t = some (.map kt vt)) (hkt : P.underlying kt = some (.int .i64)) {b : Nat} {l : List (Int × Int)} {a v : Int} (hn : mget l a = none) (hs : Sat H S (mp b l :: R)) {K : Heap → Prop}
    (hk : ∀ H', Sat H' S (mp b (l ++ [(a, v)]) :: R) → K H') : RunU P (Instr.mapUpdate t (.map (some b)) (.int .i64 a) (.int .u64 v)) H K := by
  intro w hw
  subst hw
  obtain ⟨es, c, hm, hs1⟩ := hs.mp_blk
  have hb := Sat.blk hs1
  obtain ⟨r, h1, h2⟩ := findNow_mp a 0 hm
  rw [hn] at h2
  simp only at h2
  subst h2
  have hf := MapKept.run_findKey (P := P) (w := w) hkt h1
  have hc := MapKept.run_checkKey (P := P) (w := w) hkt (k := .int .i64 a) (show (IntKind.i64 : IntKind) = IntKind.i64 from rfl) false 9999
  refine ⟨w.putObj b (.map (es.push { key := .int .i64 a, val := .int .u64 v, born := c }) (c + 1)), ?_, ⟨rfl, rfl, rfl⟩, hk _ ?_⟩
  · simp only [Instr.mapUpdate, Sem.run_bind, run_underlying ht, Result.andThen_ok, getObj, Sem.run, hb, hc, hf]
    simp [setObj, Sem.run, hb, World.putObj]
  · have h3 : Sat (w.putObj b (.map (es.push { key := .int .i64 a, val := .int .u64 v, born := c }) (c + 1))).heap S (Sx.blk b (.map (es.push { key := .int .i64 a, val := .int .u64 v, born := c }) (c + 1)) :: R) := hs1.setB
    refine h3.blk_mp ?_
    simp only [mpE, Array.toList_push, List.map_append, List.map_cons, List.map_nil] at hm ⊢
    rw [hm]
theorem lookup_run {P : Program} {t kt vt : TypeId} (ht : P.underlying t = some (.map kt vt)) (hkt : P.underlying kt = some (.int .i64)) {b : Nat} {l : List (Int × Int)} {a v : Int} (hn : mget l a = some v) (hs : Sat H S (mp b l :: R)) :
    ∀ w : World, w.heap = H → (Instr.lookup t (.map (some b)) (.int .i64 a) false).run P w = .ok (.int .u64 v) w := by
  intro w hw
  subst hw
  obtain ⟨es, c, hm, hs1⟩ := hs.mp_blk
  have hb := Sat.blk hs1
  obtain ⟨r, h1, h2⟩ := findNow_mp a 0 hm
  rw [hn] at h2
  obtain ⟨j, rfl⟩ := h2
  have hf := MapKept.run_findKey (P := P) (w := w) hkt h1
  have hc := MapKept.run_checkKey (P := P) (w := w) hkt (k := .int .i64 a) (show (IntKind.i64 : IntKind) = IntKind.i64 from rfl) es.isEmpty 9999
  have hc' : (Instr.checkKey es.isEmpty 10000 kt (.int .i64 a)).run P w = .ok () w := hc
  simp only [Instr.lookup, Sem.run_bind, run_underlying ht, Result.andThen_ok, getObj, Sem.run, hb]
  simp [Result.andThen, hc', hf]
end
end Go.Sx
namespace Go.Sx.Tryz
open Go Go.Sx Go.Proofs
set_option maxRecDepth 100000
set_option linter.unusedVariables false
noncomputable def c94 : Code := (Tryz.f94.body).getD .skip
def a94 : Ann := (.seq .leaf (.seq .leaf (.seq (.seq .leaf (.inn (.loop [(2, .one (.sl)), (11, .one (.i .i64))] (.seq .leaf (.seq (.br .leaf .leaf) (.seq (.inn (.seq .leaf (.seq .leaf (.seq .leaf (.br (.seq .leaf .leaf) .leaf))))) .leaf)))))) (.seq .leaf (.seq .leaf .leaf)))))
theorem ok94 : okC tab 35 true c94 a94 = true := by kernel_rfl
theorem vc94 (files_ : Sl) (h : Heap) (R : Value → Heap → Prop)
  (hv : RunK Tryz.prog (.m) (Instr.makeMap 193 none) h (fun m1 h1 =>
   ∀ b1 h2, Fresh h1 (.cells #[.map none] 193) b1 h2 →
   CanSt h2 b1 0 [.map m1] ∧ ∀ h3, Stored h2 b1 0 [.map m1] h3 →
   ∃ (I1 : Sl → Int → Heap → Prop) (mu1 : Sl → Int → Heap → Nat), I1 ⟨none, 0, 0⟩ 0 h3 ∧ (∀ x1 : Sl, ∀ n1 : Int, ∀ h4, I1 x1 n1 h4 → ∀ _ : Env,
   CondP (decide ((n1 : Int) < ((files_.l : Nat) : Int))) (
   ((0 : Int) ≤ n1 ∧ (n1 : Int) < ((files_.l : Nat) : Int)) ∧
   NilP files_.a (fun b2 o1 =>
   ∃ x2 : Sl, cellH h4 b2 (o1 + n1.toNat) = some (.slice x2.a x2.l x2.c) ∧
   CallsH Tryz.prog 39 #[.slice x2.a x2.l x2.c] h4 (fun r1 h5 => ∃ n2 : Int, ∃ t1 : Bool, ∃ n3 : Int, ∃ n4 : Int, ∃ t2 : Bool, r1 = .tuple #[.agg #[.int .u64 n2, .bool t1, .int .u64 n3, .int .u64 n4], .bool t2] ∧
   ∀ b3 h6, Fresh h5 (.cells #[.int .u64 0, .bool false, .int .u64 0, .int .u64 0] 103) b3 h6 →
   CanSt h6 b3 0 [.int .u64 n2, .bool t1, .int .u64 n3, .int .u64 n4] ∧ ∀ h7, Stored h6 b3 0 [.int .u64 n2, .bool t1, .int .u64 n3, .int .u64 n4] h7 →
   CondP t2 (
   ∃ m2 : Option Nat, cellH h7 b1 0 = some (.map m2) ∧
   ∃ n5 : Int, cellH h7 b3 0 = some (.int .u64 n5) ∧
   RunU Tryz.prog (Instr.mapUpdate 193 (.map m2) (.int .i64 n1) (.int .u64 n5)) h7 (fun h8 =>
   ∀ b4 h9, Fresh h8 (.cells #[.int .i64 n1] 3) b4 h9 →
   RunK Tryz.prog (.sl) (Builtin.append_ #[45, 45] 45 #[.slice x1.a x1.l x1.c, .slice (some ⟨b4, 0, none⟩) 1 1]) h9 (fun x3 h10 =>
   I1 x3 (IntKind.i64.wrap (n1 + 1)) h10 ∧ mu1 x3 (IntKind.i64.wrap (n1 + 1)) h10 < mu1 x1 n1 h4))) (
   I1 x1 (IntKind.i64.wrap (n1 + 1)) h7 ∧ mu1 x1 (IntKind.i64.wrap (n1 + 1)) h7 < mu1 x1 n1 h4)))) (
   CallsH Tryz.prog 127 #[.slice x1.a x1.l x1.c, .func (.func 128) #[] #[.pointer (some ⟨b1, 0, none⟩)]] h4 (fun r2 h11 => r2 = .tuple #[] ∧
   R (.slice x1.a x1.l x1.c) h11))))) :
  CallsH Tryz.prog 94 #[.slice files_.a files_.l files_.c] h R :=
  calls_of_vc tabOk mixed Tryz.func94 (c := c94) (by kernel_rfl) (n := 35) rfl (rs := [.tmp 2]) (by kernel_rfl) ok94 (args := [.slice files_.a files_.l files_.c]) (Nat.le_of_ble_eq_true rfl) (Eq.mpr (by kernel_rfl) hv)
end Go.Sx.Tryz
namespace Go.Sx.Tryz
open Go Go.Sx Go.Proofs
set_option maxRecDepth 100000
set_option linter.unusedVariables false
noncomputable def c127 : Code := (Tryz.f127.body).getD .skip
def a127 : Ann := .leaf
theorem ok127 : okC tab 9 true c127 a127 = true := by kernel_rfl
theorem vc127 (x_ : Sl) (cmp_ : Value) (h : Heap) (R : Value → Heap → Prop)
  (hv : CallsH Tryz.prog 164 #[.slice x_.a x_.l x_.c, .int .i64 ((x_.l : Nat) : Int), cmp_] h (fun r1 h1 => r1 = .tuple #[] ∧
   R (.tuple #[]) h1)) :
  CallsH Tryz.prog 127 #[.slice x_.a x_.l x_.c, cmp_] h R :=
  calls_of_vc tabOk mixed Tryz.func127 (c := c127) (by kernel_rfl) (n := 9) rfl (rs := []) (by kernel_rfl) ok127 (args := [.slice x_.a x_.l x_.c, cmp_]) (Nat.le_of_ble_eq_true rfl) (Eq.mpr (by kernel_rfl) hv)
end Go.Sx.Tryz
namespace Go.Sx.Tryz
open Go Go.Sx Go.Proofs
set_option maxRecDepth 100000
set_option linter.unusedVariables false
noncomputable def c128 : Code := (Tryz.f128.body).getD .skip
def a128 : Ann := (.seq .leaf (.seq .leaf .leaf))
theorem ok128 : okC tab 13 true c128 a128 = true := by kernel_rfl
theorem vc128 (a_ : Int) (b_ : Int) (c0_b c0_o : Nat) (h : Heap) (R : Value → Heap → Prop)
  (hv : ∃ m1 : Option Nat, cellH h c0_b c0_o = some (.map m1) ∧
   ∃ n1 : Int, (∀ w : World, w.heap = h → (Instr.lookup 193 (.map m1) (.int .i64 a_) false).run Tryz.prog w = .ok (.int .u64 n1) w) ∧
   ∃ m2 : Option Nat, cellH h c0_b c0_o = some (.map m2) ∧
   ∃ n2 : Int, (∀ w : World, w.heap = h → (Instr.lookup 193 (.map m2) (.int .i64 b_) false).run Tryz.prog w = .ok (.int .u64 n2) w) ∧
   CallsH Tryz.prog 129 #[.int .u64 n1, .int .u64 n2] h (fun r1 h1 => ∃ n3 : Int, r1 = .int .i64 n3 ∧
   R (.int .i64 n3) h1)) :
  CallsH Tryz.prog 128 #[.int .i64 a_, .int .i64 b_, .pointer (some ⟨c0_b, c0_o, none⟩)] h R :=
  calls_of_vc tabOk mixed Tryz.func128 (c := c128) (by kernel_rfl) (n := 13) rfl (rs := [.tmp 5]) (by kernel_rfl) ok128 (args := [.int .i64 a_, .int .i64 b_, .pointer (some ⟨c0_b, c0_o, none⟩)]) (Nat.le_of_ble_eq_true rfl) (Eq.mpr (by kernel_rfl) hv)
end Go.Sx.Tryz
namespace Go.Sx.Tryz
open Go Go.Sx Go.Proofs
set_option maxRecDepth 100000
set_option linter.unusedVariables false
noncomputable def c129 : Code := (Tryz.f129.body).getD .skip
def a129 : Ann := (.seq .leaf (.seq .leaf (.seq .leaf (.seq (.seq .leaf (.br (.seq (.seq .leaf (.br (.seq .leaf .leaf) .leaf)) (.seq .leaf .leaf)) .leaf)) (.seq (.seq .leaf (.br (.seq .leaf .leaf) .leaf)) (.seq (.seq .leaf (.br (.seq .leaf .leaf) .leaf)) (.seq (.seq .leaf (.br (.seq .leaf .leaf) .leaf)) (.seq .leaf .leaf))))))))
theorem ok129 : okC tab 20 true c129 a129 = true := by kernel_rfl
theorem vc129 (x_ : Int) (y_ : Int) (h : Heap) (R : Value → Heap → Prop)
  (hv : CallsH Tryz.prog 165 #[.int .u64 x_] h (fun r1 h1 => ∃ t1 : Bool, r1 = .bool t1 ∧
   CallsH Tryz.prog 165 #[.int .u64 y_] h1 (fun r2 h2 => ∃ t2 : Bool, r2 = .bool t2 ∧
   CondP t1 (
   CondP t2 (
   R (.int .i64 0) h2) (
   R (.int .i64 (-1)) h2)) (
   CondP t2 (
   R (.int .i64 1) h2) (
   CondP (decide ((x_ : Int) < y_)) (
   R (.int .i64 (-1)) h2) (
   CondP (decide ((x_ : Int) > y_)) (
   R (.int .i64 1) h2) (
   R (.int .i64 0) h2))))))) :
  CallsH Tryz.prog 129 #[.int .u64 x_, .int .u64 y_] h R :=
  calls_of_vc tabOk mixed Tryz.func129 (c := c129) (by kernel_rfl) (n := 20) rfl (rs := [.tmp 4]) (by kernel_rfl) ok129 (args := [.int .u64 x_, .int .u64 y_]) (Nat.le_of_ble_eq_true rfl) (Eq.mpr (by kernel_rfl) hv)
end Go.Sx.Tryz
namespace Go.Sx.Tryz
open Go Go.Sx Go.Proofs
set_option maxRecDepth 100000
set_option linter.unusedVariables false
noncomputable def c164 : Code := (Tryz.f164.body).getD .skip
def a164 : Ann := (.seq .leaf (.seq .leaf (.seq (.inn (.loop [(7, .one (.i .i64)), (8, .one (.i .i64))] (.seq (.seq .leaf (.br .leaf .leaf)) (.inn (.seq .leaf (.seq .leaf .leaf)))))) (.seq .leaf (.inn (.loop [(6, .one (.i .i64))] (.seq (.seq .leaf (.br .leaf .leaf)) (.inn (.seq .leaf (.seq (.inn (.loop [(7, .one (.i .i64)), (8, .one (.i .i64))] (.seq (.seq .leaf (.br .leaf .leaf)) (.inn (.seq .leaf (.seq .leaf .leaf)))))) (.seq (.seq .leaf (.seq .leaf (.br .leaf .leaf))) .leaf)))))))))))
theorem ok164 : okC tab 63 true c164 a164 = true := by kernel_rfl
theorem vc164 (data_ : Sl) (n_ : Int) (cmp_ : Value) (h : Heap) (R : Value → Heap → Prop)
  (hv : ∃ (I1 : Int → Int → Heap → Prop) (mu1 : Int → Int → Heap → Nat), I1 0 20 h ∧ (∀ n1 : Int, ∀ n2 : Int, ∀ h1, I1 n1 n2 h1 → ∀ _ : Env,
   CondP (decide ((n2 : Int) ≤ n_)) (
   CallsH Tryz.prog 179 #[.slice data_.a data_.l data_.c, .int .i64 n1, .int .i64 n2, cmp_] h1 (fun r1 h2 => r1 = .tuple #[] ∧
   I1 n2 (IntKind.i64.wrap (n2 + 20)) h2 ∧ mu1 n2 (IntKind.i64.wrap (n2 + 20)) h2 < mu1 n1 n2 h1)) (
   CallsH Tryz.prog 179 #[.slice data_.a data_.l data_.c, .int .i64 n1, .int .i64 n_, cmp_] h1 (fun r2 h3 => r2 = .tuple #[] ∧
   ∃ (I2 : Int → Heap → Prop) (mu2 : Int → Heap → Nat), I2 20 h3 ∧ (∀ n3 : Int, ∀ h4, I2 n3 h4 → ∀ _ : Env,
   CondP (decide ((n3 : Int) < n_)) (
   ∃ (I3 : Int → Int → Heap → Prop) (mu3 : Int → Int → Heap → Nat), I3 0 (IntKind.i64.wrap (2 * n3)) h4 ∧ (∀ n4 : Int, ∀ n5 : Int, ∀ h5, I3 n4 n5 h5 → ∀ _ : Env,
   CondP (decide ((n5 : Int) ≤ n_)) (
   CallsH Tryz.prog 180 #[.slice data_.a data_.l data_.c, .int .i64 n4, .int .i64 (IntKind.i64.wrap (n4 + n3)), .int .i64 n5, cmp_] h5 (fun r3 h6 => r3 = .tuple #[] ∧
   I3 n5 (IntKind.i64.wrap (n5 + (IntKind.i64.wrap (2 * n3)))) h6 ∧ mu3 n5 (IntKind.i64.wrap (n5 + (IntKind.i64.wrap (2 * n3)))) h6 < mu3 n4 n5 h5)) (
   CondP (decide ((IntKind.i64.wrap (n4 + n3) : Int) < n_)) (
   CallsH Tryz.prog 180 #[.slice data_.a data_.l data_.c, .int .i64 n4, .int .i64 (IntKind.i64.wrap (n4 + n3)), .int .i64 n_, cmp_] h5 (fun r4 h7 => r4 = .tuple #[] ∧
   I2 (IntKind.i64.wrap (n3 * 2)) h7 ∧ mu2 (IntKind.i64.wrap (n3 * 2)) h7 < mu2 n3 h4)) (
   I2 (IntKind.i64.wrap (n3 * 2)) h5 ∧ mu2 (IntKind.i64.wrap (n3 * 2)) h5 < mu2 n3 h4)))) (
   R (.tuple #[]) h4)))))) :
  CallsH Tryz.prog 164 #[.slice data_.a data_.l data_.c, .int .i64 n_, cmp_] h R :=
  calls_of_vc tabOk mixed Tryz.func164 (c := c164) (by kernel_rfl) (n := 63) rfl (rs := []) (by kernel_rfl) ok164 (args := [.slice data_.a data_.l data_.c, .int .i64 n_, cmp_]) (Nat.le_of_ble_eq_true rfl) (Eq.mpr (by kernel_rfl) hv)
end Go.Sx.Tryz
namespace Go.Sx.Tryz
open Go Go.Sx Go.Proofs
set_option maxRecDepth 100000
set_option linter.unusedVariables false
noncomputable def c165 : Code := (Tryz.f165.body).getD .skip
def a165 : Ann := (.seq .leaf (.seq .leaf .leaf))
theorem ok165 : okC tab 6 true c165 a165 = true := by kernel_rfl
theorem vc165 (x_ : Int) (h : Heap) (R : Value → Heap → Prop)
  (hv : R (.bool ((x_ : Int) != x_)) h) :
  CallsH Tryz.prog 165 #[.int .u64 x_] h R :=
  calls_of_vc tabOk mixed Tryz.func165 (c := c165) (by kernel_rfl) (n := 6) rfl (rs := [.tmp 2]) (by kernel_rfl) ok165 (args := [.int .u64 x_]) (Nat.le_of_ble_eq_true rfl) (Eq.mpr (by kernel_rfl) hv)
end Go.Sx.Tryz
namespace Go.Sx.Tryz
open Go Go.Sx Go.Proofs
set_option maxRecDepth 100000
set_option linter.unusedVariables false
noncomputable def c179 : Code := (Tryz.f179.body).getD .skip
def a179 : Ann := (.seq .leaf (.inn (.loop [(8, .one (.i .i64))] (.seq (.seq .leaf (.br .leaf .leaf)) (.seq (.inn (.seq .leaf (.inn (.loop [(9, .one (.i .i64))] (.seq (.seq (.reg (.q 0 (.q 1 (.q 2 (.q 3 (.q 4 (.q 5 (.q 6 (.q 7 (.q 8 (.q 9 (.q 10 (.q 11 (.q 12 (.q 13 (.m 14 (.q 15 (.q 16 (.fin))) (.nil))))))))))))))))) (.br .leaf .leaf)) (.seq (.inn (.reg (.q 0 (.q 1 (.q 2 (.q 3 (.q 4 (.q 5 (.q 6 (.q 7 (.q 8 (.q 9 (.q 10 (.q 11 (.q 12 (.q 13 (.q 14 (.m 15 (.q 16 (.m 17 (.fin) (.nil))) (.nil))))))))))))))))))) .leaf)))))) .leaf)))))
theorem ok179 : okC tab 53 true c179 a179 = true := by kernel_rfl
theorem vc179 (data_ : Sl) (a_ : Int) (b_ : Int) (cmp_ : Value) (h : Heap) (R : Value → Heap → Prop)
  (hv : ∃ (I1 : Int → Heap → Prop) (mu1 : Int → Heap → Nat), I1 (IntKind.i64.wrap (a_ + 1)) h ∧ (∀ n1 : Int, ∀ h1, I1 n1 h1 → ∀ _ : Env,
   CondP (decide ((n1 : Int) < b_)) (
   ∃ (I2 : Int → Heap → Prop) (mu2 : Int → Heap → Nat), I2 n1 h1 ∧ (∀ n2 : Int, ∀ h2, I2 n2 h2 → ∀ _ : Env,
   CondP (decide ((n2 : Int) > a_)) (
   ((0 : Int) ≤ n2 ∧ (n2 : Int) < ((data_.l : Nat) : Int)) ∧
   NilP data_.a (fun b1 o1 =>
   ∃ n3 : Int, cellH h2 b1 (o1 + n2.toNat) = some (.int .i64 n3) ∧
   ((0 : Int) ≤ IntKind.i64.wrap (n2 - 1) ∧ (IntKind.i64.wrap (n2 - 1) : Int) < ((data_.l : Nat) : Int)) ∧
   NilP data_.a (fun b2 o2 =>
   ∃ n4 : Int, cellH h2 b2 (o2 + (IntKind.i64.wrap (n2 - 1)).toNat) = some (.int .i64 n4) ∧
   CallV Tryz.prog cmp_ [.int .i64 n3, .int .i64 n4] h2 (fun r1 h3 => ∃ n5 : Int, r1 = .int .i64 n5 ∧
   CondP (decide ((n5 : Int) < 0)) (
   ((0 : Int) ≤ IntKind.i64.wrap (n2 - 1) ∧ (IntKind.i64.wrap (n2 - 1) : Int) < ((data_.l : Nat) : Int)) ∧
   NilP data_.a (fun b3 o3 =>
   ∃ n6 : Int, cellH h3 b3 (o3 + (IntKind.i64.wrap (n2 - 1)).toNat) = some (.int .i64 n6) ∧
   ((0 : Int) ≤ n2 ∧ (n2 : Int) < ((data_.l : Nat) : Int)) ∧
   NilP data_.a (fun b4 o4 =>
   ∃ n7 : Int, cellH h3 b4 (o4 + n2.toNat) = some (.int .i64 n7) ∧
   ((0 : Int) ≤ n2 ∧ (n2 : Int) < ((data_.l : Nat) : Int)) ∧
   NilP data_.a (fun b5 o5 =>
   CanSt h3 b5 (o5 + n2.toNat) [.int .i64 n6] ∧ ∀ h4, Stored h3 b5 (o5 + n2.toNat) [.int .i64 n6] h4 →
   ((0 : Int) ≤ IntKind.i64.wrap (n2 - 1) ∧ (IntKind.i64.wrap (n2 - 1) : Int) < ((data_.l : Nat) : Int)) ∧
   NilP data_.a (fun b6 o6 =>
   CanSt h4 b6 (o6 + (IntKind.i64.wrap (n2 - 1)).toNat) [.int .i64 n7] ∧ ∀ h5, Stored h4 b6 (o6 + (IntKind.i64.wrap (n2 - 1)).toNat) [.int .i64 n7] h5 →
   I2 (IntKind.i64.wrap (n2 - 1)) h5 ∧ mu2 (IntKind.i64.wrap (n2 - 1)) h5 < mu2 n2 h2))))) (
   I1 (IntKind.i64.wrap (n1 + 1)) h3 ∧ mu1 (IntKind.i64.wrap (n1 + 1)) h3 < mu1 n1 h1))))) (
   I1 (IntKind.i64.wrap (n1 + 1)) h2 ∧ mu1 (IntKind.i64.wrap (n1 + 1)) h2 < mu1 n1 h1))) (
   R (.tuple #[]) h1))) :
  CallsH Tryz.prog 179 #[.slice data_.a data_.l data_.c, .int .i64 a_, .int .i64 b_, cmp_] h R :=
  calls_of_vc tabOk mixed Tryz.func179 (c := c179) (by kernel_rfl) (n := 53) rfl (rs := []) (by kernel_rfl) ok179 (args := [.slice data_.a data_.l data_.c, .int .i64 a_, .int .i64 b_, cmp_]) (Nat.le_of_ble_eq_true rfl) (Eq.mpr (by kernel_rfl) hv)
end Go.Sx.Tryz
namespace Go.Sx.Tryz
open Go Go.Sx Go.Proofs
set_option linter.unusedVariables false
section
variable {H H' : Heap} {S : PH} {R : List Asn}
theorem putL_take {l : List Value} {off n : Nat} {vs : List Value} (h : off + vs.length ≤ n) (hn : n ≤ l.length) : (putL l off vs).take n = putL (l.take n) off vs := by
  apply List.ext_getElem?
  intro j
  rw [List.getElem?_take, putL_get (by omega), putL_get (by rw [List.length_take]; omega)]
  by_cases h1 : j < n
  · rw [if_pos h1, List.getElem?_take, if_pos h1]
  · rw [if_neg h1, if_neg (by omega), if_neg (by omega), List.getElem?_take, if_neg h1]
theorem own_store {T : TypeId} {sz : Nat} {v : Sl} {xs : List Value} (h : Sat H S (own T sz v xs :: R)) {off : Nat} {vs : List Value} (ho : off + vs.length ≤ xs.length) (hp : 0 < xs.length) {g : Nat} (hg : v.a = some ⟨g, 0, none⟩)
    {K : Heap → Prop} (hk : ∀ H', Sat H' S (own T sz v (putL xs off vs) :: R) → K H') : CanSt H g off vs ∧ ∀ H', Stored H g off vs H' → K H' := by
  have h0 := h
  obtain ⟨⟨k, ⟨k1, k2, ⟨h1, h2⟩, h3, hs⟩, h4, h5⟩, h6⟩ := h
  rcases h2 with ⟨e, rfl⟩ | ⟨g', cur, g1, g2, g3, g4, g5, g6⟩
  · simp at hp
  · rw [hg] at g1; cases g1
    have hb : Sat H S (lst g T cur.toList :: R) := ⟨⟨k, ⟨k1, k2, g2, h3, hs⟩, h4, h5⟩, h6⟩
    have hcl : xs.length ≤ cur.toList.length := by rw [← g6, List.length_take]; omega
    refine hb.store (by omega) fun H' hs' => hk H' (hs'.weak fun k hk => ⟨?_, .inr ⟨g, (putL cur.toList off vs).toArray, hg, hk, g3, g4, ?_, ?_⟩⟩)
    · rw [putL_len ho]; exact h1
    · have : (putL cur.toList off vs).toArray.size = cur.size := by rw [List.size_toArray, putL_len (by omega), Array.length_toList]
      rw [this]; exact g5
    · have e : v.l * sz = xs.length := h1.symm
      rw [e, List.toList_toArray, putL_take ho hcl, ← e, g6]
def iV (l : List Nat) : List Value := l.map fun (n : Nat) => .int .i64 (n : Int)
theorem iV_len (l : List Nat) : (iV l).length = l.length := by simp [iV]
theorem iV_put (l : List Nat) {j : Nat} (hj : j < l.length) (n : Nat) : putL (iV l) j [.int .i64 (n : Int)] = iV (l.set j n) := by
  unfold putL iV
  rw [List.set_eq_take_append_cons_drop, if_pos hj]
  simp
def ownI (v : Sl) (l : List Nat) : Asn := own 3 1 v (iV l)
theorem ownI.len {v : Sl} {l : List Nat} (h : Sat H S (ownI v l :: R)) : v.l = l.length ∧ v.l ≤ v.c := by
  obtain ⟨h1, h2⟩ := own.len h
  rw [iV_len] at h1
  exact ⟨by omega, h2⟩
theorem ownI.at {v : Sl} {l : List Nat} (h : Sat H S (ownI v l :: R)) {k : Nat} (hk : k < l.length) : ∃ g, v.a = some ⟨g, 0, none⟩ ∧ ∀ j (hj : j < l.length), cellH H g (0 + j) = some (.int .i64 (l[j] : Int)) := by
  obtain ⟨g, h1, h2⟩ := own.cells h (by rw [iV_len]; omega)
  exact ⟨g, h1, fun j hj => h2.get j _ (by simp [iV, hj])⟩
theorem ownI_store {v : Sl} {l : List Nat} (h : Sat H S (ownI v l :: R)) {j n : Nat} (hj : j < l.length) {g : Nat} (hg : v.a = some ⟨g, 0, none⟩)
    {K : Heap → Prop} (hk : ∀ H', Sat H' S (ownI v (l.set j n) :: R) → K H') : CanSt H g (0 + j) [.int .i64 (n : Int)] ∧ ∀ H', Stored H g (0 + j) [.int .i64 (n : Int)] H' → K H' := by
  rw [Nat.zero_add]
  refine own_store h (by rw [iV_len]; simp; omega) (by rw [iV_len]; omega) hg fun H' hs' => hk H' ?_
  rw [iV_put l hj] at hs'
  exact hs'
theorem swap_perm {l : List Nat} {j : Nat} (h : j + 1 < l.length) : ((l.set (j + 1) l[j]).set j l[j + 1]).Perm l := by
  have e : l = l.take j ++ l[j] :: l[j + 1] :: l.drop (j + 2) := by
    conv => lhs; rw [← List.take_append_drop j l, List.drop_eq_getElem_cons (by omega), List.drop_eq_getElem_cons h]
  have e2 : (l.set (j + 1) l[j]).set j l[j + 1] = l.take j ++ l[j + 1] :: l[j] :: l.drop (j + 2) := by
    apply List.ext_getElem?
    intro k
    have ht : (l.take j).length = j := by rw [List.length_take]; omega
    rcases Nat.lt_trichotomy k j with hk | hk | hk
    · rw [List.getElem?_set_ne (by omega), List.getElem?_set_ne (by omega), List.getElem?_append_left (by omega), List.getElem?_take, if_pos hk]
    · subst hk
      rw [List.getElem?_set_self (by simp; omega), List.getElem?_append_right (by omega), ht]; simp
    · rw [List.getElem?_set_ne (by omega), List.getElem?_append_right (by omega), ht]
      by_cases hk1 : k = j + 1
      · subst hk1
        rw [List.getElem?_set_self (by omega)]
        have : j + 1 - j = 1 := by omega
        rw [this]; simp
      · rw [List.getElem?_set_ne (by omega)]
        have : k - j = (k - j - 2) + 2 := by omega
        rw [this]
        simp only [List.getElem?_cons_succ, List.getElem?_drop]
        congr 1; omega
  rw [e2]
  conv => rhs; rw [e]
  exact .append_left _ (.swap _ _ _)
def Ord1 (ser : Nat → Nat) (l : List Nat) (n j : Nat) : Prop := ∀ a b, a < b → b < n → b ≠ j → ser (l.getD a 0) ≤ ser (l.getD b 0)
def Ord (ser : Nat → Nat) (l : List Nat) (n : Nat) : Prop := ∀ a b, a < b → b < n → ser (l.getD a 0) ≤ ser (l.getD b 0)
theorem getD_at {l : List Nat} {j : Nat} (h : j < l.length) : l.getD j 0 = l[j] := by simp [List.getD_eq_getElem?_getD, h]
theorem swap_getD {l : List Nat} {j : Nat} (h : j + 1 < l.length) (k : Nat) : ((l.set (j + 1) l[j]).set j l[j + 1]).getD k 0 = if k = j then l.getD (j + 1) 0 else if k = j + 1 then l.getD j 0 else l.getD k 0 := by
  simp only [List.getD_eq_getElem?_getD]
  by_cases h1 : k = j
  · subst h1
    rw [if_pos rfl, List.getElem?_set_self (by simp; omega), List.getElem?_eq_getElem h]
  · rw [if_neg h1, List.getElem?_set_ne (Ne.symm h1)]
    by_cases h2 : k = j + 1
    · subst h2
      rw [if_pos rfl, List.getElem?_set_self (by omega), List.getElem?_eq_getElem (by omega)]
    · rw [if_neg h2, List.getElem?_set_ne (Ne.symm h2)]
theorem insertion_spec {v : Sl} {L0 : List Nat} {ser : Nat → Nat} {cmp : Value} (hs : Sat H S (ownI v L0 :: R)) (hlen : L0.length < 1000000)
    (hcmp : ∀ l h x y (K : Value → Heap → Prop), x ∈ L0 → y ∈ L0 → Sat h S (ownI v l :: R) → (∀ h' (n : Int), (n < 0 ↔ ser x < ser y) → Sat h' S (ownI v l :: R) → K (.int .i64 n) h') → CallV Tryz.prog cmp [.int .i64 (x : Int), .int .i64 (y : Int)] h K)
    {K : Value → Heap → Prop} (hK : ∀ h' l, l.Perm L0 → Ord ser l l.length → Sat h' S (ownI v l :: R) → K (.tuple #[]) h') : CallsH Tryz.prog 179 #[.slice v.a v.l v.c, .int .i64 0, .int .i64 (L0.length : Int), cmp] H K := by
  apply vc179
  have hl := (ownI.len hs).1
  refine ⟨fun n1 h => ∃ (i : Nat) (l : List Nat), n1 = i ∧ 0 < i ∧ l.Perm L0 ∧ Ord ser l (min i l.length) ∧ Sat h S (ownI v l :: R), fun n1 _ => L0.length - n1.toNat, ⟨1, L0, by rw [show (0 : Int) + 1 = 1 from rfl]; exact i64_in (by decide) (by decide), by omega, .refl _, fun a b h1 h2 => by omega, hs⟩, ?_⟩
  rintro n1 h1 ⟨i, l, rfl, hi, hp, ho, hs1⟩ _
  have hll := hp.length_eq
  refine CondP.of (fun hc => ?_) (fun hc => ?_)
  rotate_left
  · have : L0.length ≤ i := by simp at hc; omega
    rw [Nat.min_eq_right (by omega)] at ho
    exact hK h1 l hp ho hs1
  have hc : i < L0.length := by simp at hc; omega
  rw [Nat.min_eq_left (by omega)] at ho
  have next : ∀ (h : Heap) (l' : List Nat), l'.Perm L0 → Ord ser l' (i + 1) → Sat h S (ownI v l' :: R) →
      (∃ (i' : Nat) (l : List Nat), IntKind.i64.wrap ((i : Int) + 1) = i' ∧ 0 < i' ∧ l.Perm L0 ∧ Ord ser l (min i' l.length) ∧ Sat h S (ownI v l :: R)) ∧ L0.length - (IntKind.i64.wrap ((i : Int) + 1)).toNat < L0.length - (i : Int).toNat := by
    intro h l' hp' ho' hs'
    rw [i64_succ (by omega)]
    refine ⟨⟨i + 1, l', rfl, by omega, hp', ?_, hs'⟩, ?_⟩
    · rw [Nat.min_eq_left (by have := hp'.length_eq; omega)]; exact ho'
    · show L0.length - (i + 1) < L0.length - i; omega
  refine ⟨fun n2 h => ∃ (j : Nat) (l : List Nat), n2 = j ∧ j ≤ i ∧ l.Perm L0 ∧ Ord1 ser l (i + 1) j ∧ Sat h S (ownI v l :: R), fun n2 _ => n2.toNat, ⟨i, l, rfl, Nat.le_refl _, hp, fun a b h1 h2 h3 => ho a b h1 (by omega), hs1⟩, ?_⟩
  rintro n2 h2 ⟨j, l, rfl, hj, hp, ho, hs2⟩ _
  have hll := hp.length_eq
  refine CondP.of (fun hc2 => ?_) (fun hc2 => ?_)
  rotate_left
  · have : j = 0 := by simp at hc2; omega
    subst this
    exact next h2 l hp (fun a b h1 h2 => ho a b h1 h2 (by omega)) hs2
  have hj0 : 0 < j := by simp at hc2; omega
  obtain ⟨j, rfl⟩ : ∃ j', j = j' + 1 := ⟨j - 1, by omega⟩
  obtain ⟨g, ga, gc⟩ := ownI.at hs2 (k := 0) (by omega)
  have e1 : IntKind.i64.wrap (((j + 1 : Nat) : Int) - 1) = (j : Int) := by rw [i64_in (by omega) (by omega)]; omega
  rw [e1]
  simp only [Int.toNat_natCast]
  refine ⟨⟨by omega, by omega⟩, NilP.of ga ⟨_, gc (j + 1) (by omega), ⟨by omega, by omega⟩, NilP.of ga ⟨_, gc j (by omega), ?_⟩⟩⟩
  refine hcmp l h2 l[j + 1] l[j] _ (hp.mem_iff.1 (List.getElem_mem _)) (hp.mem_iff.1 (List.getElem_mem _)) hs2 fun h3 n5 hn5 hs3 => ⟨n5, rfl, CondP.of (fun hc3 => ?_) (fun hc3 => ?_)⟩
  · have hlt : ser l[j + 1] < ser l[j] := hn5.1 (of_decide_eq_true hc3)
    obtain ⟨g', ga', gc'⟩ := ownI.at hs3 (k := 0) (by omega)
    rw [ga] at ga'; cases ga'
    refine ⟨⟨by omega, by omega⟩, NilP.of ga ⟨_, gc' j (by omega), ⟨by omega, by omega⟩, NilP.of ga ⟨_, gc' (j + 1) (by omega), ⟨by omega, by omega⟩, NilP.of ga ?_⟩⟩⟩
    refine ownI_store hs3 (j := j + 1) (by omega) ga fun h4 hs4 => ⟨⟨by omega, by omega⟩, NilP.of ga ?_⟩
    refine ownI_store hs4 (j := j) (by simp; omega) ga fun h5 hs5 => ⟨⟨j, _, rfl, by omega, (swap_perm (by omega)).trans hp, ?_, hs5⟩, by omega⟩
    intro a b hab hb hbj
    rw [← getD_at (by omega), ← getD_at (by omega)] at hlt
    rw [swap_getD (by omega), swap_getD (by omega)]
    by_cases hb1 : b = j + 1
    · subst hb1
      rw [if_neg hbj, if_pos rfl]
      by_cases ha : a = j
      · rw [if_pos ha]; omega
      · rw [if_neg ha, if_neg (by omega)]
        exact ho a j (by omega) (by omega) (by omega)
    · rw [if_neg hbj, if_neg hb1]
      by_cases ha : a = j
      · rw [if_pos ha]; exact ho (j + 1) b (by omega) hb (by omega)
      · rw [if_neg ha]
        by_cases ha1 : a = j + 1
        · rw [if_pos ha1]; exact ho j b (by omega) hb (by omega)
        · rw [if_neg ha1]; exact ho a b hab hb (by omega)
  · have hge : ser (l.getD j 0) ≤ ser (l.getD (j + 1) 0) := by
      rw [getD_at (by omega), getD_at (by omega)]
      have h : ¬ n5 < 0 := of_decide_eq_false hc3
      rw [hn5] at h; omega
    refine next h3 l hp (fun a b hab hb => ?_) hs3
    by_cases hbj : b = j + 1
    · subst hbj
      by_cases ha : a = j
      · subst ha; exact hge
      · exact Nat.le_trans (ho a j (by omega) (by omega) (by omega)) hge
    · exact ho a b hab hb hbj
end
end Go.Sx.Tryz
namespace Go.Sx.Tryz
open Go Go.Sx Go.Proofs
set_option maxRecDepth 100000
set_option linter.unusedVariables false
noncomputable def c38 : Code := (Tryz.f38.body).getD .skip
def a38 : Ann := (.seq .leaf (.seq .leaf (.seq (.seq .leaf (.inn (.loop [(3, .one (.sl)), (11, .one (.i .i64))] (.seq .leaf (.seq (.br .leaf .leaf) (.seq (.inn (.seq .leaf (.seq .leaf (.br (.seq .leaf .leaf) .leaf)))) .leaf)))))) (.seq .leaf .leaf))))
theorem ok38 : okC tab 33 true c38 a38 = true := by kernel_rfl
theorem vc38 (files_ : Sl) (h : Heap) (R : Value → Heap → Prop)
  (hv : ∀ b1 h1, Fresh h (.cells #[.int .u64 0, .int .u64 0, .slice none 0 0, .slice none 0 0] 94) b1 h1 →
   CallsH Tryz.prog 94 #[.slice files_.a files_.l files_.c] h1 (fun r1 h2 => ∃ x1 : Sl, r1 = .slice x1.a x1.l x1.c ∧
   ∃ (I1 : Sl → Int → Heap → Prop) (mu1 : Sl → Int → Heap → Nat), I1 x1 0 h2 ∧ (∀ x2 : Sl, ∀ n1 : Int, ∀ h3, I1 x2 n1 h3 → ∀ _ : Env,
   CondP (decide ((n1 : Int) < ((x1.l : Nat) : Int))) (
   ((0 : Int) ≤ n1 ∧ (n1 : Int) < ((x1.l : Nat) : Int)) ∧
   NilP x1.a (fun b2 o1 =>
   ∃ n2 : Int, cellH h3 b2 (o1 + n1.toNat) = some (.int .i64 n2) ∧
   ((0 : Int) ≤ n2 ∧ (n2 : Int) < ((files_.l : Nat) : Int)) ∧
   NilP files_.a (fun b3 o2 =>
   ∃ x3 : Sl, cellH h3 b3 (o2 + n2.toNat) = some (.slice x3.a x3.l x3.c) ∧
   CallsH Tryz.prog 95 #[.pointer (some ⟨b1, 0, none⟩), .slice x3.a x3.l x3.c, .bool ((n1 : Int) == 0), .bool ((n1 : Int) == (IntKind.i64.wrap (((x2.l : Nat) : Int) - 1)))] h3 (fun r2 h4 => ∃ t1 : Bool, r2 = .bool t1 ∧
   CondP (!t1) (
   CanSt h4 b1 0 [.int .u64 0, .int .u64 0, .slice none 0 0, .slice none 0 0] ∧ ∀ h5, Stored h4 b1 0 [.int .u64 0, .int .u64 0, .slice none 0 0, .slice none 0 0] h5 →
   ∃ n3 : Int, ∃ n4 : Int, ∃ x4 : Sl, ∃ x5 : Sl, CellsAt h5 b1 0 [.int .u64 n3, .int .u64 n4, .slice x4.a x4.l x4.c, .slice x5.a x5.l x5.c] ∧
   R (.tuple #[.agg #[.int .u64 n3, .int .u64 n4, .slice x4.a x4.l x4.c, .slice x5.a x5.l x5.c], .slice none 0 0, .int .i64 20]) h5) (
   I1 x2 (IntKind.i64.wrap (n1 + 1)) h4 ∧ mu1 x2 (IntKind.i64.wrap (n1 + 1)) h4 < mu1 x2 n1 h3))))) (
   ∃ n5 : Int, ∃ n6 : Int, ∃ x6 : Sl, ∃ x7 : Sl, CellsAt h3 b1 0 [.int .u64 n5, .int .u64 n6, .slice x6.a x6.l x6.c, .slice x7.a x7.l x7.c] ∧
   CanSt h3 b1 0 [.int .u64 n5, .int .u64 n6, .slice x6.a x6.l x6.c, .slice x7.a x7.l x7.c] ∧ ∀ h6, Stored h3 b1 0 [.int .u64 n5, .int .u64 n6, .slice x6.a x6.l x6.c, .slice x7.a x7.l x7.c] h6 →
   ∃ n7 : Int, ∃ n8 : Int, ∃ x8 : Sl, ∃ x9 : Sl, CellsAt h6 b1 0 [.int .u64 n7, .int .u64 n8, .slice x8.a x8.l x8.c, .slice x9.a x9.l x9.c] ∧
   R (.tuple #[.agg #[.int .u64 n7, .int .u64 n8, .slice x8.a x8.l x8.c, .slice x9.a x9.l x9.c], .slice x2.a x2.l x2.c, .int .i64 0]) h6)))) :
  CallsH Tryz.prog 38 #[.slice files_.a files_.l files_.c] h R :=
  calls_of_vc tabOk mixed Tryz.func38 (c := c38) (by kernel_rfl) (n := 33) rfl (rs := [.cell 2 94, .tmp 3, .tmp 4]) (by kernel_rfl) ok38 (args := [.slice files_.a files_.l files_.c]) (Nat.le_of_ble_eq_true rfl) (Eq.mpr (by kernel_rfl) hv)
end Go.Sx.Tryz
namespace Go.Sx.Tryz
open Go Go.Sx Go.Proofs
set_option linter.unusedVariables false
section
variable {H H' : Heap} {S : PH} {R : List Asn}
theorem sort_spec {v : Sl} {L0 : List Nat} {ser : Nat → Nat} {cmp : Value} (hs : Sat H S (ownI v L0 :: R)) (hlen : L0.length < 20)
    (hcmp : ∀ l h x y (K : Value → Heap → Prop), x ∈ L0 → y ∈ L0 → Sat h S (ownI v l :: R) → (∀ h' (n : Int), (n < 0 ↔ ser x < ser y) → Sat h' S (ownI v l :: R) → K (.int .i64 n) h') → CallV Tryz.prog cmp [.int .i64 (x : Int), .int .i64 (y : Int)] h K)
    {K : Value → Heap → Prop} (hK : ∀ h' l, l.Perm L0 → Ord ser l l.length → Sat h' S (ownI v l :: R) → K (.tuple #[]) h') : CallsH Tryz.prog 127 #[.slice v.a v.l v.c, cmp] H K := by
  apply vc127
  apply vc164
  have hl := (ownI.len hs).1
  refine ⟨fun n1 n2 h => n1 = 0 ∧ n2 = 20 ∧ Sat h S (ownI v L0 :: R), fun _ _ _ => 0, ⟨rfl, rfl, hs⟩, ?_⟩
  rintro n1 n2 h1 ⟨rfl, rfl, hs1⟩ _
  refine CondP.of (fun hc => by simp at hc; omega) fun _ => ?_
  rw [show ((v.l : Nat) : Int) = ((L0.length : Nat) : Int) by rw [hl]]
  refine insertion_spec hs1 (by omega) hcmp fun h2 l hp ho hs2 => ⟨rfl, ?_⟩
  refine ⟨fun n3 h => n3 = 20 ∧ Sat h S (ownI v l :: R), fun _ _ => 0, ⟨rfl, hs2⟩, ?_⟩
  rintro n3 h3 ⟨rfl, hs3⟩ _
  exact CondP.of (fun hc => by simp at hc; omega) fun _ => ⟨rfl, hK h3 l hp ho hs3⟩
theorem compare_spec {a b : Nat} {K : Value → Heap → Prop} (hK : ∀ n : Int, (n < 0 ↔ a < b) → K (.int .i64 n) H) : CallsH Tryz.prog 129 #[.int .u64 (a : Int), .int .u64 (b : Int)] H K := by
  apply vc129
  apply vc165
  refine ⟨_, rfl, ?_⟩
  apply vc165
  refine ⟨_, rfl, CondP.of (fun hc => by simp at hc) fun _ => CondP.of (fun hc => by simp at hc) fun _ => CondP.of (fun hc => ?_) fun hc => CondP.of (fun hc2 => ?_) fun hc2 => ?_⟩
  · exact hK _ ⟨fun _ => by simp at hc; omega, fun _ => by decide⟩
  · exact hK _ ⟨fun h => absurd h (by decide), fun h => by simp at hc; omega⟩
  · exact hK _ ⟨fun h => absurd h (by decide), fun h => by simp at hc; omega⟩
def FOk (S : PH) (x : Sl) : Option Hd → Prop
  | some hd => hd.ok ∧ ∃ rest, RdB S x (parcelB 1 hd.body ++ rest) ∧ rest.length < 1000000000
  | none => ∃ t, RdB S x t ∧ Tail t
theorem FOk.mono {S S' : PH} {x : Sl} {o : Option Hd} (h : FOk S x o) (hs : PH.le S S') : FOk S' x o := by
  cases o with
  | none => obtain ⟨t, h1, h2⟩ := h; exact ⟨t, h1.mono hs, h2⟩
  | some hd => obtain ⟨h0, r, h1, h2⟩ := h; exact ⟨h0, r, h1.mono hs, h2⟩
def fV (vs : List Sl) : List Value := vs.map fun x => .slice x.a x.l x.c
def isSeg (hs : List (Option Hd)) (i : Nat) : Bool := ((hs[i]?).getD none).isSome
def serOf (hs : List (Option Hd)) (i : Nat) : Nat := match (hs[i]?).getD none with | some h => h.serial | none => 0
def ixs (hs : List (Option Hd)) (n : Nat) : List Nat := (List.range n).filter (isSeg hs)
def prs (hs : List (Option Hd)) (n : Nat) : List (Int × Int) := (ixs hs n).map fun (i : Nat) => (((i : Nat) : Int), (serOf hs i : Int))
theorem ixs_succ (hs : List (Option Hd)) (n : Nat) : ixs hs (n + 1) = ixs hs n ++ (if isSeg hs n = true then [n] else []) := by
  simp only [ixs, List.range_succ, List.filter_append, List.filter_cons, List.filter_nil]
theorem mem_ixs {hs : List (Option Hd)} {n i : Nat} : i ∈ ixs hs n ↔ i < n ∧ isSeg hs i = true := by simp [ixs]
theorem ixs_len (hs : List (Option Hd)) (n : Nat) : (ixs hs n).length ≤ n := by
  have := List.length_filter_le (isSeg hs) (List.range n)
  rw [List.length_range] at this; exact this
theorem mget_map : ∀ {l : List Nat} {f : Nat → Int} {a : Nat}, (a ∈ l → mget (l.map fun (i : Nat) => (((i : Nat) : Int), f i)) a = some (f a)) ∧ (a ∉ l → mget (l.map fun (i : Nat) => (((i : Nat) : Int), f i)) a = none)
  | [], f, a => ⟨fun h => (by cases h), fun _ => rfl⟩
  | x :: l, f, a => by
    have ih := mget_map (l := l) (f := f) (a := a)
    simp only [List.map_cons, mget]
    by_cases h : a = x
    · subst h; exact ⟨fun _ => by simp, fun hn => absurd List.mem_cons_self hn⟩
    · rw [if_neg (by omega)]
      exact ⟨fun hm => ih.1 ((List.mem_cons.1 hm).resolve_left h), fun hn => ih.2 fun hm => hn (List.mem_cons_of_mem _ hm)⟩
theorem el45 : ElemOk Tryz.prog 45 3 1 8 := ElemOk.mk' (z := .int .i64 0) Tryz.underlying45 (by kernel_rfl) rfl (by decide)
theorem iV_one (l : List Nat) : ∀ u ∈ iV l, u.oneCell' = true := by
  intro u hu
  obtain ⟨c, _, rfl⟩ := List.mem_map.1 hu
  rfl
theorem order_spec {fv : Sl} {vs : List Sl} {hds : List (Option Hd)} (hs : Sat H S R) (hf : Rd S fv 1 (fV vs)) (hl : vs.length = hds.length) (hn : vs.length < 20) (hok : ∀ i (h : i < vs.length), FOk S vs[i] ((hds[i]?).getD none))
    {K : Value → Heap → Prop} (hK : ∀ (x : Sl) L H' S', PH.le S S' → L.Perm (ixs hds vs.length) → Ord (serOf hds) L L.length → Sat H' S' (ownI x L :: R) → K (.slice x.a x.l x.c) H') : CallsH Tryz.prog 94 #[.slice fv.a fv.l fv.c] H K := by
  apply vc94
  have hfl : fv.l = vs.length := by have := hf.1; simp [fV] at this; omega
  refine makeMap_run hs fun mb h1 hs1 => ?_
  intro b1 h2 f2
  have hs2 : Sat h2 S (lst b1 193 [.map none] :: mp mb [] :: R) := hs1.fresh f2
  refine hs2.store (Nat.le_refl _) fun h3 hs3 => ?_
  have hs3 : Sat h3 S (lst b1 193 [.map (some mb)] :: mp mb [] :: R) := hs3
  refine ⟨fun x n h => ∃ i : Nat, n = i ∧ i ≤ vs.length ∧ ∃ S', PH.le S S' ∧ Sat h S' (ownI x (ixs hds i) :: lst b1 193 [.map (some mb)] :: mp mb (prs hds i) :: R), fun _ n _ => vs.length - n.toNat, ⟨0, rfl, Nat.zero_le _, S, PH.le.refl _, own.new 3 1 hs3⟩, ?_⟩
  rintro x n h4 ⟨i, rfl, hi, S1, hS1, hs4⟩ _
  have hil := ixs_len hds i
  refine CondP.of (fun hc => ?_) (fun hc => ?_)
  · have hc : i < vs.length := by simp at hc; omega
    have e1 : IntKind.i64.wrap ((i : Int) + 1) = ((i + 1 : Nat) : Int) := i64_succ (by omega)
    refine ⟨⟨by omega, by omega⟩, ?_⟩
    obtain ⟨fb, fo, fa, fc⟩ := Rd.at (hf.mono hS1) hs4 (by omega)
    refine NilP.of fa ⟨vs[i], by have := fc.get i (.slice vs[i].a vs[i].l vs[i].c) (by simp [fV, hc]); simpa using this, ?_⟩
    have hfi := (hok i hc).mono hS1
    cases hh : (hds[i]?).getD none with
    | none =>
      rw [hh] at hfi
      obtain ⟨t, t1, t2⟩ := hfi
      refine headOf_torn hs4 t1 t2 fun h5 hs5 hd => ⟨_, _, _, _, _, rfl, ?_⟩
      intro b3 h6 f6
      have hs6 : Sat h6 S1 (lst b3 103 [.int .u64 0, .bool false, .int .u64 0, .int .u64 0] :: ownI x (ixs hds i) :: lst b1 193 [.map (some mb)] :: mp mb (prs hds i) :: R) := hs5.fresh f6
      refine hs6.store (Nat.le_refl _) fun h7 hs7 => CondP.of (fun hc => by cases hc) fun _ => ⟨⟨i + 1, e1, hc, S1, hS1, ?_⟩, ?_⟩
      · have hsg : isSeg hds i = false := by rw [isSeg, hh]; rfl
        have e2 : ixs hds (i + 1) = ixs hds i := by rw [ixs_succ, if_neg (by rw [hsg]; simp), List.append_nil]
        rw [prs, e2]
        exact hs7.drop
      · show vs.length - (IntKind.i64.wrap ((i : Int) + 1)).toNat < vs.length - i
        rw [e1]; show vs.length - (i + 1) < _; omega
    | some hd =>
      rw [hh] at hfi
      obtain ⟨k0, rest, k1, k2⟩ := hfi
      refine headOf_ok hs4 k1 k0 k2 fun h5 S2 hS2 hs5 => ⟨_, _, _, _, _, rfl, ?_⟩
      intro b3 h6 f6
      have hs6 : Sat h6 S2 (lst b3 103 [.int .u64 0, .bool false, .int .u64 0, .int .u64 0] :: ownI x (ixs hds i) :: lst b1 193 [.map (some mb)] :: mp mb (prs hds i) :: R) := hs5.fresh f6
      refine hs6.store (Nat.le_refl _) fun h7 hs7 => CondP.of (fun _ => ?_) fun hc => by cases hc
      have hs7 : Sat h7 S2 (lst b3 103 (hdV hd) :: ownI x (ixs hds i) :: lst b1 193 [.map (some mb)] :: mp mb (prs hds i) :: R) := hs7
      have hsg : isSeg hds i = true := by rw [isSeg, hh]; rfl
      have hse : serOf hds i = hd.serial := by rw [serOf, hh]
      have e2 : ixs hds (i + 1) = ixs hds i ++ [i] := by rw [ixs_succ, if_pos hsg]
      refine ⟨some mb, (hs7.pick 2 rfl).cell 0 rfl, _, hs7.cell 0 rfl, ?_⟩
      refine mapUpdate_run Tryz.underlying193 Tryz.underlying3 (l := prs hds i) (mget_map.2 fun hm => by have := (mem_ixs.1 hm).1; omega) (hs7.sel [3]) fun h8 hs8 => ?_
      intro b4 h9 f9
      have hs9 : Sat h9 S2 (lst b4 3 (iV [i]) :: mp mb (prs hds i ++ [((i : Int), (hd.serial : Int))]) :: lst b3 103 (hdV hd) :: ownI x (ixs hds i) :: lst b1 193 [.map (some mb)] :: R) := hs8.fresh f9
      have hxl := (ownI.len (hs9.pick 3 rfl)).1
      refine append_one el45 (v := x) (xs := iV (ixs hds i)) (hs9.sel [0, 2]) rfl (iV_one _) (by omega) (by unfold maxLen; omega) fun x' h10 hx' hs10 => ⟨⟨i + 1, e1, hc, S2, hS1.trans hS2, ?_⟩, ?_⟩
      · rw [prs, e2]
        have e3 : iV (ixs hds i) ++ iV [i] = iV (ixs hds i ++ [i]) := by simp [iV]
        rw [e3] at hs10
        have hs11 := (hs10.sel [0, 2]).del 3
        rw [List.map_append, List.map_cons, List.map_nil, hse]
        exact hs11
      · show vs.length - (IntKind.i64.wrap ((i : Int) + 1)).toNat < vs.length - i
        rw [e1]; show vs.length - (i + 1) < _; omega
  · have hc : i = vs.length := by simp at hc; omega
    subst hc
    refine sort_spec (ser := serOf hds) hs4 (by omega) (fun l h a b K' ha hb hs' hK' => ?_) fun h5 L hp ho hs5 => ⟨rfl, hK x L h5 S1 hS1 hp ho (hs5.del 1 |>.del 1)⟩
    refine .inl ⟨128, #[], _, rfl, call128, vc128 _ _ b1 0 _ _ ?_⟩
    have c1 := hs'.pick 1 rfl
    refine ⟨some mb, c1.cell 0 rfl, (serOf hds a : Int), lookup_run Tryz.underlying193 Tryz.underlying3 (mget_map.1 ha) (hs'.pick 2 rfl), some mb, c1.cell 0 rfl, (serOf hds b : Int), lookup_run Tryz.underlying193 Tryz.underlying3 (mget_map.1 hb) (hs'.pick 2 rfl), ?_⟩
    exact compare_spec fun n hn => ⟨n, rfl, hK' h n hn hs'⟩
end
end Go.Sx.Tryz
namespace Go.Sx.Tryz
open Go Go.Sx Go.Proofs
set_option linter.unusedVariables false
theorem strict_unique {ser : Nat → Nat} : ∀ {l m : List Nat}, l.Perm m → l.Pairwise (fun a b => ser a ≤ ser b) → m.Pairwise (fun a b => ser a < ser b) → l = m
  | [], m, hp, _, _ => (List.Perm.nil_eq hp)
  | b :: l, [], hp, _, _ => by cases List.Perm.eq_nil hp
  | b :: l, a :: m, hp, hl, hm => by
    have e : b = a := by
      rcases Decidable.em (b = a) with h | h
      · exact h
      · exfalso
        have h1 : a ∈ l := (List.mem_cons.1 (hp.symm.subset List.mem_cons_self)).resolve_left (Ne.symm h)
        have h2 : b ∈ m := (List.mem_cons.1 (hp.subset List.mem_cons_self)).resolve_left h
        have h3 := (List.pairwise_cons.1 hl).1 a h1
        have h4 := (List.pairwise_cons.1 hm).1 b h2
        omega
    subst e
    rw [strict_unique (List.Perm.cons_inv hp) (List.pairwise_cons.1 hl).2 (List.pairwise_cons.1 hm).2]
theorem Ord.pairwise {ser : Nat → Nat} {l : List Nat} (h : Ord ser l l.length) : l.Pairwise fun a b => ser a ≤ ser b := by
  rw [List.pairwise_iff_getElem]
  intro i j hi hj hij
  have := h i j hij hj
  rwa [getD_at hi, getD_at hj] at this
def readAll : Bool → PL → List (List Rec) → Option PL
  | _, g, [] => some g
  | o, g, rs :: l => (rs.foldlM (Rd1.step o) ⟨g, false, 0⟩).bind fun s => readAll false s.g l
theorem readAll_path : ∀ {l : List (List Rec)} {o : Bool} {g g' : PL}, readAll o g l = some g' → ∃ p : Nat → PL, p 0 = g ∧ p l.length = g' ∧ ∀ k (h : k < l.length), ∃ s, l[k].foldlM (Rd1.step (o && k == 0)) ⟨p k, false, 0⟩ = some s ∧ s.g = p (k + 1)
  | [], o, g, g', h => ⟨fun _ => g, rfl, by simpa [readAll] using h, fun k h => by simp at h⟩
  | rs :: l, o, g, g', h => by
    obtain ⟨s, h1, h2⟩ := Option.bind_eq_some_iff.1 h
    obtain ⟨p, p0, p1, p2⟩ := readAll_path h2
    refine ⟨fun i => match i with | 0 => g | i + 1 => p i, rfl, p1, fun k hk => ?_⟩
    cases k with
    | zero => exact ⟨s, by simpa using h1, p0.symm⟩
    | succ k =>
      obtain ⟨s', q1, q2⟩ := p2 k (by simpa using hk)
      refine ⟨s', ?_, q2⟩
      have e : (o && (k + 1 == 0)) = (false && k == 0) := by simp
      rw [e]; exact q1
theorem foldM_con {o : Bool} {rs : List Rec} {s s' : Rd1} (h : rs.foldlM (Rd1.step o) s = some s') (hc : s.g.Con) : s'.g.Con ∧ s'.g.es.length ≤ s.g.es.length + rs.length := by
  obtain ⟨p, p0, p1, p2⟩ := foldM_path h
  have key : ∀ i, i ≤ rs.length → (p i).g.Con ∧ (p i).g.es.length ≤ s.g.es.length + i := by
    intro i
    induction i with
    | zero => intro _; rw [p0]; exact ⟨hc, Nat.le_refl _⟩
    | succ i ih =>
      intro hi
      obtain ⟨h1, h2⟩ := ih (by omega)
      have := p2 i (by omega)
      exact ⟨Rd1.step_con h1 this, by have := Rd1.step_len this; omega⟩
  have := key rs.length (Nat.le_refl _)
  rwa [p1] at this
section
variable {H H' : Heap} {S : PH} {R : List Asn}
def SegOk (S : PH) (x : Sl) (rs : List Rec) (t : List UInt8) : Prop := RdB S x (pbs (rs.map Rec.par) ++ t) ∧ (∀ r ∈ rs, r.ok) ∧ Tail t ∧ x.l < 1000000000 ∧ rs.length < 30000
theorem SegOk.mono {S S' : PH} {x : Sl} {rs : List Rec} {t : List UInt8} (h : SegOk S x rs t) (hs : PH.le S S') : SegOk S' x rs t := ⟨h.1.mono hs, h.2⟩
theorem scan_spec {fv : Sl} {vs : List Sl} {hds : List (Option Hd)} {Ls : List Nat} {rsf : Nat → List Rec} {tl : Nat → List UInt8} {pl : PL} (hs : Sat H S R) (hf : Rd S fv 1 (fV vs)) (hl : vs.length = hds.length) (hn : vs.length < 20) (hok : ∀ i (h : i < vs.length), FOk S vs[i] ((hds[i]?).getD none))
    (hperm : (ixs hds vs.length).Perm Ls) (hstr : Ls.Pairwise fun a b => serOf hds a < serOf hds b)
    (hseg : ∀ k (h : k < Ls.length) (h2 : Ls[k] < vs.length), SegOk S vs[Ls[k]] (rsf Ls[k]) (tl Ls[k]) ∧ (tl Ls[k] = [] ∨ k + 1 = Ls.length))
    (hrun : readAll true ⟨0, 0, []⟩ (Ls.map rsf) = some pl)
    {K : Value → Heap → Prop} (hK : ∀ (x : Sl) (y : Sl) (g : Lg) H' S', PH.le S S' → g.pure = pl → eok S' g.es → Sat H' S' (ownE y g.es :: ownI x Ls :: R) → K (.tuple #[.agg (lgV g.fi g.ft y).toArray, .slice x.a x.l x.c, .int .i64 0]) H') : CallsH Tryz.prog 38 #[.slice fv.a fv.l fv.c] H K := by
  apply vc38
  intro b1 h1 f1
  have hs1 : Sat h1 S (lst b1 94 (lgV 0 0 ⟨none, 0, 0⟩) :: R) := hs.fresh f1
  have hs2 : Sat h1 S (lgA b1 94 ⟨0, 0, []⟩ :: R) := lgA_shut (g := ⟨0, 0, []⟩) (own.new 85 3 hs1).swap
  have hfl : fv.l = vs.length := by have := hf.1; simp [fV] at this; omega
  refine order_spec hs2 hf hl hn hok fun x L h2 S1 hS1 hp ho hs3 => ⟨x, rfl, ?_⟩
  have hL : L = Ls := strict_unique (hp.trans hperm) ho.pairwise hstr
  subst hL
  have hLl : L.length < 20 := by rw [hp.length_eq]; have := ixs_len hds vs.length; omega
  have hmem : ∀ k (h : k < L.length), L[k] < vs.length := fun k h => (mem_ixs.1 (hp.subset (List.getElem_mem h))).1
  obtain ⟨p, p0, p1, p2⟩ := readAll_path hrun
  have hxl := (ownI.len hs3).1
  have hpc : ∀ k, k ≤ L.length → (p k).Con ∧ (p k).es.length ≤ k * 30000 := by
    intro k
    induction k with
    | zero => intro _; rw [p0]; exact ⟨PL.Con.nil 0 0, by simp⟩
    | succ k ih =>
      intro hk
      obtain ⟨h1, h2⟩ := ih (by omega)
      obtain ⟨s, q1, q2⟩ := p2 k (by rw [List.length_map]; omega)
      have := foldM_con q1 h1
      rw [q2] at this
      have h3 := ((hseg k hk (hmem k hk)).1).2.2.2.2
      simp only [List.getElem_map] at this
      exact ⟨this.1, by have h4 := this.2; rw [Nat.add_mul]; omega⟩
  refine ⟨fun y n h => ∃ k : Nat, y = x ∧ n = k ∧ k ≤ L.length ∧ ∃ S' g, PH.le S1 S' ∧ eok S' g.es ∧ g.pure = p k ∧ Sat h S' (lgA b1 94 g :: ownI x L :: R), fun _ n _ => L.length - n.toNat, ⟨0, rfl, rfl, Nat.zero_le _, S1, ⟨0, 0, []⟩, PH.le.refl _, (fun x hx => by cases hx), p0.symm, hs3.swap⟩, ?_⟩
  rintro y n h3 ⟨k, rfl, rfl, hk, S2, g, hS2, hg, hgp, hs4⟩ _
  refine CondP.of (fun hc => ?_) (fun hc => ?_)
  · have hc : k < L.length := by simp at hc; omega
    have hm := hmem k hc
    refine ⟨⟨by omega, by omega⟩, ?_⟩
    obtain ⟨gb, ga, gc⟩ := ownI.at hs4.swap hc
    refine NilP.of ga ⟨_, gc k hc, ⟨by omega, by omega⟩, ?_⟩
    obtain ⟨fb, fo, fa, fc⟩ := Rd.at (hf.mono (hS1.trans hS2)) hs4 (by omega)
    refine NilP.of fa ⟨vs[L[k]], by have := fc.get L[k] (.slice vs[L[k]].a vs[L[k]].l vs[L[k]].c) (by simp [fV, hm]); simpa using this, ?_⟩
    obtain ⟨⟨g1, g2, g3, g4, g5⟩, g6⟩ := hseg k hc hm
    obtain ⟨s, q1, q2⟩ := p2 k (by simpa using hc)
    have e1 : ((k : Int) == 0) = (true && k == 0) := by
      have := beq_nat_int k 0
      simpa using this
    have e2 : ((k : Int) == IntKind.i64.wrap (((y.l : Nat) : Int) - 1)) = decide (k + 1 = L.length) := by
      rw [i64_in (by omega) (by omega), hxl]
      rcases Decidable.em (k + 1 = L.length) with h | h
      · rw [decide_eq_true h, show (k : Int) = ((L.length : Nat) : Int) - 1 by omega]; simp
      · rw [decide_eq_false h]
        exact beq_eq_false_iff_ne.2 (by omega)
    rw [e1, e2]
    simp only [List.getElem_map] at q1
    rw [← hgp] at q1
    have hpk := hpc k hk
    rw [← hgp] at hpk
    have hgl : g.es.length ≤ k * 30000 := by have := hpk.2; simpa [Lg.pure] using this
    refine read_ok hs4 hg (g1.mono (hS1.trans hS2)) g2 g3 (g6.imp id fun h => decide_eq_true h) q1 hpk.1 (by omega) g4 fun h4 S3 g' hS3 hg' hgp' hs5 => ⟨_, rfl, CondP.of (fun hc => by cases hc) fun _ => ?_⟩
    rw [i64_succ (by omega)]
    refine ⟨⟨k + 1, rfl, rfl, hc, S3, g', hS2.trans hS3, hg', by rw [hgp', q2], hs5⟩, ?_⟩
    show L.length - (k + 1) < L.length - k; omega
  · have hc : k = L.length := by simp at hc; omega
    subst hc
    obtain ⟨z, hs5⟩ := lgA_open hs4
    refine ⟨_, _, ⟨none, 0, 0⟩, z, hs5.cells 0 rfl, ?_⟩
    refine hs5.store (by simp [lgV]) fun h6 hs6 => ?_
    have hs6 : Sat h6 S2 (lst b1 94 (lgV g.fi g.ft z) :: ownE z g.es :: ownI y L :: R) := hs6
    refine ⟨_, _, ⟨none, 0, 0⟩, z, hs6.cells 0 rfl, ?_⟩
    refine hK y z g h6 S2 (hS1.trans hS2) ?_ hg hs6.drop
    rw [hgp]
    have := p1
    rw [List.length_map] at this
    exact this
end
end Go.Sx.Tryz
namespace Go.Sx.Tryz
open Go Go.Sx Go.Proofs
set_option maxRecDepth 100000
set_option linter.unusedVariables false
noncomputable def c10 : Code := (Tryz.f10.body).getD .skip
def a10 : Ann := (.seq .leaf (.seq .leaf .leaf))
theorem ok10 : okC tab 3 true c10 a10 = true := by kernel_rfl
theorem vc10  (h : Heap) (R : Value → Heap → Prop)
  (hv : ∀ b1 h1, Fresh h (.cells #[.slice none 0 0, .int .i64 0, .slice none 0 0, .int .i64 0, .slice none 0 0, .int .i64 0, .slice none 0 0, .int .i64 0, .slice none 0 0, .int .i64 0, .slice none 0 0, .int .i64 0, .slice none 0 0, .int .i64 0, .slice none 0 0, .int .i64 0, .slice none 0 0, .int .i64 0, .slice none 0 0, .int .i64 0, .slice none 0 0, .int .i64 0, .slice none 0 0, .int .i64 0, .slice none 0 0, .int .i64 0, .slice none 0 0, .int .i64 0, .slice none 0 0, .int .i64 0, .slice none 0 0, .int .i64 0, .slice none 0 0, .int .i64 0, .slice none 0 0, .int .i64 0, .slice none 0 0, .int .i64 0, .slice none 0 0, .int .i64 0, .slice none 0 0, .int .i64 0, .slice none 0 0, .int .i64 0, .slice none 0 0, .int .i64 0, .slice none 0 0, .int .i64 0, .slice none 0 0, .int .i64 0, .slice none 0 0, .int .i64 0, .slice none 0 0, .int .i64 0, .slice none 0 0, .int .i64 0, .slice none 0 0, .int .i64 0, .slice none 0 0, .int .i64 0, .slice none 0 0, .int .i64 0, .slice none 0 0, .int .i64 0, .bool false, .int .i64 0, .bool false, .int .i64 0] 92) b1 h1 →
   R (.pointer (some ⟨b1, 0, none⟩)) h1) :
  CallsH Tryz.prog 10 #[] h R :=
  calls_of_vc tabOk mixed Tryz.func10 (c := c10) (by kernel_rfl) (n := 3) rfl (rs := [.tmp 0]) (by kernel_rfl) ok10 (args := []) (Nat.le_of_ble_eq_true rfl) (Eq.mpr (by kernel_rfl) hv)
end Go.Sx.Tryz
