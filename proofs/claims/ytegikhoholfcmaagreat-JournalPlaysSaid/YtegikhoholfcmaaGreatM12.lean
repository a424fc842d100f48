/-
  Part 12 of the proof: L01, P07, V48, V8, L02, V13, V9.
-/
import Derived.Test.YtegikhoholfcmaaGreatM11
namespace Go.Sx.Tryz
open Go Go.Sx Go.Proofs
set_option linter.unusedVariables false
set_option maxRecDepth 20000
section
variable {H H' : Heap} {S : PH} {R : List Asn}
def stV (s : PL) (x : Sl) : List Value := [.int .u64 (s.fi : Int), .int .u64 (s.ft : Int), .slice none 0 0, .slice x.a x.l x.c]
def zsV : List Value := [.int .u64 0, .int .u64 0, .slice none 0 0, .slice none 0 0]
theorem slast_spec {s : PL} {x : Sl} (hs : Sat H S R) (hx : EL S x s.es) (hlen : s.es.length < 100000000)
    {K : Value → Heap → Prop} (hK : ∀ (y : Sl) H', Sat H' S R → K (.agg #[.int .u64 (s.last.1 : Int), .int .u64 (s.last.2 : Int), .slice y.a y.l y.c]) H') : CallsH Tryz.prog 18 #[.agg (stV s x).toArray] H K := by
  refine vc18 (s.fi : Int) (s.ft : Int) ⟨none, 0, 0⟩ x H K ?_
  intro b1 h1 f1 b2 h2 f2
  have hs1 : Sat h1 S (lst b1 38 (stV s x) :: R) := hs.fresh f1
  have hs2 : Sat h2 S (lst b2 35 [.int .u64 0, .int .u64 0, .slice none 0 0] :: lst b1 38 (stV s x) :: R) := hs1.fresh f2
  refine ⟨_, _, ⟨none, 0, 0⟩, hs2.swap.cells 0 rfl, x, hs2.swap.cell 3 rfl, ?_⟩
  refine rlast_spec (g := s) (n := 0) hs2 hx hlen fun y h3 hs3 => ⟨_, _, y, rfl, ?_⟩
  refine hs3.store (by simp) fun h4 hs4 => ?_
  have hs4 : Sat h4 S (lst b2 35 [.int .u64 (s.last.1 : Int), .int .u64 (s.last.2 : Int), .slice y.a y.l y.c] :: lst b1 38 (stV s x) :: R) := hs4
  exact ⟨_, _, y, hs4.cells 0 rfl, hK y h4 hs4.drop.drop⟩
structure Op1 where
  kind : Int
  many : Int
  odd : Int
  n : Nat
  t : Nat
  b : List UInt8
def opV (o : Op1) (x : Sl) : List Value := [.int .i64 o.kind, .int .i64 o.many, .int .i64 o.odd, .int .u64 (o.n : Int), .int .u64 (o.t : Int), .slice x.a x.l x.c]
def PL.fromN (s : PL) (n : Nat) : Nat := s.last.1 + 1 - min (n % 20) (s.last.1 + 1)
theorem from_spec {s : PL} {x z : Sl} {o : Op1} (hs : Sat H S R) (hx : EL S x s.es) (hlen : s.es.length < 100000000) (hb : s.last.1 < 9223372036854775808)
    {K : Value → Heap → Prop} (hK : ∀ H', Sat H' S R → K (.int .u64 (s.fromN o.n : Int)) H') : CallsH Tryz.prog 44 #[.agg (stV s x).toArray, .agg (opV o z).toArray] H K := by
  refine vc44 (s.fi : Int) (s.ft : Int) ⟨none, 0, 0⟩ x o.kind o.many o.odd (o.n : Int) (o.t : Int) z H K ?_
  intro b1 h1 f1 b2 h2 f2
  have hs1 : Sat h1 S (lst b1 38 (stV s x) :: R) := hs.fresh f1
  have hs2 : Sat h2 S (lst b2 40 (opV o z) :: lst b1 38 (stV s x) :: R) := hs1.fresh f2
  refine ⟨_, _, ⟨none, 0, 0⟩, x, hs2.swap.cells 0 rfl, _, hs2.cell 3 rfl, by decide, _, _, ⟨none, 0, 0⟩, x, hs2.swap.cells 0 rfl, ?_⟩
  refine slast_spec hs2 hx hlen fun y h3 hs3 => ⟨_, _, y, rfl, hs3.swap.cells 0 rfl, hs3.cell 3 rfl, ?_⟩
  refine slast_spec hs3 hx hlen fun y2 h4 hs4 => ⟨_, _, y2, rfl, hs4.cell 3 rfl, ?_⟩
  have e1 : IntKind.u64.wrap ((s.last.1 : Int) + 1) = ((s.last.1 + 1 : Nat) : Int) := u64_add (j := 1) (by omega)
  have e2 : Int.tmod (o.n : Int) 20 = ((o.n % 20 : Nat) : Int) := tmod_nat _ 20
  have e3 : (if ((s.last.1 + 1 : Nat) : Int) < ((o.n % 20 : Nat) : Int) then ((s.last.1 + 1 : Nat) : Int) else ((o.n % 20 : Nat) : Int)) = ((min (o.n % 20) (s.last.1 + 1) : Nat) : Int) := by split <;> omega
  rw [e1, e2, e3, u64_sub (by omega) (by omega)]
  exact hK h4 hs4.drop.drop
theorem upto_spec {s : PL} {x : Sl} {fr : Nat} (hs : Sat H S R) (hx : EL S x s.es) (hlen : s.es.length < 1000000) (h1 : s.fi < fr) (h2 : fr - 1 - s.fi ≤ s.es.length) (h3 : fr < 9223372036854775808)
    {K : Value → Heap → Prop} (hK : ∀ (y : Sl) H' S', PH.le S S' → EL S' y (s.es.take (fr - 1 - s.fi)) → Sat H' S' R → K (.agg (stV ⟨s.fi, s.ft, s.es.take (fr - 1 - s.fi)⟩ y).toArray) H') : CallsH Tryz.prog 45 #[.agg (stV s x).toArray, .int .u64 (fr : Int)] H K := by
  refine vc45 (s.fi : Int) (s.ft : Int) ⟨none, 0, 0⟩ x (fr : Int) H K ?_
  intro b1 g1 f1 b2 g2 f2 b3 g3 f3
  have hs1 : Sat g1 S (lst b1 38 (stV s x) :: R) := hs.fresh f1
  have hs2 : Sat g2 S (lst b2 38 zsV :: lst b1 38 (stV s x) :: R) := hs1.fresh f2
  have hs3 := newL hs2 f3
  have e1 : IntKind.u64.wrap (IntKind.u64.wrap ((fr : Int) - 1) - (s.fi : Int)) = ((fr - 1 - s.fi : Nat) : Int) := by
    rw [u64_in (n := (fr : Int) - 1) (by omega) (by omega), u64_in (by omega) (by omega)]; omega
  obtain ⟨hyl, hyc⟩ := EL.len hx
  have hb1 := hs3.pick 2 rfl
  refine ⟨x, hb1.cell 3 rfl, _, hb1.cell 0 rfl, ?_⟩
  rw [e1]
  simp only [Int.toNat_natCast]
  refine ⟨⟨by omega, by omega, by omega⟩, ?_⟩
  refine appL el36 hs3 (hx.take (k := fr - 1 - s.fi) h2) (by rw [List.length_take]; simp; omega) fun v' g4 ys hy1 hy2 hs4 => ?_
  obtain ⟨S1, q1, q2, q3⟩ := sealL (us := ys) hs4 hy2
  rw [hy1] at q2
  refine (q3.pick 1 rfl).store (by simp [stV]) fun g5 hs5 => ?_
  have hs5 : Sat g5 S1 (lst b1 38 (stV ⟨s.fi, s.ft, s.es.take (fr - 1 - s.fi)⟩ v') :: lst b2 38 zsV :: R) := hs5
  refine ⟨_, _, ⟨none, 0, 0⟩, v', hs5.cells 0 rfl, ?_⟩
  refine hs5.swap.store (by simp [zsV]) fun g6 hs6 => ?_
  have hs6 : Sat g6 S1 (lst b2 38 (stV ⟨s.fi, s.ft, s.es.take (fr - 1 - s.fi)⟩ v') :: lst b1 38 (stV ⟨s.fi, s.ft, s.es.take (fr - 1 - s.fi)⟩ v') :: R) := hs6
  exact ⟨_, _, ⟨none, 0, 0⟩, v', hs6.cells 0 rfl, hK v' g6 S1 q1 q2 hs6.drop.drop⟩
theorem plain_spec {x : Sl} {l : List Ent} (hs : Sat H S R) (hx : EL S x l) (hlen : l.length < 1000000)
    {K : Value → Heap → Prop} (hK : ∀ (y : Sl) H' S', PH.le S S' → EL S' y l → Sat H' S' R → K (.slice y.a y.l y.c) H') : CallsH Tryz.prog 31 #[.slice x.a x.l x.c] H K := by
  apply vc31
  obtain ⟨hl, hc⟩ := EL.len hx
  refine ⟨fun v n h => ∃ (i : Nat) (us : List EB), n = i ∧ i ≤ l.length ∧ us.map (·.1) = l.take i ∧ (∀ q ∈ us, RdB S q.2 q.1.b) ∧ Sat h S (own 35 3 v (entV us) :: R), fun _ n _ => l.length - n.toNat, ⟨0, [], rfl, Nat.zero_le _, rfl, (fun q hq => by cases hq), own.new 35 3 hs⟩, ?_⟩
  rintro v n h1 ⟨i, us, rfl, hi, hus, hub, hs1⟩ _
  refine CondP.of (fun hc => ?_) (fun hc => ?_)
  · have hc : i < l.length := by simp at hc; omega
    obtain ⟨g, o, z, ga, gc, gz⟩ := hx.at hs1 hc
    refine ⟨⟨by omega, by omega⟩, NilP.of ga ⟨_, _, z, gc, ?_⟩⟩
    intro b2 h2 f2
    have hs2 := hs1.fresh f2
    refine Sat.store (T := 85) (l := [.int .u64 0, .int .u64 0, .slice none 0 0]) hs2 (Nat.le_refl _) fun h3 hs3 => ?_
    have hs3 : Sat h3 S (lst b2 85 (eV (l[i], z)) :: own 35 3 v (entV us) :: R) := hs3
    refine ⟨_, _, z, hs3.cells 0 rfl, ?_⟩
    intro b3 h4 f4
    have hs4 : Sat h4 S (lst b3 35 (eV (l[i], z)) :: lst b2 85 (eV (l[i], z)) :: own 35 3 v (entV us) :: R) := hs3.fresh f4
    have hul : us.length = i := by have := congrArg List.length hus; simp at this; omega
    refine onesL (us := us) el36 (hs4.sel [0, 1]) (by omega) fun v' h5 hs5 => ?_
    rw [i64_succ (by omega)]
    refine ⟨⟨i + 1, us ++ [(l[i], z)], rfl, hc, ?_, fun q hq => ?_, hs5.del 1⟩, by simp only [Int.toNat_natCast]; omega⟩
    · rw [List.map_append, hus, List.take_succ_eq_append_getElem hc]; rfl
    · rcases List.mem_append.1 hq with h | h
      · exact hub q h
      · simp only [List.mem_singleton] at h
        subst h; exact gz
  · have hc : i = l.length := by simp at hc; omega
    subst hc
    rw [List.take_length] at hus
    obtain ⟨S1, q1, q2, q3⟩ := sealL (us := us) hs1 hub
    rw [hus] at q2
    exact hK v h1 S1 q1 q2 q3
theorem toList_mk (l : List UInt8) : (ByteArray.mk l.toArray).toList = l := by
  rw [ByteArray.toList_eq]
theorem same_spec {x y : Sl} {l m : List Ent} (hs : Sat H S R) (hx : EL S x l) (hy : EL S y m) (hlen : l.length < 1000000) (hlm : m.length < 1000000)
    {K : Value → Heap → Prop} (hK : ∀ b, (b = true ↔ l = m) → K (.bool b) H) : CallsH Tryz.prog 30 #[.slice x.a x.l x.c, .slice y.a y.l y.c] H K := by
  apply vc30
  obtain ⟨hl, hc⟩ := EL.len hx
  obtain ⟨hl2, hc2⟩ := EL.len hy
  refine CondP.of (fun hne => ?_) (fun heq => ?_)
  · refine hK false ⟨fun h => (by cases h), fun h => ?_⟩
    subst h
    rw [hl, hl2] at hne; simp at hne
  have hlen2 : l.length = m.length := by
    have : (x.l : Int) = (y.l : Int) := by simpa using heq
    omega
  refine ⟨fun n h => ∃ i : Nat, n = i ∧ i ≤ l.length ∧ l.take i = m.take i ∧ h = H, fun n _ => l.length - n.toNat, ⟨0, rfl, Nat.zero_le _, rfl, rfl⟩, ?_⟩
  rintro n h1 ⟨i, rfl, hi, hti, rfl⟩ _
  refine CondP.of (fun hc => ?_) (fun hc => ?_)
  · have hil : i < l.length := by simp at hc; omega
    have him : i < m.length := by omega
    obtain ⟨g, o, z, ga, gc, gz⟩ := hx.at hs hil
    obtain ⟨g2, o2, z2, ga2, gc2, gz2⟩ := hy.at hs him
    have no : l[i] ≠ m[i] → K (.bool false) h1 := fun hne => hK false ⟨fun h => (by cases h), fun h => absurd (by subst h; rfl) hne⟩
    simp only [Int.toNat_natCast]
    refine ⟨⟨by omega, by omega⟩, NilP.of ga ⟨_, gc.get 0 _ rfl, ⟨by omega, by omega⟩, NilP.of ga2 ⟨_, gc2.get 0 _ rfl, CondP.of (fun hne => no ?_) (fun he1 => ?_)⟩⟩⟩
    · intro h; rw [h] at hne; simp at hne
    refine ⟨⟨by omega, by omega⟩, NilP.of ga ⟨_, gc.get 1 _ rfl, ⟨by omega, by omega⟩, NilP.of ga2 ⟨_, gc2.get 1 _ rfl, CondP.of (fun hne => no ?_) (fun he2 => ?_)⟩⟩⟩
    · intro h; rw [h] at hne; simp at hne
    refine ⟨⟨by omega, by omega⟩, NilP.of ga ⟨z, gc.get 2 _ rfl, ⟨(l[i]).b.toArray⟩, StrOf.ofRd gz hs, ⟨by omega, by omega⟩, NilP.of ga2 ⟨z2, gc2.get 2 _ rfl, ⟨(m[i]).b.toArray⟩, StrOf.ofRd gz2 hs, ?_⟩⟩⟩
    rw [toList_mk, toList_mk]
    refine CondP.of (fun hne => no ?_) (fun he3 => ?_)
    · intro h; rw [h] at hne; simp at hne
    have q1 : (l[i]).i = (m[i]).i := by
      have : ((l[i]).i : Int) = ((m[i]).i : Int) := by simpa using he1
      omega
    have q2 : (l[i]).t = (m[i]).t := by
      have : ((l[i]).t : Int) = ((m[i]).t : Int) := by simpa using he2
      omega
    have q3 : (l[i]).b = (m[i]).b := by simpa using he3
    rw [i64_succ (by omega)]
    refine ⟨⟨i + 1, rfl, hil, ?_, trivial⟩, by omega⟩
    rw [List.take_succ_eq_append_getElem hil, List.take_succ_eq_append_getElem him, hti]
    congr 2
    cases hli : l[i]
    cases hmi : m[i]
    rw [hli, hmi] at q1 q2 q3
    simp only at q1 q2 q3
    rw [q1, q2, q3]
  · have hil : i = l.length := by simp at hc; omega
    subst hil
    rw [List.take_length, hlen2, List.take_length] at hti
    exact hK true ⟨fun _ => hti, fun _ => rfl⟩
theorem entry_spec {i t : Nat} (hs : Sat H S R) {K : Value → Heap → Prop} (hK : ∀ (y : Sl) H' S', PH.le S S' → RdB S' y [120] → Sat H' S' R → K (.agg (eV (⟨i, t, [120]⟩, y)).toArray) H') : CallsH Tryz.prog 34 #[.int .u64 (i : Int), .int .u64 (t : Int)] H K := by
  apply vc34
  intro b1 h1 f1 b2 h2 f2
  have hs1 : Sat h1 S (lst b1 85 [.int .u64 0, .int .u64 0, .slice none 0 0] :: R) := hs.fresh f1
  have hs2 : Sat h2 S (lst b2 5 (bv [120]) :: lst b1 85 [.int .u64 0, .int .u64 0, .slice none 0 0] :: R) := hs1.fresh f2
  intro w hw
  have hb := Sat.blk hs2
  rw [← hw] at hb
  have hsh : w.shape? b2 = some (5, 1) := by simp only [World.shape?, hb]; rfl
  have hf1 : (w.freeze ⟨b2, 1, none⟩ 1).heap = w.heap.modify b2 (fun | .cells c elem (lo, hi) => .cells c elem (if lo == hi then (1, 1 + 1) else (min lo 1, max hi (1 + 1))) | o => o) := rfl
  refine ⟨⟨some ⟨b2, 0, none⟩, 1, 1⟩, w.freeze ⟨b2, 1, none⟩ 1, ?_, ⟨rfl, rfl, rfl⟩, ?_⟩
  · simp [convert, K1.mk, run_underlying Tryz.underlying33, run_underlying Tryz.underlying5, markStringish, hsh]
  · have hs3 : Sat (w.freeze ⟨b2, 1, none⟩ 1).heap S (blk b2 (.cells (bv [120]).toArray 5 (1, 2)) :: lst b1 85 [.int .u64 0, .int .u64 0, .slice none 0 0] :: R) := by
      refine Sat.turn (H := h2) hs2 ?_ fun c hc => ?_
      · rw [hf1, Array.getElem?_modify, if_pos rfl, hb]; rfl
      · rw [hf1, Array.getElem?_modify, if_neg (Ne.symm hc), hw]
    obtain ⟨S1, q1, q2, q3⟩ := hs3.fixd
    have hrd : RdB S1 ⟨some ⟨b2, 0, none⟩, 1, 1⟩ [120] := ⟨rfl, Nat.le_refl _, .inr ⟨b2, 0, _, _, _, rfl, q2, fun j x hx => by simpa using hx⟩⟩
    refine q3.store (by simp) fun h4 hs4 => ?_
    have hs4 : Sat h4 S1 (lst b1 85 (eV (⟨i, t, [120]⟩, ⟨some ⟨b2, 0, none⟩, 1, 1⟩)) :: R) := hs4
    exact ⟨_, _, ⟨some ⟨b2, 0, none⟩, 1, 1⟩, hs4.cells 0 rfl, hK _ h4 S1 q1 hrd hs4.drop⟩
theorem files_spec {d first many : Nat} {D : Dk} (hs : Sat H S (dsk d D :: R)) (hm2 : first + many ≤ 32)
    {K : Value → Heap → Prop} (hK : ∀ (fv : Sl) (vs : List Sl) H' S', PH.le S S' → vs.length = many → Rd S' fv 1 (fV vs) → (∀ i (h : i < vs.length), RdB S' vs[i] (D.f (first + i)).b) → Sat H' S' (dsk d D :: R) → K (.slice fv.a fv.l fv.c) H') :
    CallsH Tryz.prog 52 #[.pointer (some ⟨d, 0, none⟩), .int .i64 (first : Int), .int .i64 (many : Int)] H K := by
  apply vc52
  refine ⟨fun x n h => ∃ k : Nat, n = k ∧ k ≤ many ∧ ∃ (S' : PH) (vs : List Sl), PH.le S S' ∧ vs.length = k ∧ (∀ i (h : i < vs.length), RdB S' vs[i] (D.f (first + i)).b) ∧ Sat h S' (own 33 1 x (fV vs) :: dsk d D :: R), fun _ n _ => many - n.toNat, ⟨0, rfl, Nat.zero_le _, S, [], PH.le.refl _, rfl, (fun i h => by simp at h), own.new 33 1 hs⟩, ?_⟩
  rintro x n h5 ⟨k, rfl, hk, S1, vs, hS1, hvl, hvs, hs5⟩ _
  have hxl := (own.len hs5).1
  simp only [fV, List.length_map, Nat.mul_one] at hxl
  refine CondP.of (fun hc => ?_) (fun hc => ?_)
  · have hc : k < many := by simp at hc; omega
    rw [i64_add (by omega)]
    refine read_spec (i := first + k) (by omega) hs5.swap fun x2 h6 S2 hS2 hx2 hs6 => ⟨x2, rfl, ?_⟩
    intro b3 h7 f7
    have hs7 : Sat h7 S2 (lst b3 33 (fV [x2]) :: dsk d D :: own 33 1 x (fV vs) :: R) := hs6.fresh f7
    refine append_one el98 (v := x) (xs := fV vs) (hs7.sel [0, 1]) rfl (fV_one _) (by omega) (by unfold maxLen; omega) fun v' h8 hv' hs8 => ?_
    rw [i64_succ (by omega)]
    refine ⟨⟨k + 1, rfl, hc, S2, vs ++ [x2], hS1.trans hS2, by simp [hvl], fun i h => ?_, ?_⟩, by simp only [Int.toNat_natCast]; omega⟩
    · rcases Nat.lt_or_ge i vs.length with h1 | h1
      · rw [List.getElem_append_left h1]; exact (hvs i h1).mono hS2
      · have : i = vs.length := by simp at h; omega
        subst this
        rw [List.getElem_append_right (Nat.le_refl _)]
        simp only [Nat.sub_self, List.getElem_cons_zero]
        rw [hvl]; exact hx2
    · have e : fV vs ++ fV [x2] = fV (vs ++ [x2]) := by simp [fV]
      rw [e] at hs8
      exact hs8
  · have hc : k = many := by simp at hc; omega
    subst hc
    obtain ⟨S2, q1, q2, hs6⟩ := own.fixd hs5
    exact hK x vs h5 S2 (hS1.trans q1) hvl q2 (fun i h => (hvs i h).mono q1) hs6
def PL.raised (s : PL) (fi ft most : Nat) : PL × Bool :=
  if fi = s.fi ∧ ft = s.ft then (s, true) else
  match s.es.findIdx? (fun e => e.i == fi && (e.t == ft && decide (fi ≤ most))) with
  | some k => (⟨fi, ft, s.es.drop (k + 1)⟩, true)
  | none => (s, false)
theorem raised_spec {s : PL} {x : Sl} {jb most : Nat} {J : Jn} (hs : Sat H S (jA jb J :: R)) (hx : EL S x s.es) (hlen : s.es.length < 1000000)
    {K : Value → Heap → Prop} (hK : ∀ (y : Sl) H' S', PH.le S S' → EL S' y (s.raised J.log.fi J.log.ft most).1.es → Sat H' S' (jA jb J :: R) → K (.tuple #[.agg (stV (s.raised J.log.fi J.log.ft most).1 y).toArray, .bool (s.raised J.log.fi J.log.ft most).2]) H') :
    CallsH Tryz.prog 17 #[.agg (stV s x).toArray, .pointer (some ⟨jb, 0, none⟩), .int .u64 (most : Int)] H K := by
  refine vc17 (s.fi : Int) (s.ft : Int) ⟨none, 0, 0⟩ x jb 0 (most : Int) H K ?_
  intro b1 h1 f1 b2 h2 f2
  have hs1 : Sat h1 S (lst b1 38 (stV s x) :: jA jb J :: R) := hs.fresh f1
  have hs2 : Sat h2 S (lst b2 38 zsV :: lst b1 38 (stV s x) :: jA jb J :: R) := hs1.fresh f2
  obtain ⟨hl, hlc⟩ := EL.len hx
  generalize hfi : J.log.fi = fi at *
  generalize hft : J.log.ft = ft at *
  refine floor_spec (hs2.pick 2 rfl) ⟨_, _, rfl, ?_⟩
  rw [hfi, hft]
  have same : ∀ (bb : Bool), s.raised fi ft most = (s, bb) → ∃ n3 : Int, ∃ n4 : Int, ∃ x1 : Sl, ∃ x2 : Sl, CellsAt h2 b1 0 [.int .u64 n3, .int .u64 n4, .slice x1.a x1.l x1.c, .slice x2.a x2.l x2.c] ∧
      CanSt h2 b2 0 [.int .u64 n3, .int .u64 n4, .slice x1.a x1.l x1.c, .slice x2.a x2.l x2.c] ∧ ∀ h5, Stored h2 b2 0 [.int .u64 n3, .int .u64 n4, .slice x1.a x1.l x1.c, .slice x2.a x2.l x2.c] h5 →
      ∃ n5 : Int, ∃ n6 : Int, ∃ x3 : Sl, ∃ x4 : Sl, CellsAt h5 b2 0 [.int .u64 n5, .int .u64 n6, .slice x3.a x3.l x3.c, .slice x4.a x4.l x4.c] ∧
      K (.tuple #[.agg #[.int .u64 n5, .int .u64 n6, .slice x3.a x3.l x3.c, .slice x4.a x4.l x4.c], .bool bb]) h5 := by
    intro bb hr
    refine ⟨_, _, ⟨none, 0, 0⟩, x, hs2.swap.cells 0 rfl, ?_⟩
    refine hs2.store (by simp [zsV]) fun h5 hs3 => ?_
    have hs3 : Sat h5 S (lst b2 38 (stV s x) :: lst b1 38 (stV s x) :: jA jb J :: R) := hs3
    refine ⟨_, _, ⟨none, 0, 0⟩, x, hs3.cells 0 rfl, ?_⟩
    have := hK x h5 S (PH.le.refl _) (by rw [hr]; exact hx) hs3.drop.drop
    rw [hr] at this; exact this
  refine ⟨fun t h => h = h2 ∧ t = decide (fi = s.fi ∧ ft = s.ft), ?_, ?_⟩
  · rintro t h4 ⟨rfl, rfl⟩ _
    refine CondP.of (fun hc => ?_) (fun hc => ?_)
    · have hc := of_decide_eq_true hc
      exact same true (by rw [PL.raised, if_pos hc])
    have hc := of_decide_eq_false hc
    have hr : s.raised fi ft most = (match s.es.findIdx? (fun e => e.i == fi && (e.t == ft && decide (fi ≤ most))) with
      | some k => (⟨fi, ft, s.es.drop (k + 1)⟩, true)
      | none => (s, false)) := by rw [PL.raised, if_neg hc]
    refine ⟨x, hs2.swap.cell 3 rfl, fun n h => ∃ i : Nat, n = i ∧ i ≤ s.es.length ∧ (∀ j (hj : j < s.es.length), j < i → (fun e : Ent => e.i == fi && (e.t == ft && decide (fi ≤ most))) s.es[j] = false) ∧ Sat h S (lst b2 38 zsV :: lst b1 38 (stV s x) :: jA jb J :: R), fun n _ => s.es.length - n.toNat, ⟨0, rfl, Nat.zero_le _, (fun j _ h => by omega), hs2⟩, ?_⟩
    rintro n h6 ⟨i, rfl, hi, hpre, hs3⟩ _
    refine CondP.of (fun hc2 => ?_) (fun hc2 => ?_)
    · have hil : i < s.es.length := by simp at hc2; omega
      obtain ⟨g, o, z, ga, gc, gz⟩ := hx.at hs3 hil
      refine ⟨⟨by omega, by omega⟩, NilP.of ga ⟨_, _, z, gc, ?_⟩⟩
      intro b4 h7 f7
      have hs4 := hs3.fresh f7
      refine Sat.store (T := 35) (l := [.int .u64 0, .int .u64 0, .slice none 0 0]) hs4 (Nat.le_refl _) fun h8 hs5 => ?_
      have hs5 : Sat h8 S (lst b4 35 (eV (s.es[i], z)) :: lst b2 38 zsV :: lst b1 38 (stV s x) :: jA jb J :: R) := hs5
      rw [i64_succ (by omega)]
      simp only [Int.toNat_natCast]
      refine ⟨fun t h => h = h8 ∧ t = ((s.es[i]).i == fi && ((s.es[i]).t == ft && decide (fi ≤ most))), ?_, ?_⟩
      · rintro t h9 ⟨rfl, rfl⟩ _
        refine CondP.of (fun hp => ?_) (fun hp => ?_)
        · have hfd : s.es.findIdx? (fun e => e.i == fi && (e.t == ft && decide (fi ≤ most))) = some i := by
            rw [List.findIdx?_eq_some_iff_getElem]
            exact ⟨hil, hp, fun j hj => by have := hpre j (by omega) hj; simpa using this⟩
          rw [hfd] at hr
          have hr : s.raised fi ft most = (⟨fi, ft, s.es.drop (i + 1)⟩, true) := hr
          intro b5 h10 f10
          have hs6 := newL hs5 f10
          refine ⟨x, (hs6.pick 3 rfl).cell 3 rfl, ⟨by omega, by omega⟩, ?_⟩
          refine appL el36 hs6 (hx.drop (k := i + 1) hil) (by rw [List.length_drop]; simp; omega) fun v' h11 ys hy1 hy2 hs7 => ?_
          obtain ⟨S1, q1, q2, q3⟩ := sealL (us := ys) hs7 hy2
          rw [hy1] at q2
          refine (q3.pick 1 rfl).store (by simp [zsV]) fun h12 hs8 => ?_
          have hs8 : Sat h12 S1 (lst b2 38 (stV ⟨fi, ft, s.es.drop (i + 1)⟩ v') :: lst b4 35 (eV (s.es[i], z)) :: lst b1 38 (stV s x) :: jA jb J :: R) := hs8
          refine ⟨_, _, ⟨none, 0, 0⟩, v', hs8.cells 0 rfl, ?_⟩
          have := hK v' h12 S1 q1 (by rw [hr]; exact q2) hs8.drop.drop.drop
          rw [hr] at this; exact this
        · refine ⟨⟨i + 1, rfl, hil, fun j hj hji => ?_, hs5.drop⟩, by omega⟩
          rcases Nat.lt_or_ge j i with h | h
          · exact hpre j hj h
          · have : j = i := by omega
            subst this; exact hp
      · refine ⟨_, hs5.cell 0 rfl, ?_⟩
        have e1 : (((s.es[i]).i : Int) == (fi : Int)) = ((s.es[i]).i == fi) := beq_nat_int _ _
        have e2 : (((s.es[i]).t : Int) == (ft : Int)) = ((s.es[i]).t == ft) := beq_nat_int _ _
        rw [e1]
        refine CondP.of (fun h1 => ⟨_, hs5.cell 1 rfl, ?_⟩) (fun h1 => ⟨rfl, by rw [h1, Bool.false_and]⟩)
        rw [e2]
        refine CondP.of (fun h3 => ⟨rfl, ?_⟩) (fun h3 => ⟨rfl, by rw [h3, Bool.false_and, Bool.and_false]⟩)
        rw [h1, h3, Bool.true_and, Bool.true_and]
        exact decide_eq_decide.2 (by omega)
    · have hil : i = s.es.length := by simp at hc2; omega
      subst hil
      have hfd : s.es.findIdx? (fun e => e.i == fi && (e.t == ft && decide (fi ≤ most))) = none := by
        rw [List.findIdx?_eq_none_iff]
        intro e he
        obtain ⟨j, hj, rfl⟩ := List.getElem_of_mem he
        exact hpre j hj hj
      rw [hfd] at hr
      refine ⟨_, _, ⟨none, 0, 0⟩, x, hs3.swap.cells 0 rfl, ?_⟩
      refine hs3.store (by simp [zsV]) fun h5 hs4 => ?_
      have hs4 : Sat h5 S (lst b2 38 (stV s x) :: lst b1 38 (stV s x) :: jA jb J :: R) := hs4
      refine ⟨_, _, ⟨none, 0, 0⟩, x, hs4.cells 0 rfl, ?_⟩
      have := hK x h5 S (PH.le.refl _) (by rw [hr]; exact hx) hs4.drop.drop
      rw [hr] at this; exact this
  · refine ⟨_, hs2.swap.cell 0 rfl, ?_⟩
    rw [beq_nat_int]
    refine CondP.of (fun hc => ⟨_, hs2.swap.cell 1 rfl, ?_⟩) (fun hc => ?_)
    · rw [beq_nat_int]
      have hc : fi = s.fi := by simpa using hc
      exact ⟨rfl, by simp [hc, Bool.beq_eq_decide_eq]⟩
    · have hc : ¬ fi = s.fi := by simpa using hc
      exact ⟨rfl, by simp [hc]⟩
end
end Go.Sx.Tryz
namespace Go.Sx.Tryz
open Go Go.Sx Go.Proofs
set_option linter.unusedVariables false
def Raised (s s' : PL) (ix : Nat) : Prop := s' = s ∨ ∃ i t, i ≤ ix ∧ s.has i t ∧ s' = s.lift i t
theorem PL.lift_self {s : PL} {i t : Nat} (hh : s.has i t) (hi : i = s.fi) : s.lift i t = s := by
  subst hi
  unfold PL.lift
  rw [hh.2.1 rfl, Nat.sub_self, List.drop_zero]
theorem raised_fn {s s' : PL} {ix : Nat} (hc : s.Con) (h : Raised s s' ix) : s.raised s'.fi s'.ft ix = (s', true) := by
  rcases h with rfl | ⟨i, t, h1, h2, rfl⟩
  · rw [PL.raised, if_pos ⟨rfl, rfl⟩]
  · rcases Nat.lt_or_ge s.fi i with hlt | hge
    · have h3 : ¬ (i = s.fi ∧ t = s.ft) := by omega
      have e1 : (s.lift i t).fi = i := rfl
      have e2 : (s.lift i t).ft = t := rfl
      rw [PL.raised, e1, e2, if_neg h3]
      obtain ⟨e, he, het⟩ := h2.2.2 hlt
      obtain ⟨hk, rfl⟩ := List.getElem?_eq_some_iff.1 he
      have hf : s.es.findIdx? (fun e => e.i == i && (e.t == t && decide (i ≤ ix))) = some (i - s.fi - 1) := by
        rw [List.findIdx?_eq_some_iff_getElem]
        refine ⟨hk, ?_, fun j hj => ?_⟩
        · have := hc _ hk
          simp only [Bool.and_eq_true, beq_iff_eq, decide_eq_true_eq]
          exact ⟨by omega, het, h1⟩
        · have := hc j (by omega)
          simp only [Bool.and_eq_true, beq_iff_eq, not_and]
          intro h; omega
      rw [hf]
      show ((⟨i, t, s.es.drop (i - s.fi - 1 + 1)⟩ : PL), true) = _
      rw [show i - s.fi - 1 + 1 = i - s.fi by omega]; rfl
    · have hi : i = s.fi := by have := h2.1; omega
      rw [PL.lift_self h2 hi, PL.raised, if_pos ⟨rfl, rfl⟩]
theorem lift_lift {s : PL} {a b c d : Nat} (h1 : s.has a b) (h2 : (s.lift a b).has c d) : s.has c d ∧ (s.lift a b).lift c d = s.lift c d := by
  have hac : a ≤ c := h2.1
  have hfa := h1.1
  refine ⟨⟨by omega, fun h => ?_, fun hlt => ?_⟩, ?_⟩
  · have ha : a = s.fi := by omega
    have : d = b := h2.2.1 (show c = a by omega)
    rw [this, h1.2.1 ha]
  · rcases Nat.lt_or_ge a c with h | h
    · obtain ⟨e, he, het⟩ := h2.2.2 h
      refine ⟨e, ?_, het⟩
      have he : (s.es.drop (a - s.fi))[c - a - 1]? = some e := he
      rw [List.getElem?_drop, show a - s.fi + (c - a - 1) = c - s.fi - 1 by omega] at he
      exact he
    · have hca : c = a := by omega
      have : d = b := h2.2.1 hca
      subst hca this
      exact h1.2.2 hlt
  · show (⟨c, d, (s.es.drop (a - s.fi)).drop (c - a)⟩ : PL) = ⟨c, d, s.es.drop (c - s.fi)⟩
    rw [List.drop_drop, show a - s.fi + (c - a) = c - s.fi by omega]
theorem Raised.trans {s s1 s2 : PL} {ix : Nat} (h1 : Raised s s1 ix) (h2 : Raised s1 s2 ix) : Raised s s2 ix := by
  rcases h1 with rfl | ⟨a, b, k1, k2, rfl⟩
  · exact h2
  · rcases h2 with rfl | ⟨c, d, l1, l2, rfl⟩
    · exact .inr ⟨a, b, k1, k2, rfl⟩
    · obtain ⟨m1, m2⟩ := lift_lift k2 l2
      exact .inr ⟨c, d, l1, m1, m2⟩
theorem Lg.pure_lift {g : Lg} {h : Hd} (hc : g.pure.Con) (hh : g.pure.has h.i h.t) : (g.lift h).pure = g.pure.lift h.i h.t := by
  have hfi := hh.1
  have hlen := hh.len
  have e1 : g.pure.fi = g.fi := rfl
  have e2 : g.pure.es = g.es.map (·.1) := rfl
  rw [e1] at hfi hlen
  rw [e2, List.length_map] at hlen
  have hci : ∀ k (hk : k < g.es.length), (g.es[k]).1.i = g.fi + k + 1 := by
    intro k hk
    have := hc k (by rw [e2, List.length_map]; exact hk)
    simp only [e2, List.getElem_map] at this
    exact this
  have hm : (match g.es.findIdx? (fun x => decide (h.i < x.1.i)) with | some k => k | none => g.es.length) = h.i - g.fi := by
    rcases Nat.lt_or_ge (h.i - g.fi) g.es.length with hlt | hge
    · have hf : g.es.findIdx? (fun x => decide (h.i < x.1.i)) = some (h.i - g.fi) := by
        rw [List.findIdx?_eq_some_iff_getElem]
        refine ⟨hlt, ?_, fun j hj => ?_⟩
        · have := hci _ hlt
          exact decide_eq_true (by omega)
        · have := hci j (by omega)
          simp only [decide_eq_true_eq]; omega
      rw [hf]
    · have hf : g.es.findIdx? (fun x => decide (h.i < x.1.i)) = none := by
        rw [List.findIdx?_eq_none_iff]
        intro x hx
        obtain ⟨k, hk, rfl⟩ := List.getElem_of_mem hx
        have := hci k hk
        exact decide_eq_false (by omega)
      rw [hf]
      show g.es.length = _
      omega
  have e : (g.lift h).es = g.es.drop (h.i - g.fi) := congrArg (fun n => g.es.drop n) hm
  show (⟨h.i, h.t, (g.lift h).es.map (·.1)⟩ : PL) = ⟨h.i, h.t, (g.es.map (·.1)).drop (h.i - g.fi)⟩
  rw [e, List.map_drop]
theorem trimN_out (ix : Nat) : ∀ (k : Nat) {D : Dk} {J : Jn} {G : List Sg} {s : PL}, Mid D J G s → G.length = k + 1 → G.length < J.many → (G.Pairwise fun a b => a.hd.i ≤ b.hd.i) → Tame G → J.log.pure = s → (∀ g ∈ G, g.hd.serial < 1000) →
    (∃ D' J' G', J.trimN ix k D = (0, D', J') ∧ (∀ x ∈ J'.log.es, x ∈ J.log.es) ∧ J' = { J with segs := J'.segs, log := J'.log } ∧ Rest D' J' G' J'.log.pure ∧ G'.Sublist G ∧ Raised s J'.log.pure ix ∧ D'.armed = D.armed ∧ ∀ i, (D'.f i).b.length ≤ (D.f i).b.length) ∨
    (∃ D' J', J.trimN ix k D = (70, D', J') ∧ Raised s J'.log.pure ix ∧ (∀ x ∈ J'.log.es, x ∈ J.log.es) ∧ After J.first J.many D' fun s' => s' = J'.log.pure)
  | k, D, J, G, s, hM, hlen, hroom, hmono, htame, hlog, hser => by
    have hne : G ≠ [] := by intro h; rw [h] at hlen; simp at hlen
    have hans : J.ans = 0 := by unfold Jn.ans; rw [hM.sound]; simp
    have stay : J.trimN ix k D = (J.ans, D, J) →
        (∃ D' J' G', J.trimN ix k D = (0, D', J') ∧ (∀ x ∈ J'.log.es, x ∈ J.log.es) ∧ J' = { J with segs := J'.segs, log := J'.log } ∧ Rest D' J' G' J'.log.pure ∧ G'.Sublist G ∧ Raised s J'.log.pure ix ∧ D'.armed = D.armed ∧ ∀ i, (D'.f i).b.length ≤ (D.f i).b.length) ∨
        (∃ D' J', J.trimN ix k D = (70, D', J') ∧ Raised s J'.log.pure ix ∧ (∀ x ∈ J'.log.es, x ∈ J.log.es) ∧ After J.first J.many D' fun s' => s' = J'.log.pure) := fun h =>
      .inl ⟨D, J, G, by rw [h, hans], fun x hx => hx, rfl, ⟨by rw [hlog]; exact hM, hne, hroom, hmono, htame⟩, List.Sublist.refl _, .inl hlog, rfl, fun i => Nat.le_refl _⟩
    cases k with
    | zero => exact stay rfl
    | succ k =>
      obtain ⟨A, B, L, hG⟩ : ∃ A B L, G = A :: B :: L := by
        cases G with
        | nil => simp at hlen
        | cons A L => cases L with
          | nil => simp at hlen
          | cons B L => exact ⟨A, B, L, rfl⟩
      have hidx : idxAt J.segs 1 = B.hd.i := by
        rw [hM.idxAt_eq (k := 1) (by omega)]
        subst hG; rfl
      by_cases hle : idxAt J.segs 1 ≤ ix
      · have hst : J.trimN ix (k + 1) D = if (J.dropAt D 0).1 = true then Jn.trimN ix k (J.dropAt D 0).2.2.lift (J.dropAt D 0).2.1 else (70, (J.dropAt D 0).2) := by
          rw [Jn.trimN, if_pos hle]
        have hread := hM.lay.read
        subst hG
        have hmem := htame.mem (G := L)
        have hm2 := List.pairwise_cons.1 (List.pairwise_cons.1 hmono).2
        obtain ⟨t1, t2⟩ := trim_first (PL.Con.nil 0 0) (hmem B List.mem_cons_self) (fun x hx => ⟨hmem x (List.mem_cons_of_mem _ hx), hm2.1 x hx⟩) hread
        rcases drop_out hM (k := 0) (by simp) t1 (.inl hroom) (htame.safe hread) hser with ⟨D1, d1, d2, d3, d4⟩ | ⟨D1, d1, d2⟩
        · rw [d1] at hst
          have hsegs : J.segs.eraseIdx 0 = ⟨J.first + B.file, B.hd⟩ :: L.map fun g => ⟨J.first + g.file, g.hd⟩ := by rw [hM.segs]; rfl
          have hlift : Jn.lift { J with segs := J.segs.eraseIdx 0 } = { ({ J with segs := J.segs.eraseIdx 0 } : Jn) with log := J.log.lift B.hd } := by
            unfold Jn.lift
            simp only [hsegs]
          simp only [if_true] at hst
          rw [hlift] at hst
          have hpl : (J.log.lift B.hd).pure = s.lift B.hd.i B.hd.t := by
            rw [Lg.pure_lift (by rw [hlog]; exact hM.lay.con) (by rw [hlog]; exact t2), hlog]
          have hsub : ∀ x ∈ (J.log.lift B.hd).es, x ∈ J.log.es := fun x hx => List.mem_of_mem_drop hx
          have hR1 : Raised s (s.lift B.hd.i B.hd.t) ix := .inr ⟨_, _, by rw [← hidx]; exact hle, t2, rfl⟩
          have hM2 := d2.relog (J.log.lift B.hd)
          have hl2 : (B :: L).length = k + 1 := by simpa using hlen
          rcases trimN_out ix k hM2 hl2 (by show (B :: L).length < J.many; simp at hroom ⊢; omega) (List.pairwise_cons.1 hmono).2 (htame.sub (List.sublist_cons_self _ _)) hpl (fun g hg => hser g (List.mem_cons_of_mem _ hg)) with ⟨D', J', G', e1, e2, e3, e4, e5, e6, e7, e8⟩ | ⟨D', J', e1, e2, e3, e4⟩
          · left
            exact ⟨D', J', G', by rw [hst]; exact e1, fun x hx => hsub x (e2 x hx), e3, e4, e5.trans (List.sublist_cons_self _ _), hR1.trans e6, by rw [e7, d3], fun i => Nat.le_trans (e8 i) (d4 i)⟩
          · right
            exact ⟨D', J', by rw [hst]; exact e1, hR1.trans e2, fun x hx => hsub x (e3 x hx), e4⟩
        · right
          rw [d1] at hst
          simp only [Bool.false_eq_true, if_false] at hst
          exact ⟨D1, _, hst, .inl hlog, fun x hx => hx, by rw [show ({ J with broken := true } : Jn).log.pure = s from hlog]; exact d2⟩
      · exact stay (by rw [Jn.trimN, if_neg hle])
theorem trim_out {D : Dk} {J : Jn} {G : List Sg} {s : PL} {n ix : Nat} (hX : Rest D J G s) (hB : Bnd D J G s n) (hn : n < 100) (hlog : J.log.pure = s) :
    (∃ D' J' G', J.trim D ix = (0, D', J') ∧ (∀ x ∈ J'.log.es, x ∈ J.log.es) ∧ J' = { J with segs := J'.segs, log := J'.log } ∧ Rest D' J' G' J'.log.pure ∧ Bnd D' J' G' J'.log.pure n ∧ Raised s J'.log.pure ix ∧ D'.armed = D.armed) ∨
    (∃ D' J', J.trim D ix = (70, D', J') ∧ Raised s J'.log.pure ix ∧ (∀ x ∈ J'.log.es, x ∈ J.log.es) ∧ After J.first J.many D' fun s' => s' = J'.log.pure) := by
  have hM := hX.mid
  have hbr : ¬ J.broken = true := by rw [hM.sound]; simp
  have h0 : 0 < G.length := List.length_pos_iff.2 hX.ne
  have ht : J.trim D ix = J.trimN ix (G.length - 1) D := by rw [Jn.trim, if_neg hbr, hM.segLen]
  rw [ht]
  rcases trimN_out ix (G.length - 1) hM (by omega) hX.room hX.mono hX.tame hlog (fun g hg => by have := hB.sr g hg; omega) with ⟨D', J', G', e1, e2, e3, e4, e5, e6, e7, e8⟩ | h
  · left
    refine ⟨D', J', G', e1, e2, e3, e4, sub_bnd hB (by rw [e3]) (by rw [e3]) (fun i hi => Nat.le_trans (e8 _) (hB.fl i hi)) (fun g hg => ⟨hB.sr g (e5.subset hg), hB.rl g (e5.subset hg)⟩) ?_, e6, e7⟩
    rcases e6 with h | ⟨i, t, h1, h2, h3⟩
    · rw [h]; exact ⟨hB.el, hB.li, hB.ft, hB.et⟩
    · rw [h3]
      have hl := PL.lift_last hM.lay.con h2
      refine ⟨?_, by rw [hl]; exact hB.li, ?_, fun e he => hB.et e (List.mem_of_mem_drop he)⟩
      · show (s.es.drop (i - s.fi)).length ≤ _
        rw [List.length_drop]; have := hB.el; omega
      · show t ≤ _
        rcases Nat.lt_or_ge s.fi i with hlt | hge
        · obtain ⟨e, he, het⟩ := h2.2.2 hlt
          rw [← het]; exact hB.et e (List.mem_of_getElem? he)
        · rw [h2.2.1 (by have := h2.1; omega)]; exact hB.ft
  · exact .inr h
theorem tick_armed (D : Dk) : D.tick.armed = D.armed := by unfold Dk.tick; split <;> rfl
theorem app_armed (D : Dk) (i : Nat) (x : List UInt8) : (D.app i x).2.armed = D.armed := by
  unfold Dk.app
  split
  · rfl
  · split
    · rfl
    · split
      · exact tick_armed _
      · exact tick_armed _
theorem syn_armed (D : Dk) (i : Nat) : (D.syn i).2.armed = D.armed := by
  unfold Dk.syn
  split
  · rfl
  · split
    · exact tick_armed _
    · exact tick_armed _
theorem drp_armed (D : Dk) (i : Nat) : (D.drp i).2.armed = D.armed := by
  unfold Dk.drp
  split
  · rfl
  · split
    · exact tick_armed _
    · exact tick_armed _
theorem write_armed (J : Jn) (D : Dk) (f : Nat) (x : List UInt8) : (J.write D f x).2.1.armed = D.armed := by
  unfold Jn.write
  simp only
  split
  · show (((D.app f x).2.syn f).2).armed = _
    rw [syn_armed, app_armed]
  · exact app_armed _ _ _
theorem start_armed (J : Jn) (D : Dk) (h : Hd) : (J.start D h).2.1.armed = D.armed := by
  unfold Jn.start
  split
  · rfl
  · split
    · exact write_armed _ _ _ _
    · exact write_armed _ _ _ _
theorem dropAt_armed (J : Jn) (D : Dk) (k : Nat) : (J.dropAt D k).2.1.armed = D.armed := by
  unfold Jn.dropAt
  split
  · exact drp_armed _ _
  · exact drp_armed _ _
theorem dropN_armed : ∀ (m : Nat) (J : Jn) (D : Dk), (J.dropN m D).1.armed = D.armed
  | 0, J, D => rfl
  | m + 1, J, D => by
    unfold Jn.dropN
    split
    · rw [dropN_armed m, dropAt_armed]
    · exact dropAt_armed _ _ _
theorem idleN_armed : ∀ (m : Nat) (J : Jn) (D : Dk), (J.idleN m D).1.armed = D.armed
  | 0, J, D => rfl
  | m + 1, J, D => by
    unfold Jn.idleN
    split
    · rfl
    · split
      · rw [idleN_armed m, dropAt_armed]
      · exact idleN_armed m J D
theorem idle_armed (J : Jn) (D : Dk) : (J.idle D).1.armed = D.armed := by
  unfold Jn.idle
  split
  · exact dropN_armed _ _ _
  · rw [idleN_armed]; exact dropN_armed _ _ _
theorem tick_un {D : Dk} (h : D.armed = false) : D.tick = D := by unfold Dk.tick; rw [if_neg (by rw [h]; simp)]
theorem blown_un {D : Dk} (h : D.armed = false) : D.blown = false := by unfold Dk.blown; rw [h]; rfl
theorem tidy_un {D : Dk} {J : Jn} {f n : Nat} {used : Bool} (ha : D.armed = false) (hd : D.down = false) (hb : J.broken = false) (hs : (D.f f).s ≤ (D.f f).b.length) (hn : n ≤ (D.f f).b.length) :
    ∃ D', J.tidy D f n (D.f f).b.length used = (D', J) ∧ D'.armed = false ∧ D'.down = false ∧ D'.f f = ⟨(if used = true then (D.f f).b.take n else []), (if used = true then (D.f f).b.take n else []).length⟩ ∧ ∀ j, j ≠ f → D'.f j = D.f j := by
  have hbr : ¬ J.broken = true := by rw [hb]; simp
  have hdn : ¬ D.down = true := by rw [hd]; simp
  have hbl : ¬ D.blown = true := by rw [blown_un ha]; simp
  unfold Jn.tidy
  by_cases h0 : (D.f f).b.length = 0
  · rw [if_pos (.inr h0)]
    have hnil : (D.f f).b = [] := List.eq_nil_of_length_eq_zero h0
    refine ⟨D, rfl, ha, hd, ?_, fun j hj => rfl⟩
    have : (if used = true then (D.f f).b.take n else []) = [] := by rw [hnil]; split <;> simp
    rw [this]
    have hs0 : (D.f f).s = 0 := by omega
    cases hx : D.f f with
    | mk b s =>
      rw [hx] at hnil hs0
      simp only at hnil hs0
      rw [hnil, hs0]; rfl
  · rw [if_neg (by intro h; rcases h with h | h; exact hbr h; exact h0 h)]
    have ta : ∀ x, (D.set f x).tick = D.set f x := fun x => tick_un ha
    cases used with
    | false =>
      rw [if_pos rfl]
      have hdrp : D.drp f = (0, D.set f ⟨[], 0⟩) := by
        unfold Dk.drp
        rw [if_neg hdn, if_neg hbl, ta]
      rw [hdrp]
      exact ⟨D.set f ⟨[], 0⟩, by simp only [Jn.note_zero], ha, hd, by rw [set_same]; rfl, fun j hj => set_ne _ _ hj⟩
    | true =>
      rw [if_neg (by simp)]
      have hsyn : ∀ E : Dk, E.armed = false → E.down = false → E.syn f = (0, E.set f ⟨(E.f f).b, (E.f f).b.length⟩) := by
        intro E h1 h2
        unfold Dk.syn
        rw [if_neg (by rw [h2]; simp), if_neg (by rw [blown_un h1]; simp)]
        have : (E.set f ⟨(E.f f).b, (E.f f).b.length⟩).armed = false := h1
        rw [tick_un this]
      by_cases hlt : n < (D.f f).b.length
      · rw [if_pos hlt]
        have hcut : D.cut f n = (0, D.set f ⟨(D.f f).b.take n, min n (D.f f).s⟩) := by
          unfold Dk.cut
          rw [if_neg hdn, if_neg (by omega), if_neg hbl, ta]
        rw [hcut, if_pos rfl]
        simp only [Jn.note_zero]
        rw [hsyn (D.set f ⟨(D.f f).b.take n, min n (D.f f).s⟩) ha hd, set_same]
        refine ⟨(D.set f ⟨(D.f f).b.take n, min n (D.f f).s⟩).set f ⟨(D.f f).b.take n, ((D.f f).b.take n).length⟩, by simp only [Jn.note_zero], ha, hd, by rw [set_same]; rfl, fun j hj => by rw [set_ne _ _ hj, set_ne _ _ hj]⟩
      · rw [if_neg hlt, hsyn _ ha hd]
        refine ⟨D.set f ⟨(D.f f).b, (D.f f).b.length⟩, by simp only [Jn.note_zero], ha, hd, ?_, fun j hj => set_ne _ _ hj⟩
        rw [set_same]
        have : (D.f f).b.take n = (D.f f).b := List.take_of_length_le (by omega)
        simp only [if_true, this]
theorem tidyK_un {D : Dk} {J : Jn} {first : Nat} {pn : Nat → Nat} {us : Nat → Bool} {many : Nat} (ha : D.armed = false) (hd : D.down = false) (hb : J.broken = false) (hs : ∀ i, i < many → (D.f (first + i)).s ≤ (D.f (first + i)).b.length) (hn : ∀ i, i < many → pn i ≤ (D.f (first + i)).b.length) :
    ∀ k, k ≤ many → ∃ D', tidyK first pn (fun n => (D.f (first + n)).b.length) us k (D, J) = (D', J) ∧ D'.armed = false ∧ D'.down = false ∧ (∀ i, i < k → D'.f (first + i) = ⟨(if us i = true then (D.f (first + i)).b.take (pn i) else []), (if us i = true then (D.f (first + i)).b.take (pn i) else []).length⟩) ∧ ∀ j, (∀ i, i < k → j ≠ first + i) → D'.f j = D.f j
  | 0, _ => ⟨D, rfl, ha, hd, (fun i h => by omega), fun j _ => rfl⟩
  | k + 1, hk => by
    obtain ⟨D1, h1, h2, h3, h4, h5⟩ := tidyK_un (J := J) (pn := pn) (us := us) ha hd hb hs hn k (by omega)
    have hf : D1.f (first + k) = D.f (first + k) := h5 _ fun i hi => by omega
    obtain ⟨D2, g1, g2, g3, g4, g5⟩ := tidy_un (J := J) (f := first + k) (n := pn k) (used := us k) h2 h3 hb (by rw [hf]; exact hs k (by omega)) (by rw [hf]; exact hn k (by omega))
    rw [hf] at g1 g4
    refine ⟨D2, ?_, g2, g3, fun i hi => ?_, fun j hj => ?_⟩
    · show (tidyK first pn _ us k (D, J)).2.tidy (tidyK first pn _ us k (D, J)).1 _ _ _ _ = _
      rw [h1]; exact g1
    · rcases Nat.lt_or_ge i k with h | h
      · rw [g5 _ (by omega)]; exact h4 i h
      · have : i = k := by omega
        subst this; exact g4
    · rw [g5 j (hj k (by omega))]
      exact h5 j fun i hi => hj i (by omega)
theorem lastNew_spec {D : Dk} {J : Jn} {G : List Sg} {s : PL} (hM : Mid D J G s) : ∀ k, k < G.length → (lastNew J.segs k = 0 ∨ ∃ h : lastNew J.segs k < G.length, G[lastNew J.segs k].hd.anew = true) ∧ ∀ j, lastNew J.segs k < j → j ≤ k → ∀ h : j < G.length, G[j].hd.anew = false
  | 0, _ => ⟨.inl rfl, fun j h1 h2 => by omega⟩
  | k + 1, h => by
    obtain ⟨h1, h2⟩ := lastNew_spec hM k (by omega)
    by_cases ha : G[k + 1].hd.anew = true
    · have e : lastNew J.segs (k + 1) = k + 1 := by unfold lastNew; rw [hM.anewAt_eq h, if_pos ha]
      rw [e]
      exact ⟨.inr ⟨h, ha⟩, fun j h1 h2 => by omega⟩
    · have e : lastNew J.segs (k + 1) = lastNew J.segs k := by
        conv => lhs; unfold lastNew
        rw [hM.anewAt_eq h, if_neg ha]
      rw [e]
      refine ⟨h1, fun j h3 h4 hj => ?_⟩
      rcases Nat.lt_or_ge j (k + 1) with h5 | h5
      · exact h2 j h3 (by omega) hj
      · have : j = k + 1 := by omega
        subst this; simpa using ha
theorem idle_any_out {D : Dk} {J : Jn} {G : List Sg} {s : PL} (hM : Mid D J G s) (hne : G ≠ []) (hR : Roomy G J.many) (hS : Safe G) (hser : ∀ g ∈ G, g.hd.serial < 1000) :
    (∃ D' J' G', J.idle D = (D', J') ∧ J' = { J with segs := J'.segs } ∧ Rest D' J' G' s ∧ G'.Sublist G ∧ D'.armed = D.armed ∧ ∀ i, (D'.f i).b.length ≤ (D.f i).b.length) ∨
    (∃ D' J', J.idle D = (D', J') ∧ J' = { J with segs := J'.segs, broken := true } ∧ After J.first J.many D' fun s' => s' = s) := by
  have h0 : 0 < G.length := List.length_pos_iff.2 hne
  obtain ⟨l1, l2⟩ := lastNew_spec hM (G.length - 1) (by omega)
  have hle := lastNew_le J.segs (G.length - 1)
  have hbe : J.begun D = J.dropN (lastNew J.segs (G.length - 1)) D := by unfold Jn.begun; rw [hM.segLen]
  generalize lastNew J.segs (G.length - 1) = m at *
  have hrd : ∀ j, j ≤ m → rdAll true ⟨0, 0, []⟩ (G.drop j) = some s := by
    intro j hj
    rcases l1 with l1 | ⟨l1, l3⟩
    · have : j = 0 := by omega
      subst this; exact hM.lay.read
    · have e1 : ∀ i, i ≤ m → ∀ s', rdAll true ⟨0, 0, []⟩ (G.drop i) = some s' → rdAll true ⟨0, 0, []⟩ (G.drop m) = some s' := by
        intro i hi s' hs'
        have e2 : G.drop i = (G.drop i).take (m - i) ++ G.drop m := by
          have := (List.take_append_drop (m - i) (G.drop i)).symm
          rw [List.drop_drop, show i + (m - i) = m by omega] at this
          exact this
        rw [e2, List.drop_eq_getElem_cons l1] at hs'
        rw [List.drop_eq_getElem_cons l1]
        exact anew_resets l3 hs'
      have h1 := e1 0 (Nat.zero_le _) s (by rw [List.drop_zero]; exact hM.lay.read)
      obtain ⟨s', hs'⟩ := Option.isSome_iff_exists.1 (hS j m hj l1 l3)
      have h2 := e1 j hj s' hs'
      rw [h1] at h2
      rw [hs', ← h2]
  rcases dropN_out m hM (by omega) hrd hR hS hser with ⟨D1, d1, d2, d3, d4, d5⟩ | ⟨D', J', d1, d2, d3⟩
  · have hbe2 : J.begun D = (D1, { J with segs := J.segs.drop m }) := by rw [hbe]; exact d1
    have htame : Tame (G.drop m) := by
      intro k hk h0
      rw [List.length_drop] at hk
      rw [List.getElem_drop]
      exact l2 (m + k) (by omega) (by omega) (by omega)
    have hlen : (G.drop m).length = G.length - m := List.length_drop ..
    have hi : J.idle D = Jn.idleN ((G.drop m).length - 1) { J with segs := J.segs.drop m } D1 := by
      unfold Jn.idle
      rw [hbe2]
      simp only
      rw [if_neg (by rw [hM.sound]; simp), List.length_drop, hM.segLen, hlen]
    have hne2 : G.drop m ≠ [] := by intro h; rw [h] at hlen; simp at hlen; omega
    have hR2 : Roomy (G.drop m) J.many := by
      rcases d3 with h | h
      · subst h; rw [List.drop_zero]; exact hR
      · exact .inl h
    rcases idleN_out ((G.drop m).length - 1) d2 htame (by omega) (strict_one hne2) hR2 (fun g hg => hser g (List.mem_of_mem_drop hg)) with ⟨D', J', G', e1, e2, e3, e4, e5, e6, e7, e8, e9, e10⟩ | ⟨D', J', e1, e2, e3⟩
    · left
      have hne' : G' ≠ [] := by
        intro h
        rw [h] at e7
        have := List.getLast?_eq_none_iff.1 e7.symm
        exact hne2 this
      have hm' : J'.many = J.many := by rw [e3]
      refine ⟨D', J', G', by rw [hi]; exact e1, e3, ⟨e2, hne', by rw [hm']; exact roomy_strict e8 e5 e4, e5.mono, e4⟩, e6.trans (List.drop_sublist _ _), by rw [e9, d4], fun i => Nat.le_trans (e10 i) (d5 i)⟩
    · right
      exact ⟨D', J', by rw [hi]; exact e1, e2, e3⟩
  · right
    have hbe2 : J.begun D = (D', J') := by rw [hbe]; exact d1
    refine ⟨D', J', ?_, d2, d3⟩
    unfold Jn.idle
    rw [hbe2]
    simp only
    rw [if_pos (by rw [d2])]
theorem open_out {D : Dk} {G : List Sg} {t : List UInt8} {s : PL} {d first many each : Nat} {g : Lg} (hL : Lay D first many G t s) (hr : first + many ≤ 32 ∧ 2 ≤ many ∧ many < 20) (ha : D.armed = false) (hd : D.down = false) (hs : ∀ i, i < many → (D.f (first + i)).s ≤ (D.f (first + i)).b.length) (hR : Roomy G many) (hS : Safe G) (hser : ∀ g ∈ G, g.hd.serial < 1000) :
    ∃ D' J' G', openedR (tidyK first (pnOf (G.map (·.file)) (rsOf G)) (fun n => (D.f (first + n)).b.length) (fun n => decide (n ∈ G.map (·.file))) many (D, ⟨d, first, many, each, g, G.map fun g => ⟨first + g.file, g.hd⟩, false⟩)) (decide (G.map (·.file) = [])) = (D', J') ∧
      J' = { d := d, first := first, many := many, each := each, log := g, segs := J'.segs, broken := false } ∧ Rest D' J' G' s ∧ D'.armed = false ∧ (G'.Sublist G ∨ ∀ x ∈ G', x.hd.serial = 0 ∧ x.rs = []) ∧ ∀ i, i < many → (D'.f (first + i)).b.length ≤ (D.f (first + i)).b.length + 60 := by
  have hpn : ∀ i, i < many → pnOf (G.map (·.file)) (rsOf G) i ≤ (D.f (first + i)).b.length := by
    intro i hi
    unfold pnOf
    split
    · rename_i hm
      obtain ⟨x, hx, rfl⟩ := List.mem_map.1 hm
      obtain ⟨k, hk, rfl⟩ := List.getElem_of_mem hx
      rw [hL.seg_cont hk, List.length_append]; omega
    · exact Nat.zero_le _
  obtain ⟨D1, h1, h2, h3, h4, h5⟩ := tidyK_un (J := ⟨d, first, many, each, g, G.map fun g => ⟨first + g.file, g.hd⟩, false⟩) (pn := pnOf (G.map (·.file)) (rsOf G)) (us := fun n => decide (n ∈ G.map (·.file))) ha hd rfl hs hpn many (Nat.le_refl _)
  rw [h1]
  have hused : ∀ k (hk : k < G.length), D1.f (first + G[k].file) = ⟨pbs (G[k].recs.map Rec.par), (pbs (G[k].recs.map Rec.par)).length⟩ := by
    intro k hk
    have hg := List.getElem_mem hk
    have hm : G[k].file ∈ G.map (·.file) := List.mem_map.2 ⟨_, hg, rfl⟩
    have e1 : (if (decide (G[k].file ∈ G.map (·.file))) = true then (D.f (first + G[k].file)).b.take (pnOf (G.map (·.file)) (rsOf G) G[k].file) else []) = pbs (G[k].recs.map Rec.par) := by
      rw [if_pos (decide_eq_true hm), pnOf, if_pos hm, hL.seg_cont hk, List.take_left, hL.rsOf_eq hg]
    rw [h4 _ (hL.file _ hg), e1]
  have hfree : ∀ i, i < many → (∀ g ∈ G, g.file ≠ i) → D1.f (first + i) = ⟨[], 0⟩ := by
    intro i hi hg
    have hm : ¬ i ∈ G.map (·.file) := by
      intro h
      obtain ⟨x, hx, rfl⟩ := List.mem_map.1 h
      exact hg x hx rfl
    rw [h4 i hi]
    have e1 : (if (decide (i ∈ G.map (·.file))) = true then (D.f (first + i)).b.take (pnOf (G.map (·.file)) (rsOf G) i) else []) = [] := by rw [if_neg (by simpa using hm)]
    rw [e1]; rfl
  have hlen1 : ∀ i, i < many → (D1.f (first + i)).b.length ≤ (D.f (first + i)).b.length := by
    intro i hi
    rw [h4 i hi]
    show (if _ then _ else _ : List UInt8).length ≤ _
    split
    · rw [List.length_take]; omega
    · exact Nat.zero_le _
  have hL1 : Lay D1 first many G [] s := by
    refine ⟨hL.file, hL.nodup, hL.ser, hL.ok, fun k hk => ?_, Tail.nil, fun i hi hg => by rw [hfree i hi hg]; exact Tail.nil, hL.read⟩
    have : (if k + 1 = G.length then ([] : List UInt8) else []) = [] := by split <;> rfl
    rw [this, List.append_nil, hused k hk]
  have hM : Mid D1 ⟨d, first, many, each, g, G.map fun g => ⟨first + g.file, g.hd⟩, false⟩ G s := by
    refine ⟨hL1, hr, rfl, rfl, h3, fun i hi hg => by show (D1.f (first + i)).b = []; rw [hfree i hi hg], fun i hi => ?_⟩
    show (D1.f (first + i)).s = (D1.f (first + i)).b.length
    rw [h4 i hi]
  have hno : ∀ {f m : Nat} {D2 : Dk} {P : PL → Prop}, D2.armed = false → ¬ After f m D2 P := fun h1 h2 => by rw [h2.2.1] at h1; cases h1
  rcases Decidable.em (G = []) with hG | hG
  · subst hG
    have hs0 : s = ⟨0, 0, []⟩ := (Option.some.inj hL.read).symm
    have hop : ∀ Y, openedR Y (decide (List.map (fun g : Sg => g.file) [] = [])) = (Y.2.start Y.1 ⟨0, false, 0, 0⟩).2.2.idle (Y.2.start Y.1 ⟨0, false, 0, 0⟩).2.1 := fun Y => by rw [openedR, if_pos (by decide)]
    rw [hop]
    obtain ⟨x1, x2, x3, x4, x5⟩ := fix_facts hM ⟨0, false, 0, 0⟩
    have hfx : (Jn.fix ⟨d, first, many, each, g, [], false⟩ ⟨0, false, 0, 0⟩) = ⟨0, false, 0, 0⟩ := rfl
    have hrd : ∀ f, rdAll true ⟨0, 0, []⟩ ([] ++ [(⟨f, ⟨0, false, 0, 0⟩, []⟩ : Sg)]) = some s := fun f => by rw [hs0]; rfl
    have hrm : ∀ f, Roomy ([] ++ [(⟨f, ⟨0, false, 0, 0⟩, []⟩ : Sg)]) many := fun f => .inl (by show 1 < many; omega)
    have htm : ∀ f, Tame ([] ++ [(⟨f, ⟨0, false, 0, 0⟩, []⟩ : Sg)]) := fun f k hk h0 => by simp at hk; omega
    rcases start_out hM (h := ⟨0, false, 0, 0⟩) (by show 0 < many; omega) (fun g hg => by cases hg) ⟨Nat.zero_le _, Nat.zero_le _, Nat.zero_le _⟩ hrd hrm hR hS (fun f => (htm f).safe (hrd f)) (by show (0 : Nat) < 1000; omega) with ⟨f, D2, f1, f2, f3, f4, f5, f6⟩ | ⟨D2, f1, f2⟩
    · rw [f2]
      rcases idle_any_out f3 (by simp) (hrm f) ((htm f).safe (hrd f)) (fun g hg => by simp only [List.nil_append, List.mem_singleton] at hg; subst hg; show (0 : Nat) < 1000; omega) with ⟨D', J', G', e1, e2, e3, e4, e5, e6⟩ | ⟨D', J', e1, e2, e3⟩
      · refine ⟨D', J', G', e1, e2, e3, by rw [e5, f4, h2], .inr fun x hx => ?_, fun i hi => ?_⟩
        · have := e4.subset hx
          simp only [List.nil_append, List.mem_singleton] at this
          subst this; exact ⟨rfl, rfl⟩
        · refine Nat.le_trans (e6 _) ?_
          have f5 : (D2.f (first + f)).b.length ≤ 60 := f5
          have f6 : ∀ i, i ≠ first + f → D2.f i = D1.f i := f6
          by_cases hif : i = f
          · subst hif; omega
          · rw [f6 _ (by omega)]; have := hlen1 i hi; omega
      · exfalso
        have := idle_armed ({ d := d, first := first, many := many, each := each, log := g, segs := [] ++ [⟨first + f, ⟨0, false, 0, 0⟩⟩], broken := false } : Jn) D2
        rw [show (Jn.idle ({ d := d, first := first, many := many, each := each, log := g, segs := [] ++ [⟨first + f, ⟨0, false, 0, 0⟩⟩], broken := false } : Jn) D2) = (D', J') from e1, f4, h2] at this
        exact hno this e3
    · exfalso
      have := start_armed (⟨d, first, many, each, g, [].map fun g : Sg => ⟨first + g.file, g.hd⟩, false⟩ : Jn) D1 ⟨0, false, 0, 0⟩
      rw [f1, h2] at this
      exact hno this f2
  · have hop : ∀ Y, openedR Y (decide (G.map (·.file) = [])) = Y.2.idle Y.1 := fun Y => by
      rw [openedR, if_neg (by simpa using hG)]
    rw [hop]
    rcases idle_any_out hM hG hR hS hser with ⟨D', J', G', e1, e2, e3, e4, e5, e6⟩ | ⟨D', J', e1, e2, e3⟩
    · exact ⟨D', J', G', e1, e2, e3, by rw [e5, h2], .inl e4, fun i hi => by have := e6 (first + i); have := hlen1 i hi; omega⟩
    · exfalso
      have := idle_armed (⟨d, first, many, each, g, G.map fun g => ⟨first + g.file, g.hd⟩, false⟩ : Jn) D1
      rw [show (Jn.idle (⟨d, first, many, each, g, G.map fun g => ⟨first + g.file, g.hd⟩, false⟩ : Jn) D1) = (D', J') from e1, h2] at this
      exact hno this e3
end Go.Sx.Tryz
namespace Go.Sx.Tryz
open Go Go.Sx Go.Proofs
set_option maxRecDepth 100000
set_option linter.unusedVariables false
noncomputable def c48 : Code := (Tryz.f48.body).getD .skip
def a48 : Ann := (.seq .leaf (.seq .leaf (.seq .leaf (.seq (.seq .leaf (.inn (.loop [(6, .one (.sl)), (20, .one (.i .i64))] (.seq .leaf (.seq (.br .leaf .leaf) (.seq (.inn (.seq .leaf (.seq .leaf (.join [] (.join [(41, .one (.b))] .leaf (.br .leaf .leaf)) (.seq (.join [(57, .one (.b))] .leaf (.br .leaf .leaf)) (.seq .leaf .leaf)))))) .leaf)))))) (.seq .leaf (.seq .leaf (.seq (.seq .leaf (.inn (.loop [(10, .one (.b)), (72, .one (.i .i64))] (.seq .leaf (.seq (.br .leaf .leaf) (.seq (.inn (.seq .leaf (.seq .leaf .leaf))) .leaf)))))) (.seq .leaf .leaf))))))))
theorem ok48 : okC tab 102 true c48 a48 = true := by kernel_rfl
theorem vc48 (s_0 : Int) (s_1 : Int) (s_2 : Sl) (s_3 : Sl) (o_0 : Int) (o_1 : Int) (o_2 : Int) (o_3 : Int) (o_4 : Int) (o_5 : Sl) (h : Heap) (R : Value → Heap → Prop)
  (hv : ∀ b1 h1, Fresh h (.cells #[.int .u64 s_0, .int .u64 s_1, .slice s_2.a s_2.l s_2.c, .slice s_3.a s_3.l s_3.c] 38) b1 h1 →
   ∀ b2 h2, Fresh h1 (.cells #[.int .i64 o_0, .int .i64 o_1, .int .i64 o_2, .int .u64 o_3, .int .u64 o_4, .slice o_5.a o_5.l o_5.c] 40) b2 h2 →
   ∃ n1 : Int, ∃ n2 : Int, ∃ x1 : Sl, ∃ x2 : Sl, CellsAt h2 b1 0 [.int .u64 n1, .int .u64 n2, .slice x1.a x1.l x1.c, .slice x2.a x2.l x2.c] ∧
   CallsH Tryz.prog 18 #[.agg #[.int .u64 n1, .int .u64 n2, .slice x1.a x1.l x1.c, .slice x2.a x2.l x2.c]] h2 (fun r1 h3 => ∃ n3 : Int, ∃ n4 : Int, ∃ x3 : Sl, r1 = .agg #[.int .u64 n3, .int .u64 n4, .slice x3.a x3.l x3.c] ∧
   ∀ b3 h4, Fresh h3 (.cells #[.int .u64 0, .int .u64 0, .slice none 0 0] 35) b3 h4 →
   CanSt h4 b3 0 [.int .u64 n3, .int .u64 n4, .slice x3.a x3.l x3.c] ∧ ∀ h5, Stored h4 b3 0 [.int .u64 n3, .int .u64 n4, .slice x3.a x3.l x3.c] h5 →
   ∃ n5 : Int, cellH h5 b2 1 = some (.int .i64 n5) ∧
   (5 : Int) ≠ 0 ∧
   ∃ (I1 : Sl → Int → Heap → Prop) (mu1 : Sl → Int → Heap → Nat), I1 ⟨none, 0, 0⟩ 0 h5 ∧ (∀ x4 : Sl, ∀ n6 : Int, ∀ h6, I1 x4 n6 h6 → ∀ _ : Env,
   CondP (decide ((n6 : Int) < (IntKind.i64.wrap (Int.tmod (IntKind.u64.wrap n5) 5)))) (
   ∃ n7 : Int, cellH h6 b3 0 = some (.int .u64 n7) ∧
   ∃ n8 : Int, cellH h6 b3 1 = some (.int .u64 n8) ∧
   ∃ n9 : Int, cellH h6 b2 4 = some (.int .u64 n9) ∧
   (2 : Int) ≠ 0 ∧
   ∃ x5 : Sl, cellH h6 b2 5 = some (.slice x5.a x5.l x5.c) ∧
   ∀ b4 h7, Fresh h6 (.cells #[.int .u64 0, .int .u64 0, .slice none 0 0] 85) b4 h7 →
   CanSt h7 b4 0 [.int .u64 (IntKind.u64.wrap (n7 + 1)), .int .u64 (IntKind.u64.wrap (n8 + (Int.tmod n9 2))), .slice x5.a x5.l x5.c] ∧ ∀ h8, Stored h7 b4 0 [.int .u64 (IntKind.u64.wrap (n7 + 1)), .int .u64 (IntKind.u64.wrap (n8 + (Int.tmod n9 2))), .slice x5.a x5.l x5.c] h8 →
   ∃ J1 : Heap → Prop, (∀ h9, J1  h9 → ∀ _ : Env,
   ∃ J2 : Bool → Heap → Prop, (∀ t1 : Bool, ∀ h10, J2 t1 h10 → ∀ _ : Env,
   CondP t1 (
   ∃ n10 : Int, cellH h10 b3 1 = some (.int .u64 n10) ∧
   CanSt h10 b4 1 [.int .u64 (IntKind.u64.wrap (n10 - 1))] ∧ ∀ h11, Stored h10 b4 1 [.int .u64 (IntKind.u64.wrap (n10 - 1))] h11 →
   ∃ n11 : Int, ∃ n12 : Int, ∃ x6 : Sl, CellsAt h11 b4 0 [.int .u64 n11, .int .u64 n12, .slice x6.a x6.l x6.c] ∧
   ∀ b5 h12, Fresh h11 (.cells #[.int .u64 n11, .int .u64 n12, .slice x6.a x6.l x6.c] 85) b5 h12 →
   RunK Tryz.prog (.sl) (Builtin.append_ #[81, 81] 81 #[.slice x4.a x4.l x4.c, .slice (some ⟨b5, 0, none⟩) 1 1]) h12 (fun x7 h13 =>
   ∃ n13 : Int, ∃ n14 : Int, ∃ x8 : Sl, CellsAt h13 b4 0 [.int .u64 n13, .int .u64 n14, .slice x8.a x8.l x8.c] ∧
   CanSt h13 b3 0 [.int .u64 n13, .int .u64 n14, .slice x8.a x8.l x8.c] ∧ ∀ h14, Stored h13 b3 0 [.int .u64 n13, .int .u64 n14, .slice x8.a x8.l x8.c] h14 →
   I1 x7 (IntKind.i64.wrap (n6 + 1)) h14 ∧ mu1 x7 (IntKind.i64.wrap (n6 + 1)) h14 < mu1 x4 n6 h6)) (
   ∃ n15 : Int, ∃ n16 : Int, ∃ x9 : Sl, CellsAt h10 b4 0 [.int .u64 n15, .int .u64 n16, .slice x9.a x9.l x9.c] ∧
   ∀ b6 h15, Fresh h10 (.cells #[.int .u64 n15, .int .u64 n16, .slice x9.a x9.l x9.c] 85) b6 h15 →
   RunK Tryz.prog (.sl) (Builtin.append_ #[81, 81] 81 #[.slice x4.a x4.l x4.c, .slice (some ⟨b6, 0, none⟩) 1 1]) h15 (fun x10 h16 =>
   ∃ n17 : Int, ∃ n18 : Int, ∃ x11 : Sl, CellsAt h16 b4 0 [.int .u64 n17, .int .u64 n18, .slice x11.a x11.l x11.c] ∧
   CanSt h16 b3 0 [.int .u64 n17, .int .u64 n18, .slice x11.a x11.l x11.c] ∧ ∀ h17, Stored h16 b3 0 [.int .u64 n17, .int .u64 n18, .slice x11.a x11.l x11.c] h17 →
   I1 x10 (IntKind.i64.wrap (n6 + 1)) h17 ∧ mu1 x10 (IntKind.i64.wrap (n6 + 1)) h17 < mu1 x4 n6 h6))) ∧
   CondP ((n6 : Int) == 0) (
   ∃ n19 : Int, cellH h9 b2 2 = some (.int .i64 n19) ∧
   CondP ((n19 : Int) == 2) (
   ∃ n20 : Int, cellH h9 b3 1 = some (.int .u64 n20) ∧
   J2 (decide ((n20 : Int) > 0)) h9) (
   J2 false h9)) (
   J2 false h9)) ∧
   ∃ J3 : Bool → Heap → Prop, (∀ t2 : Bool, ∀ h18, J3 t2 h18 → ∀ _ : Env,
   CondP t2 (
   ∃ n21 : Int, cellH h18 b4 0 = some (.int .u64 n21) ∧
   CanSt h18 b4 0 [.int .u64 (IntKind.u64.wrap (n21 + 1))] ∧ ∀ h19, Stored h18 b4 0 [.int .u64 (IntKind.u64.wrap (n21 + 1))] h19 →
   J1  h19) (
   J1  h18)) ∧
   CondP ((n6 : Int) == 0) (
   ∃ n22 : Int, cellH h8 b2 2 = some (.int .i64 n22) ∧
   J3 ((n22 : Int) == 1) h8) (
   J3 false h8)) (
   ∃ n23 : Int, ∃ n24 : Int, ∃ x12 : Sl, ∃ x13 : Sl, CellsAt h6 b1 0 [.int .u64 n23, .int .u64 n24, .slice x12.a x12.l x12.c, .slice x13.a x13.l x13.c] ∧
   CallsH Tryz.prog 18 #[.agg #[.int .u64 n23, .int .u64 n24, .slice x12.a x12.l x12.c, .slice x13.a x13.l x13.c]] h6 (fun r2 h20 => ∃ n25 : Int, ∃ n26 : Int, ∃ x14 : Sl, r2 = .agg #[.int .u64 n25, .int .u64 n26, .slice x14.a x14.l x14.c] ∧
   CanSt h20 b3 0 [.int .u64 n25, .int .u64 n26, .slice x14.a x14.l x14.c] ∧ ∀ h21, Stored h20 b3 0 [.int .u64 n25, .int .u64 n26, .slice x14.a x14.l x14.c] h21 →
   ∃ (I2 : Bool → Int → Heap → Prop) (mu2 : Bool → Int → Heap → Nat), I2 true 0 h21 ∧ (∀ t3 : Bool, ∀ n27 : Int, ∀ h22, I2 t3 n27 h22 → ∀ _ : Env,
   CondP (decide ((n27 : Int) < ((x4.l : Nat) : Int))) (
   ((0 : Int) ≤ n27 ∧ (n27 : Int) < ((x4.l : Nat) : Int)) ∧
   NilP x4.a (fun b7 o1 =>
   ∃ n28 : Int, ∃ n29 : Int, ∃ x15 : Sl, CellsAt h22 b7 (o1 + n27.toNat * 3) [.int .u64 n28, .int .u64 n29, .slice x15.a x15.l x15.c] ∧
   ∀ b8 h23, Fresh h22 (.cells #[.int .u64 0, .int .u64 0, .slice none 0 0] 85) b8 h23 →
   CanSt h23 b8 0 [.int .u64 n28, .int .u64 n29, .slice x15.a x15.l x15.c] ∧ ∀ h24, Stored h23 b8 0 [.int .u64 n28, .int .u64 n29, .slice x15.a x15.l x15.c] h24 →
   CondP t3 (
   ∃ n30 : Int, cellH h24 b8 0 = some (.int .u64 n30) ∧
   ∃ n31 : Int, cellH h24 b3 0 = some (.int .u64 n31) ∧
   CondP ((n30 : Int) == (IntKind.u64.wrap (n31 + 1))) (
   ∃ n32 : Int, cellH h24 b8 1 = some (.int .u64 n32) ∧
   ∃ n33 : Int, cellH h24 b3 1 = some (.int .u64 n33) ∧
   CondP (decide ((n32 : Int) ≥ n33)) (
   ∃ x16 : Sl, cellH h24 b8 2 = some (.slice x16.a x16.l x16.c) ∧
   ∃ n34 : Int, ∃ n35 : Int, ∃ x17 : Sl, CellsAt h24 b8 0 [.int .u64 n34, .int .u64 n35, .slice x17.a x17.l x17.c] ∧
   CanSt h24 b3 0 [.int .u64 n34, .int .u64 n35, .slice x17.a x17.l x17.c] ∧ ∀ h25, Stored h24 b3 0 [.int .u64 n34, .int .u64 n35, .slice x17.a x17.l x17.c] h25 →
   I2 (decide ((((x16.l : Nat) : Int) : Int) ≤ 512)) (IntKind.i64.wrap (n27 + 1)) h25 ∧ mu2 (decide ((((x16.l : Nat) : Int) : Int) ≤ 512)) (IntKind.i64.wrap (n27 + 1)) h25 < mu2 t3 n27 h22) (
   ∃ n36 : Int, ∃ n37 : Int, ∃ x18 : Sl, CellsAt h24 b8 0 [.int .u64 n36, .int .u64 n37, .slice x18.a x18.l x18.c] ∧
   CanSt h24 b3 0 [.int .u64 n36, .int .u64 n37, .slice x18.a x18.l x18.c] ∧ ∀ h26, Stored h24 b3 0 [.int .u64 n36, .int .u64 n37, .slice x18.a x18.l x18.c] h26 →
   I2 false (IntKind.i64.wrap (n27 + 1)) h26 ∧ mu2 false (IntKind.i64.wrap (n27 + 1)) h26 < mu2 t3 n27 h22)) (
   ∃ n38 : Int, ∃ n39 : Int, ∃ x19 : Sl, CellsAt h24 b8 0 [.int .u64 n38, .int .u64 n39, .slice x19.a x19.l x19.c] ∧
   CanSt h24 b3 0 [.int .u64 n38, .int .u64 n39, .slice x19.a x19.l x19.c] ∧ ∀ h27, Stored h24 b3 0 [.int .u64 n38, .int .u64 n39, .slice x19.a x19.l x19.c] h27 →
   I2 false (IntKind.i64.wrap (n27 + 1)) h27 ∧ mu2 false (IntKind.i64.wrap (n27 + 1)) h27 < mu2 t3 n27 h22)) (
   ∃ n40 : Int, ∃ n41 : Int, ∃ x20 : Sl, CellsAt h24 b8 0 [.int .u64 n40, .int .u64 n41, .slice x20.a x20.l x20.c] ∧
   CanSt h24 b3 0 [.int .u64 n40, .int .u64 n41, .slice x20.a x20.l x20.c] ∧ ∀ h28, Stored h24 b3 0 [.int .u64 n40, .int .u64 n41, .slice x20.a x20.l x20.c] h28 →
   I2 false (IntKind.i64.wrap (n27 + 1)) h28 ∧ mu2 false (IntKind.i64.wrap (n27 + 1)) h28 < mu2 t3 n27 h22))) (
   R (.tuple #[.slice x4.a x4.l x4.c, .bool t3]) h22))))))) :
  CallsH Tryz.prog 48 #[.agg #[.int .u64 s_0, .int .u64 s_1, .slice s_2.a s_2.l s_2.c, .slice s_3.a s_3.l s_3.c], .agg #[.int .i64 o_0, .int .i64 o_1, .int .i64 o_2, .int .u64 o_3, .int .u64 o_4, .slice o_5.a o_5.l o_5.c]] h R :=
  calls_of_vc tabOk mixed Tryz.func48 (c := c48) (by kernel_rfl) (n := 102) rfl (rs := [.tmp 4, .tmp 5]) (by kernel_rfl) ok48 (args := [.agg #[.int .u64 s_0, .int .u64 s_1, .slice s_2.a s_2.l s_2.c, .slice s_3.a s_3.l s_3.c], .agg #[.int .i64 o_0, .int .i64 o_1, .int .i64 o_2, .int .u64 o_3, .int .u64 o_4, .slice o_5.a o_5.l o_5.c]]) (Nat.le_of_ble_eq_true rfl) (Eq.mpr (by kernel_rfl) hv)
end Go.Sx.Tryz
namespace Go.Sx.Tryz
open Go Go.Sx Go.Proofs
set_option maxRecDepth 100000
set_option linter.unusedVariables false
noncomputable def c8 : Code := (Tryz.f8.body).getD .skip
def a8 : Ann := (.seq .leaf (.seq (.seq .leaf (.inn (.loop [(7, .one (.i .i64))] (.seq .leaf (.seq (.br .leaf .leaf) (.seq (.inn (.seq .leaf (.seq .leaf (.br (.seq .leaf .leaf) .leaf)))) .leaf)))))) (.seq .leaf .leaf)))
theorem ok8 : okC tab 19 true c8 a8 = true := by kernel_rfl
theorem vc8 (l_ : Sl) (h : Heap) (R : Value → Heap → Prop)
  (hv : ∃ (I1 : Int → Heap → Prop) (mu1 : Int → Heap → Nat), I1 0 h ∧ (∀ n1 : Int, ∀ h1, I1 n1 h1 → ∀ _ : Env,
   CondP (decide ((n1 : Int) < ((l_.l : Nat) : Int))) (
   ((0 : Int) ≤ n1 ∧ (n1 : Int) < ((l_.l : Nat) : Int)) ∧
   NilP l_.a (fun b1 o1 =>
   ∃ n2 : Int, ∃ n3 : Int, ∃ n4 : Int, ∃ n5 : Int, ∃ n6 : Int, ∃ x1 : Sl, CellsAt h1 b1 (o1 + n1.toNat * 6) [.int .i64 n2, .int .i64 n3, .int .i64 n4, .int .u64 n5, .int .u64 n6, .slice x1.a x1.l x1.c] ∧
   ∀ b2 h2, Fresh h1 (.cells #[.int .i64 0, .int .i64 0, .int .i64 0, .int .u64 0, .int .u64 0, .slice none 0 0] 40) b2 h2 →
   CanSt h2 b2 0 [.int .i64 n2, .int .i64 n3, .int .i64 n4, .int .u64 n5, .int .u64 n6, .slice x1.a x1.l x1.c] ∧ ∀ h3, Stored h2 b2 0 [.int .i64 n2, .int .i64 n3, .int .i64 n4, .int .u64 n5, .int .u64 n6, .slice x1.a x1.l x1.c] h3 →
   ∃ x2 : Sl, cellH h3 b2 5 = some (.slice x2.a x2.l x2.c) ∧
   CondP (decide ((((x2.l : Nat) : Int) : Int) > 600)) (
   R (.bool false) h3) (
   I1 (IntKind.i64.wrap (n1 + 1)) h3 ∧ mu1 (IntKind.i64.wrap (n1 + 1)) h3 < mu1 n1 h1))) (
   R (.bool (decide ((((l_.l : Nat) : Int) : Int) ≤ 60))) h1))) :
  CallsH Tryz.prog 8 #[.slice l_.a l_.l l_.c] h R :=
  calls_of_vc tabOk mixed Tryz.func8 (c := c8) (by kernel_rfl) (n := 19) rfl (rs := [.tmp 2]) (by kernel_rfl) ok8 (args := [.slice l_.a l_.l l_.c]) (Nat.le_of_ble_eq_true rfl) (Eq.mpr (by kernel_rfl) hv)
end Go.Sx.Tryz
namespace Go.Sx.Tryz
open Go Go.Sx Go.Proofs
set_option linter.unusedVariables false
set_option maxRecDepth 20000
section
variable {H H' : Heap} {S : PH} {R : List Asn}
def OL (S : PH) (v : Sl) (ops : List Op1) : Prop := ∃ xs : List (Op1 × Sl), xs.map (·.1) = ops ∧ Rd S v 6 (xs.flatMap fun x => opV x.1 x.2) ∧ ∀ x ∈ xs, RdB S x.2 x.1.b
theorem OL.mono {S S' : PH} {v : Sl} {l : List Op1} (h : OL S v l) (hs : PH.le S S') : OL S' v l := by
  obtain ⟨xs, h1, h2, h3⟩ := h
  exact ⟨xs, h1, h2.mono hs, fun x hx => (h3 x hx).mono hs⟩
theorem opV_len (x : Op1 × Sl) : (opV x.1 x.2).length = 6 := rfl
theorem OL.len {v : Sl} {l : List Op1} (h : OL S v l) : v.l = l.length := by
  obtain ⟨xs, h1, h2, h3⟩ := h
  have := h2.1
  rw [flat_len (f := fun x : Op1 × Sl => opV x.1 x.2) opV_len] at this
  rw [← h1, List.length_map]; omega
theorem OL.at {v : Sl} {l : List Op1} (h : OL S v l) {L : List Asn} (hs : Sat H S L) {k : Nat} (hk : k < l.length) : ∃ g o x, v.a = some ⟨g, o, none⟩ ∧ CellsAt H g (o + k * 6) (opV l[k] x) ∧ RdB S x l[k].b := by
  have hl := OL.len h
  obtain ⟨xs, h1, h2, h3⟩ := h
  subst h1
  have hk' : k < xs.length := by simpa using hk
  obtain ⟨g, o, ga, gc⟩ := Rd.at h2 hs (by omega)
  refine ⟨g, o, xs[k].2, ga, ?_, ?_⟩
  · have := cells_sub gc (k * 6) 6
    rw [flat_at (f := fun x : Op1 × Sl => opV x.1 x.2) opV_len hk'] at this
    simpa using this
  · simpa using h3 _ (List.getElem_mem hk')
theorem few_spec {v : Sl} {ops : List Op1} (hs : Sat H S R) (hv : OL S v ops) (hvl : v.l ≤ 9223372036854775807)
    {K : Value → Heap → Prop} (hK : ∀ b H', (b = true → ops.length ≤ 60 ∧ ∀ o ∈ ops, o.b.length ≤ 600) → Sat H' S R → K (.bool b) H') : CallsH Tryz.prog 8 #[.slice v.a v.l v.c] H K := by
  apply vc8
  have hl := OL.len hv
  refine ⟨fun n h => ∃ i : Nat, n = i ∧ i ≤ ops.length ∧ (∀ o ∈ ops.take i, o.b.length ≤ 600) ∧ Sat h S R, fun n _ => ops.length - n.toNat, ⟨0, rfl, Nat.zero_le _, (fun o h => by simp at h), hs⟩, ?_⟩
  rintro n h1 ⟨i, rfl, hi, hpre, hs1⟩ _
  refine CondP.of (fun hc => ?_) (fun hc => ?_)
  · have hc : i < ops.length := by simp at hc; omega
    obtain ⟨g, o, x, ga, gc, gx⟩ := hv.at hs1 hc
    refine ⟨⟨by omega, by omega⟩, NilP.of ga ⟨_, _, _, _, _, x, gc, ?_⟩⟩
    intro b2 h2 f2
    have hs2 := hs1.fresh f2
    refine Sat.store (T := 40) (l := [.int .i64 0, .int .i64 0, .int .i64 0, .int .u64 0, .int .u64 0, .slice none 0 0]) hs2 (Nat.le_refl _) fun h3 hs3 => ?_
    have hs3 : Sat h3 S (lst b2 40 (opV ops[i] x) :: R) := hs3
    have hxl := RdB.len gx
    refine ⟨x, hs3.cell 5 rfl, CondP.of (fun hc2 => hK false h3 (fun h => by cases h) hs3.drop) (fun hc2 => ?_)⟩
    rw [i64_succ (by omega)]
    refine ⟨⟨i + 1, rfl, hc, fun o ho => ?_, hs3.drop⟩, by simp only [Int.toNat_natCast]; omega⟩
    rw [List.take_succ_eq_append_getElem hc] at ho
    rcases List.mem_append.1 ho with h | h
    · exact hpre o h
    · simp only [List.mem_singleton] at h
      subst h
      have := of_decide_eq_false hc2
      omega
  · have hc : i = ops.length := by simp at hc; omega
    subst hc
    rw [List.take_length] at hpre
    refine hK _ h1 (fun h => ⟨?_, hpre⟩) hs1
    have := of_decide_eq_true h
    omega
def entOne (p : Nat × Nat) (o : Op1) (i : Nat) : Ent := ⟨p.1 + 1 + (if i = 0 ∧ o.odd = 1 then 1 else 0), if i = 0 ∧ o.odd = 2 ∧ 0 < p.2 then p.2 - 1 else p.2 + o.t % 2, o.b⟩
def entsN (p : Nat × Nat) (o : Op1) : Nat → List Ent
  | 0 => []
  | k + 1 => entsN p o k ++ [entOne (lastP p (entsN p o k)) o k]
def manyN (o : Op1) : Nat := (o.many % 18446744073709551616).toNat % 5
theorem entsN_len (p : Nat × Nat) (o : Op1) : ∀ k, (entsN p o k).length = k
  | 0 => rfl
  | k + 1 => by simp [entsN, entsN_len p o k]
theorem lastP_snoc (p : Nat × Nat) (l : List Ent) (e : Ent) : lastP p (l ++ [e]) = (e.i, e.t) := by rw [lastP_append]; rfl
theorem entOne_le (p : Nat × Nat) (o : Op1) (i : Nat) : (entOne p o i).i ≤ p.1 + 2 ∧ (entOne p o i).t ≤ p.2 + 1 := by
  unfold entOne
  constructor
  · show p.1 + 1 + (if i = 0 ∧ o.odd = 1 then 1 else 0) ≤ p.1 + 2
    split <;> omega
  · show (if i = 0 ∧ o.odd = 2 ∧ 0 < p.2 then p.2 - 1 else p.2 + o.t % 2) ≤ p.2 + 1
    split <;> omega
theorem entsN_last (p : Nat × Nat) (o : Op1) : ∀ k, (lastP p (entsN p o k)).1 ≤ p.1 + 2 * k ∧ (lastP p (entsN p o k)).2 ≤ p.2 + k
  | 0 => ⟨Nat.le_refl _, Nat.le_refl _⟩
  | k + 1 => by
    obtain ⟨h1, h2⟩ := entsN_last p o k
    rw [entsN, lastP_snoc]
    have h3 := entOne_le (lastP p (entsN p o k)) o k
    exact ⟨by show (entOne (lastP p (entsN p o k)) o k).i ≤ _; omega, by show (entOne (lastP p (entsN p o k)) o k).t ≤ _; omega⟩
theorem entsN_small (p : Nat × Nat) (o : Op1) : ∀ k, ∀ e ∈ entsN p o k, e.i ≤ p.1 + 2 * k ∧ e.t ≤ p.2 + k ∧ e.b = o.b
  | 0, e, h => by cases h
  | k + 1, e, h => by
    rw [entsN] at h
    rcases List.mem_append.1 h with h | h
    · obtain ⟨h1, h2, h3⟩ := entsN_small p o k e h
      exact ⟨by omega, by omega, h3⟩
    · simp only [List.mem_singleton] at h
      obtain ⟨h1, h2⟩ := entsN_last p o k
      subst h
      have h3 := entOne_le (lastP p (entsN p o k)) o k
      exact ⟨by omega, by omega, rfl⟩
set_option maxHeartbeats 1000000 in
theorem ents_spec {s : PL} {x z : Sl} {o : Op1} (hs : Sat H S R) (hx : EL S x s.es) (hz : RdB S z o.b) (hzl : o.b.length ≤ 600) (hlen : s.es.length < 100000000) (hb1 : s.last.1 < 1000000) (hb2 : s.last.2 < 1000000)
    {K : Value → Heap → Prop} (hK : ∀ (y : Sl) H' S', PH.le S S' → EL S' y (entsN s.last o (manyN o)) → Sat H' S' R → K (.tuple #[.slice y.a y.l y.c, .bool (okAll s.last (entsN s.last o (manyN o)))]) H') :
    CallsH Tryz.prog 48 #[.agg (stV s x).toArray, .agg (opV o z).toArray] H K := by
  refine vc48 (s.fi : Int) (s.ft : Int) ⟨none, 0, 0⟩ x o.kind o.many o.odd (o.n : Int) (o.t : Int) z H K ?_
  generalize hp : s.last = p at *
  intro b1 h1 f1 b2 h2 f2
  have hs1 : Sat h1 S (lst b1 38 (stV s x) :: R) := hs.fresh f1
  have hs2 : Sat h2 S (lst b2 40 (opV o z) :: lst b1 38 (stV s x) :: R) := hs1.fresh f2
  refine ⟨_, _, ⟨none, 0, 0⟩, x, hs2.swap.cells 0 rfl, ?_⟩
  refine slast_spec hs2 hx hlen fun y h3 hs3 => ⟨_, _, y, rfl, ?_⟩
  rw [hp]
  intro b3 h4 f4
  have hs4 := hs3.fresh f4
  refine Sat.store (T := 35) (l := [.int .u64 0, .int .u64 0, .slice none 0 0]) hs4 (Nat.le_refl _) fun h5 hs5 => ?_
  have hs5 : Sat h5 S (lst b3 35 (eV (⟨p.1, p.2, []⟩, y)) :: lst b2 40 (opV o z) :: lst b1 38 (stV s x) :: R) := hs5
  refine ⟨_, hs5.swap.cell 1 rfl, by decide, ?_⟩
  have em : IntKind.i64.wrap (Int.tmod (IntKind.u64.wrap o.many) 5) = ((manyN o : Nat) : Int) := by
    rw [w_u64]
    have h0 : o.many % 18446744073709551616 = (((o.many % 18446744073709551616).toNat : Nat) : Int) := by
      rw [Int.toNat_of_nonneg (Int.emod_nonneg _ (by decide))]
    rw [h0, show Int.tmod (((o.many % 18446744073709551616).toNat : Nat) : Int) 5 = (((o.many % 18446744073709551616).toNat % 5 : Nat) : Int) from tmod_nat _ 5, i64_nat (by omega)]
    rfl
  rw [em]
  have hm5 : manyN o < 5 := Nat.mod_lt _ (by decide)
  refine ⟨fun v n h => ∃ (k : Nat) (us : List EB) (w : EB), n = k ∧ k ≤ manyN o ∧ us.map (·.1) = entsN p o k ∧ (∀ q ∈ us, RdB S q.2 q.1.b) ∧ (w.1.i, w.1.t) = lastP p (entsN p o k) ∧ Sat h S (own 85 3 v (entV us) :: lst b3 35 (eV w) :: lst b2 40 (opV o z) :: lst b1 38 (stV s x) :: R), fun _ n _ => manyN o - n.toNat, ⟨0, [], (⟨p.1, p.2, []⟩, y), rfl, Nat.zero_le _, rfl, (fun q hq => by cases hq), rfl, own.new 85 3 hs5⟩, ?_⟩
  rintro v n h6 ⟨k, us, w, rfl, hk, hus, hub, hw, hs6⟩ _
  have hul : us.length = k := by have := congrArg List.length hus; rw [List.length_map, entsN_len] at this; exact this
  refine CondP.of (fun hc => ?_) (fun hc => ?_)
  · have hc : k < manyN o := by simp at hc; omega
    obtain ⟨hl1, hl2⟩ := entsN_last p o k
    have hw1 : w.1.i = (lastP p (entsN p o k)).1 := congrArg Prod.fst hw
    have hw2 : w.1.t = (lastP p (entsN p o k)).2 := congrArg Prod.snd hw
    have hent : entOne (lastP p (entsN p o k)) o k = ⟨w.1.i + 1 + (if k = 0 ∧ o.odd = 1 then 1 else 0), if k = 0 ∧ o.odd = 2 ∧ 0 < w.1.t then w.1.t - 1 else w.1.t + o.t % 2, o.b⟩ := by rw [entOne, hw1, hw2]
    have c3 := hs6.pick 1 rfl
    have c2 := hs6.pick 2 rfl
    refine ⟨_, c3.cell 0 rfl, _, c3.cell 1 rfl, _, c2.cell 4 rfl, by decide, z, c2.cell 5 rfl, ?_⟩
    have e1 : IntKind.u64.wrap ((w.1.i : Int) + 1) = ((w.1.i + 1 : Nat) : Int) := u64_add (j := 1) (by omega)
    have e2 : IntKind.u64.wrap ((w.1.t : Int) + Int.tmod (o.t : Int) 2) = ((w.1.t + o.t % 2 : Nat) : Int) := by
      rw [show Int.tmod (o.t : Int) 2 = ((o.t % 2 : Nat) : Int) from tmod_nat _ 2, u64_add (by omega)]
    rw [e1, e2]
    intro b4 h7 f7
    have hs7 := hs6.fresh f7
    refine Sat.store (T := 85) (l := [.int .u64 0, .int .u64 0, .slice none 0 0]) hs7 (Nat.le_refl _) fun h8 hs8 => ?_
    have hs8 : Sat h8 S (lst b4 85 (eV (⟨w.1.i + 1, w.1.t + o.t % 2, o.b⟩, z)) :: own 85 3 v (entV us) :: lst b3 35 (eV w) :: lst b2 40 (opV o z) :: lst b1 38 (stV s x) :: R) := hs8
    have ek : ((k : Int) == 0) = decide (k = 0) := by
      have := beq_nat_int k 0
      rw [show ((k : Int) == 0) = (k == 0) by simpa using this]; exact Bool.beq_eq_decide_eq _ _
    have fin : ∀ (h10 : Heap) (E : Ent), E = entOne (lastP p (entsN p o k)) o k → Sat h10 S (lst b4 85 (eV (E, z)) :: own 85 3 v (entV us) :: lst b3 35 (eV w) :: lst b2 40 (opV o z) :: lst b1 38 (stV s x) :: R) →
        ∃ n15 : Int, ∃ n16 : Int, ∃ x9 : Sl, CellsAt h10 b4 0 [.int .u64 n15, .int .u64 n16, .slice x9.a x9.l x9.c] ∧
        ∀ b6 h15, Fresh h10 (.cells #[.int .u64 n15, .int .u64 n16, .slice x9.a x9.l x9.c] 85) b6 h15 →
        RunK Tryz.prog (.sl) (Builtin.append_ #[81, 81] 81 #[.slice v.a v.l v.c, .slice (some ⟨b6, 0, none⟩) 1 1]) h15 (fun x10 h16 =>
        ∃ n17 : Int, ∃ n18 : Int, ∃ x11 : Sl, CellsAt h16 b4 0 [.int .u64 n17, .int .u64 n18, .slice x11.a x11.l x11.c] ∧
        CanSt h16 b3 0 [.int .u64 n17, .int .u64 n18, .slice x11.a x11.l x11.c] ∧ ∀ h17, Stored h16 b3 0 [.int .u64 n17, .int .u64 n18, .slice x11.a x11.l x11.c] h17 →
        (∃ (k' : Nat) (us : List EB) (w : EB), IntKind.i64.wrap ((k : Int) + 1) = k' ∧ k' ≤ manyN o ∧ us.map (·.1) = entsN p o k' ∧ (∀ q ∈ us, RdB S q.2 q.1.b) ∧ (w.1.i, w.1.t) = lastP p (entsN p o k') ∧ Sat h17 S (own 85 3 x10 (entV us) :: lst b3 35 (eV w) :: lst b2 40 (opV o z) :: lst b1 38 (stV s x) :: R)) ∧
        manyN o - (IntKind.i64.wrap ((k : Int) + 1)).toNat < manyN o - (k : Int).toNat) := by
      intro h10 E hE hh
      refine ⟨_, _, z, hh.cells 0 rfl, ?_⟩
      intro b6 h15 f15
      have hs9 : Sat h15 S (lst b6 85 (eV (E, z)) :: lst b4 85 (eV (E, z)) :: own 85 3 v (entV us) :: lst b3 35 (eV w) :: lst b2 40 (opV o z) :: lst b1 38 (stV s x) :: R) := hh.fresh f15
      refine onesL (us := us) el81 (hs9.sel [0, 1]) (by omega) fun x10 h16 hs10 => ⟨_, _, z, hs10.swap.cells 0 rfl, ?_⟩
      refine (hs10.pick 2 rfl).store (by simp [eV]) fun h17 hs11 => ?_
      have hs11 : Sat h17 S (lst b3 35 (eV (E, z)) :: own 85 3 x10 (entV (us ++ [(E, z)])) :: lst b4 85 (eV (E, z)) :: lst b2 40 (opV o z) :: lst b1 38 (stV s x) :: R) := hs11
      rw [i64_succ (by omega)]
      refine ⟨⟨k + 1, us ++ [(E, z)], (E, z), rfl, hc, ?_, fun q hq => ?_, ?_, (hs11.sel [1, 0]).del 2⟩, by simp only [Int.toNat_natCast]; omega⟩
      · rw [List.map_append, hus, entsN, hE]; rfl
      · rcases List.mem_append.1 hq with h | h
        · exact hub q h
        · simp only [List.mem_singleton] at h
          subst h
          have : E.b = o.b := by rw [hE]; rfl
          rw [this]; exact hz
      · rw [entsN, lastP_snoc, hE]
    refine ⟨fun h => Sat h S (lst b4 85 (eV (⟨w.1.i + 1 + (if k = 0 ∧ o.odd = 1 then 1 else 0), w.1.t + o.t % 2, o.b⟩, z)) :: own 85 3 v (entV us) :: lst b3 35 (eV w) :: lst b2 40 (opV o z) :: lst b1 38 (stV s x) :: R), ?_, ?_⟩
    · intro h9 hs9 _
      refine ⟨fun t h => t = decide (k = 0 ∧ o.odd = 2 ∧ 0 < w.1.t) ∧ h = h9, ?_, ?_⟩
      · rintro t h10 ⟨rfl, rfl⟩ _
        refine CondP.of (fun hc1 => ?_) (fun hc1 => ?_)
        · have hc1 := of_decide_eq_true hc1
          refine ⟨_, (hs9.pick 2 rfl).cell 1 rfl, ?_⟩
          have e3 : IntKind.u64.wrap ((w.1.t : Int) - 1) = ((w.1.t - 1 : Nat) : Int) := u64_sub (j := 1) (by omega) (by omega)
          rw [e3]
          refine hs9.store (by simp [eV]) fun h11 hs10 => ?_
          refine fin h11 ⟨w.1.i + 1 + (if k = 0 ∧ o.odd = 1 then 1 else 0), w.1.t - 1, o.b⟩ ?_ hs10
          rw [hent, if_pos (c := k = 0 ∧ o.odd = 2 ∧ 0 < w.1.t) hc1]
        · have hc1 := of_decide_eq_false hc1
          refine fin h10 ⟨w.1.i + 1 + (if k = 0 ∧ o.odd = 1 then 1 else 0), w.1.t + o.t % 2, o.b⟩ ?_ hs9
          rw [hent, if_neg (c := k = 0 ∧ o.odd = 2 ∧ 0 < w.1.t) hc1]
      · rw [ek]
        refine CondP.of (fun hk0 => ⟨_, (hs9.pick 3 rfl).cell 2 rfl, CondP.of (fun ho2 => ⟨_, (hs9.pick 2 rfl).cell 1 rfl, ?_, rfl⟩) fun ho2 => ⟨?_, rfl⟩⟩) fun hk0 => ⟨?_, rfl⟩
        · have h1 := of_decide_eq_true hk0
          have h2 : o.odd = 2 := by simpa using ho2
          exact decide_eq_decide.2 ⟨fun h => ⟨h1, h2, by omega⟩, fun h => by have := h.2.2; omega⟩
        · have h2 : ¬ o.odd = 2 := by simpa using ho2
          exact (decide_eq_false fun h => h2 h.2.1).symm
        · exact (decide_eq_false fun h => of_decide_eq_false hk0 h.1).symm
    · refine ⟨fun t h => t = decide (k = 0 ∧ o.odd = 1) ∧ h = h8, ?_, ?_⟩
      · rintro t h18 ⟨rfl, rfl⟩ _
        refine CondP.of (fun hc1 => ?_) (fun hc1 => ?_)
        · refine ⟨_, hs8.cell 0 rfl, ?_⟩
          have e3 : IntKind.u64.wrap (((w.1.i + 1 : Nat) : Int) + 1) = ((w.1.i + 1 + 1 : Nat) : Int) := u64_add (j := 1) (by omega)
          rw [e3]
          refine hs8.store (by simp [eV]) fun h19 hs9 => ?_
          rw [if_pos (of_decide_eq_true hc1)]; exact hs9
        · rw [if_neg (of_decide_eq_false hc1)]; exact hs8
      · rw [ek]
        refine CondP.of (fun hk0 => ⟨_, (hs8.pick 3 rfl).cell 2 rfl, ?_, rfl⟩) fun hk0 => ⟨?_, rfl⟩
        · have h1 := of_decide_eq_true hk0
          show (o.odd == 1) = _
          by_cases h2 : o.odd = 1
          · rw [decide_eq_true (⟨h1, h2⟩ : k = 0 ∧ o.odd = 1), h2]; rfl
          · rw [decide_eq_false (fun h => h2 h.2), beq_eq_false_iff_ne.2 h2]
        · exact (decide_eq_false fun h => of_decide_eq_false hk0 h.1).symm
  · have hc : k = manyN o := by simp at hc; omega
    subst hc
    obtain ⟨S1, q1, q2, q3⟩ := sealL (us := us) hs6 hub
    rw [hus] at q2
    have hsm := entsN_small p o (manyN o)
    have hlenE := entsN_len p o (manyN o)
    generalize hE : entsN p o (manyN o) = E at *
    obtain ⟨hvl, hvc⟩ := EL.len q2
    refine ⟨_, _, ⟨none, 0, 0⟩, x, (q3.pick 2 rfl).cells 0 rfl, ?_⟩
    refine slast_spec q3 (hx.mono q1) hlen fun y2 h20 hs7 => ⟨_, _, y2, rfl, ?_⟩
    rw [hp]
    refine hs7.store (by simp [eV]) fun h21 hs8 => ?_
    have hs8 : Sat h21 S1 (lst b3 35 (eV (⟨p.1, p.2, []⟩, y2)) :: lst b2 40 (opV o z) :: lst b1 38 (stV s x) :: R) := hs8
    refine ⟨fun t n h => ∃ (i : Nat) (w : EB), n = i ∧ i ≤ E.length ∧ t = okAll p (E.take i) ∧ (w.1.i, w.1.t) = lastP p (E.take i) ∧ Sat h S1 (lst b3 35 (eV w) :: lst b2 40 (opV o z) :: lst b1 38 (stV s x) :: R), fun _ n _ => E.length - n.toNat, ⟨0, (⟨p.1, p.2, []⟩, y2), rfl, Nat.zero_le _, rfl, rfl, hs8⟩, ?_⟩
    rintro t n h22 ⟨i, w2, rfl, hi, rfl, hw2, hs9⟩ _
    refine CondP.of (fun hc => ?_) (fun hc => ?_)
    · have hil : i < E.length := by simp at hc; omega
      obtain ⟨g, og, z2, ga, gc, gz⟩ := q2.at hs9 hil
      refine ⟨⟨by omega, by omega⟩, NilP.of ga ⟨_, _, z2, gc, ?_⟩⟩
      intro b8 h23 f23
      have hs10 := hs9.fresh f23
      refine Sat.store (T := 85) (l := [.int .u64 0, .int .u64 0, .slice none 0 0]) hs10 (Nat.le_refl _) fun h24 hs11 => ?_
      have hs11 : Sat h24 S1 (lst b8 85 (eV (E[i], z2)) :: lst b3 35 (eV w2) :: lst b2 40 (opV o z) :: lst b1 38 (stV s x) :: R) := hs11
      obtain ⟨hm1, hm2, hm3⟩ := hsm _ (List.getElem_mem hil)
      have hz2l := RdB.len gz
      have hlp : (lastP p (E.take i)).1 = w2.1.i ∧ (lastP p (E.take i)).2 = w2.1.t := by rw [← hw2]; exact ⟨rfl, rfl⟩
      have hst : ∀ (tt : Bool), tt = okAll p (E.take (i + 1)) → ∃ n34 : Int, ∃ n35 : Int, ∃ x17 : Sl, CellsAt h24 b8 0 [.int .u64 n34, .int .u64 n35, .slice x17.a x17.l x17.c] ∧
          CanSt h24 b3 0 [.int .u64 n34, .int .u64 n35, .slice x17.a x17.l x17.c] ∧ ∀ h25, Stored h24 b3 0 [.int .u64 n34, .int .u64 n35, .slice x17.a x17.l x17.c] h25 →
          (∃ (i' : Nat) (w : EB), IntKind.i64.wrap ((i : Int) + 1) = i' ∧ i' ≤ E.length ∧ tt = okAll p (E.take i') ∧ (w.1.i, w.1.t) = lastP p (E.take i') ∧ Sat h25 S1 (lst b3 35 (eV w) :: lst b2 40 (opV o z) :: lst b1 38 (stV s x) :: R)) ∧ E.length - (IntKind.i64.wrap ((i : Int) + 1)).toNat < E.length - (i : Int).toNat := by
        intro tt htt
        refine ⟨_, _, z2, hs11.cells 0 rfl, ?_⟩
        refine hs11.swap.store (by simp [eV]) fun h25 hs12 => ?_
        have hs12 : Sat h25 S1 (lst b3 35 (eV (E[i], z2)) :: lst b8 85 (eV (E[i], z2)) :: lst b2 40 (opV o z) :: lst b1 38 (stV s x) :: R) := hs12
        rw [i64_succ (by omega)]
        exact ⟨⟨i + 1, (E[i], z2), rfl, hil, htt, by rw [lastP_succ hil], hs12.del 1⟩, by simp only [Int.toNat_natCast]; omega⟩
      have hok1 : okE (lastP p (E.take i)) E[i] = (decide (E[i].i = w2.1.i + 1) && (decide (w2.1.t ≤ E[i].t) && decide (E[i].b.length ≤ 512))) := by
        rw [okE, decide_eq_true (show E[i].i ≤ MaxI by unfold MaxI; omega), decide_eq_true (show E[i].t ≤ MaxI by unfold MaxI; omega), hlp.1, hlp.2, Bool.true_and, Bool.true_and]
      have hsu := okAll_succ (p := p) hil
      rw [hok1] at hsu
      have hw2l : w2.1.i < 2000000 := by
        have h1 : E = E.take i ++ E.drop i := (List.take_append_drop i E).symm
        rcases Nat.eq_zero_or_pos i with h0 | h0
        · subst h0
          have : (lastP p (E.take 0)).1 = p.1 := rfl
          omega
        · have h2 := lastP_succ (p := p) (l := E) (i := i - 1) (by omega)
          rw [show i - 1 + 1 = i by omega] at h2
          obtain ⟨hn1, _, _⟩ := hsm _ (List.getElem_mem (show i - 1 < E.length by omega))
          rw [h2] at hlp
          have := hlp.1
          simp only at this
          omega
      refine CondP.of (fun hc1 => ?_) (fun hc1 => ?_)
      · rw [hc1, Bool.true_and] at hsu
        refine ⟨_, hs11.cell 0 rfl, _, hs11.swap.cell 0 rfl, ?_⟩
        have e1 : ((E[i].i : Int) == IntKind.u64.wrap ((w2.1.i : Int) + 1)) = decide (E[i].i = w2.1.i + 1) := by
          rw [show IntKind.u64.wrap ((w2.1.i : Int) + 1) = ((w2.1.i + 1 : Nat) : Int) from u64_add (j := 1) (by omega), beq_nat_int]
          exact Bool.beq_eq_decide_eq _ _
        rw [e1]
        refine CondP.of (fun hc2 => ?_) (fun hc2 => ?_)
        · rw [hc2, Bool.true_and] at hsu
          refine ⟨_, hs11.cell 1 rfl, _, hs11.swap.cell 1 rfl, ?_⟩
          have e2 : decide ((E[i].t : Int) ≥ (w2.1.t : Int)) = decide (w2.1.t ≤ E[i].t) := decide_eq_decide.2 (by omega)
          rw [e2]
          refine CondP.of (fun hc3 => ?_) (fun hc3 => ?_)
          · rw [hc3, Bool.true_and] at hsu
            have e3 : decide (((z2.l : Nat) : Int) ≤ 512) = decide (E[i].b.length ≤ 512) := decide_eq_decide.2 (by rw [hz2l]; omega)
            refine ⟨z2, hs11.cell 2 rfl, ?_⟩
            rw [e3]
            exact hst _ hsu.symm
          · rw [hc3, Bool.false_and] at hsu
            exact hst _ hsu.symm
        · rw [hc2, Bool.false_and] at hsu
          exact hst _ hsu.symm
      · rw [hc1, Bool.false_and] at hsu
        exact hst _ hsu.symm
    · have hil : i = E.length := by simp at hc; omega
      subst hil
      have := hK v h22 S1 q1 q2 hs9.drop.drop.drop
      rw [List.take_length]; exact this
end
end Go.Sx.Tryz
namespace Go.Sx.Tryz
open Go Go.Sx Go.Proofs
set_option maxRecDepth 100000
set_option linter.unusedVariables false
noncomputable def c13 : Code := (Tryz.f13.body).getD .skip
def a13 : Ann := (.seq .leaf (.seq .leaf (.seq .leaf (.seq .leaf (.seq (.reg (.q 0 (.q 1 (.q 2 (.q 3 (.q 4 (.q 5 (.q 6 (.q 7 (.q 8 (.q 9 (.q 10 (.q 11 (.q 12 (.q 13 (.q 14 (.m 15 (.q 16 (.q 17 (.q 18 (.q 19 (.q 20 (.q 21 (.m 22 (.q 23 (.q 24 (.q 25 (.q 26 (.q 27 (.q 30 (.q 31 (.m 28 (.m 29 (.m 32 (.q 33 (.q 34 (.q 35 (.q 36 (.q 37 (.q 38 (.q 39 (.q 40 (.q 41 (.q 42 (.q 43 (.q 44 (.q 45 (.q 46 (.q 47 (.q 48 (.q 49 (.q 50 (.q 51 (.q 52 (.q 53 (.q 54 (.q 55 (.q 56 (.m 57 (.q 58 (.q 59 (.q 60 (.m 61 (.q 62 (.q 63 (.q 64 (.fin)))) (.nil))))) (.nil)))))))))))))))))))))))))) (.nil)) (.nil)) (.nil))))))))) (.nil)))))))) (.nil)))))))))))))))))) .leaf)))))
theorem ok13 : okC tab 96 true c13 a13 = true := by kernel_rfl
theorem vc13 (d_b d_o : Nat) (j_b j_o : Nat) (s_0 : Int) (s_1 : Int) (s_2 : Sl) (s_3 : Sl) (many_ : Int) (h : Heap) (R : Value → Heap → Prop)
  (hv : ∀ b1 h1, Fresh h (.cells #[.int .u64 s_0, .int .u64 s_1, .slice s_2.a s_2.l s_2.c, .slice s_3.a s_3.l s_3.c] 38) b1 h1 →
   CallsH Tryz.prog 49 #[.pointer (some ⟨j_b, j_o, none⟩)] h1 (fun r1 h2 => ∃ n1 : Int, ∃ n2 : Int, r1 = .tuple #[.int .u64 n1, .int .u64 n2] ∧
   CallsH Tryz.prog 50 #[.pointer (some ⟨j_b, j_o, none⟩)] h2 (fun r2 h3 => ∃ n3 : Int, ∃ n4 : Int, r2 = .tuple #[.int .u64 n3, .int .u64 n4] ∧
   CallsH Tryz.prog 52 #[.pointer (some ⟨d_b, d_o, none⟩), .int .i64 0, .int .i64 many_] h3 (fun r3 h4 => ∃ x1 : Sl, r3 = .slice x1.a x1.l x1.c ∧
   CallsH Tryz.prog 51 #[.slice x1.a x1.l x1.c] h4 (fun r4 h5 => ∃ n5 : Int, ∃ n6 : Int, ∃ x2 : Sl, ∃ x3 : Sl, ∃ n7 : Int, ∃ n8 : Int, r4 = .tuple #[.agg #[.int .u64 n5, .int .u64 n6, .slice x2.a x2.l x2.c, .slice x3.a x3.l x3.c, .int .i64 n7], .int .i64 n8] ∧
   ∀ b2 h6, Fresh h5 (.cells #[.int .u64 0, .int .u64 0, .slice none 0 0, .slice none 0 0, .int .i64 0] 119) b2 h6 →
   CanSt h6 b2 0 [.int .u64 n5, .int .u64 n6, .slice x2.a x2.l x2.c, .slice x3.a x3.l x3.c, .int .i64 n7] ∧ ∀ h7, Stored h6 b2 0 [.int .u64 n5, .int .u64 n6, .slice x2.a x2.l x2.c, .slice x3.a x3.l x3.c, .int .i64 n7] h7 →
   ∃ n9 : Int, cellH h7 b1 0 = some (.int .u64 n9) ∧
   CondP ((n1 : Int) == n9) (
   ∃ n10 : Int, cellH h7 b1 1 = some (.int .u64 n10) ∧
   CondP ((n2 : Int) == n10) (
   ∃ n11 : Int, ∃ n12 : Int, ∃ x4 : Sl, ∃ x5 : Sl, CellsAt h7 b1 0 [.int .u64 n11, .int .u64 n12, .slice x4.a x4.l x4.c, .slice x5.a x5.l x5.c] ∧
   CallsH Tryz.prog 18 #[.agg #[.int .u64 n11, .int .u64 n12, .slice x4.a x4.l x4.c, .slice x5.a x5.l x5.c]] h7 (fun r5 h8 => ∃ n13 : Int, ∃ n14 : Int, ∃ x6 : Sl, r5 = .agg #[.int .u64 n13, .int .u64 n14, .slice x6.a x6.l x6.c] ∧
   CondP ((n3 : Int) == n13) (
   ∃ n15 : Int, ∃ n16 : Int, ∃ x7 : Sl, ∃ x8 : Sl, CellsAt h8 b1 0 [.int .u64 n15, .int .u64 n16, .slice x7.a x7.l x7.c, .slice x8.a x8.l x8.c] ∧
   CallsH Tryz.prog 18 #[.agg #[.int .u64 n15, .int .u64 n16, .slice x7.a x7.l x7.c, .slice x8.a x8.l x8.c]] h8 (fun r6 h9 => ∃ n17 : Int, ∃ n18 : Int, ∃ x9 : Sl, r6 = .agg #[.int .u64 n17, .int .u64 n18, .slice x9.a x9.l x9.c] ∧
   CondP ((n4 : Int) == n18) (
   ∃ x10 : Sl, cellH h9 b1 3 = some (.slice x10.a x10.l x10.c) ∧
   CallsH Tryz.prog 36 #[.pointer (some ⟨j_b, j_o, none⟩)] h9 (fun r7 h10 => ∃ x11 : Sl, r7 = .slice x11.a x11.l x11.c ∧
   cellH h10 b1 3 = some (.slice x10.a x10.l x10.c) ∧
   CallsH Tryz.prog 31 #[.slice x11.a x11.l x11.c] h10 (fun r8 h11 => ∃ x12 : Sl, r8 = .slice x12.a x12.l x12.c ∧
   cellH h11 b1 3 = some (.slice x10.a x10.l x10.c) ∧
   CallsH Tryz.prog 30 #[.slice x12.a x12.l x12.c, .slice x10.a x10.l x10.c] h11 (fun r9 h12 => ∃ t1 : Bool, r9 = .bool t1 ∧
   CondP t1 (
   CondP ((n8 : Int) == 0) (
   ∃ n19 : Int, cellH h12 b2 0 = some (.int .u64 n19) ∧
   CondP ((n19 : Int) == n1) (
   ∃ n20 : Int, cellH h12 b2 1 = some (.int .u64 n20) ∧
   CondP ((n20 : Int) == n2) (
   ∃ x13 : Sl, cellH h12 b2 3 = some (.slice x13.a x13.l x13.c) ∧
   ∃ x14 : Sl, cellH h12 b1 3 = some (.slice x14.a x14.l x14.c) ∧
   CallsH Tryz.prog 30 #[.slice x13.a x13.l x13.c, .slice x14.a x14.l x14.c] h12 (fun r10 h13 => ∃ t2 : Bool, r10 = .bool t2 ∧
   CondP t2 (
   CallsH Tryz.prog 53 #[.pointer (some ⟨j_b, j_o, none⟩)] h13 (fun r11 h14 => ∃ t3 : Bool, r11 = .bool t3 ∧
   R (.bool (!t3)) h14)) (
   R (.bool false) h13))) (
   R (.bool false) h12)) (
   R (.bool false) h12)) (
   R (.bool false) h12)) (
   R (.bool false) h12))))) (
   R (.bool false) h9))) (
   R (.bool false) h8))) (
   R (.bool false) h7)) (
   R (.bool false) h7)))))) :
  CallsH Tryz.prog 13 #[.pointer (some ⟨d_b, d_o, none⟩), .pointer (some ⟨j_b, j_o, none⟩), .agg #[.int .u64 s_0, .int .u64 s_1, .slice s_2.a s_2.l s_2.c, .slice s_3.a s_3.l s_3.c], .int .i64 many_] h R :=
  calls_of_vc tabOk mixed Tryz.func13 (c := c13) (by kernel_rfl) (n := 96) rfl (rs := [.tmp 8]) (by kernel_rfl) ok13 (args := [.pointer (some ⟨d_b, d_o, none⟩), .pointer (some ⟨j_b, j_o, none⟩), .agg #[.int .u64 s_0, .int .u64 s_1, .slice s_2.a s_2.l s_2.c, .slice s_3.a s_3.l s_3.c], .int .i64 many_]) (Nat.le_of_ble_eq_true rfl) (Eq.mpr (by kernel_rfl) hv)
end Go.Sx.Tryz
namespace Go.Sx.Tryz
open Go Go.Sx Go.Proofs
set_option maxRecDepth 100000
set_option linter.unusedVariables false
noncomputable def c9 : Code := (Tryz.f9.body).getD .skip
def a9 : Ann := (.seq .leaf (.seq .leaf (.seq .leaf (.seq .leaf (.seq .leaf (.seq .leaf (.seq .leaf .leaf)))))))
theorem ok9 : okC tab 59 true c9 a9 = true := by kernel_rfl
theorem vc9  (h : Heap) (R : Value → Heap → Prop)
  (hv : CallsH Tryz.prog 10 #[] h (fun r1 h1 => ∃ p1 : Option Addr, r1 = .pointer p1 ∧
   CallsH Tryz.prog 11 #[.pointer p1, .int .i64 0, .int .i64 4, .int .i64 64] h1 (fun r2 h2 => ∃ p2 : Option Addr, ∃ n1 : Int, r2 = .tuple #[.pointer p2, .int .i64 n1] ∧
   CallsH Tryz.prog 34 #[.int .u64 1, .int .u64 1] h2 (fun r3 h3 => ∃ n2 : Int, ∃ n3 : Int, ∃ x1 : Sl, r3 = .agg #[.int .u64 n2, .int .u64 n3, .slice x1.a x1.l x1.c] ∧
   CallsH Tryz.prog 34 #[.int .u64 2, .int .u64 1] h3 (fun r4 h4 => ∃ n4 : Int, ∃ n5 : Int, ∃ x2 : Sl, r4 = .agg #[.int .u64 n4, .int .u64 n5, .slice x2.a x2.l x2.c] ∧
   CallsH Tryz.prog 34 #[.int .u64 3, .int .u64 1] h4 (fun r5 h5 => ∃ n6 : Int, ∃ n7 : Int, ∃ x3 : Sl, r5 = .agg #[.int .u64 n6, .int .u64 n7, .slice x3.a x3.l x3.c] ∧
   ∀ b1 h6, Fresh h5 (.cells #[.int .u64 n2, .int .u64 n3, .slice x1.a x1.l x1.c, .int .u64 n4, .int .u64 n5, .slice x2.a x2.l x2.c, .int .u64 n6, .int .u64 n7, .slice x3.a x3.l x3.c] 85) b1 h6 →
   CallsH Tryz.prog 33 #[.pointer p2, .slice (some ⟨b1, 0, none⟩) 3 3] h6 (fun r6 h7 => ∃ n8 : Int, r6 = .int .i64 n8 ∧
   CallsH Tryz.prog 35 #[.pointer p2, .int .u64 3] h7 (fun r7 h8 => ∃ n9 : Int, r7 = .int .i64 n9 ∧
   CallsH Tryz.prog 34 #[.int .u64 3, .int .u64 2] h8 (fun r8 h9 => ∃ n10 : Int, ∃ n11 : Int, ∃ x4 : Sl, r8 = .agg #[.int .u64 n10, .int .u64 n11, .slice x4.a x4.l x4.c] ∧
   ∀ b2 h10, Fresh h9 (.cells #[.int .u64 n10, .int .u64 n11, .slice x4.a x4.l x4.c] 85) b2 h10 →
   CallsH Tryz.prog 33 #[.pointer p2, .slice (some ⟨b2, 0, none⟩) 1 1] h10 (fun r9 h11 => ∃ n12 : Int, r9 = .int .i64 n12 ∧
   CallsH Tryz.prog 36 #[.pointer p2] h11 (fun r10 h12 => ∃ x5 : Sl, r10 = .slice x5.a x5.l x5.c ∧
   CondP ((n1 : Int) == 0) (
   CondP ((n8 : Int) == 0) (
   CondP ((n9 : Int) == 0) (
   CondP ((n12 : Int) == 0) (
   CondP ((((x5.l : Nat) : Int) : Int) == 3) (
   ((0 : Int) ≤ 2 ∧ (2 : Int) < ((x5.l : Nat) : Int)) ∧
   NilP x5.a (fun b3 o1 =>
   ∃ n13 : Int, cellH h12 b3 (o1 + 6 + 1) = some (.int .u64 n13) ∧
   CondP ((n13 : Int) == 2) (
   ((0 : Int) ≤ 1 ∧ (1 : Int) < ((x5.l : Nat) : Int)) ∧
   NilP x5.a (fun b4 o2 =>
   ∃ n14 : Int, cellH h12 b4 (o2 + 3 + 1) = some (.int .u64 n14) ∧
   R (.bool ((n14 : Int) == 1)) h12)) (
   R (.bool false) h12))) (
   R (.bool false) h12)) (
   R (.bool false) h12)) (
   R (.bool false) h12)) (
   R (.bool false) h12)) (
   R (.bool false) h12)))))))))))) :
  CallsH Tryz.prog 9 #[] h R :=
  calls_of_vc tabOk mixed Tryz.func9 (c := c9) (by kernel_rfl) (n := 59) rfl (rs := [.tmp 0]) (by kernel_rfl) ok9 (args := []) (Nat.le_of_ble_eq_true rfl) (Eq.mpr (by kernel_rfl) hv)
end Go.Sx.Tryz
