/-
  Part 8 of the proof: K31, P01, V11, K32, V16, K33, V154, V155.
-/
import Derived.Test.YtegikhoholfcmaaGreatM07
namespace Go.Sx.Tryz
open Go Go.Sx Go.Proofs
set_option linter.unusedVariables false
section
variable {H H' : Heap} {S : PH} {R : List Asn} {jb : Nat} {J : Jn}
def okE (p : Nat × Nat) (e : Ent) : Bool := decide (e.i ≤ MaxI) && (decide (e.t ≤ MaxI) && (decide (e.i = p.1 + 1) && (decide (p.2 ≤ e.t) && decide (e.b.length ≤ 512))))
def okAll : Nat × Nat → List Ent → Bool
  | _, [] => true
  | p, e :: l => okE p e && okAll (e.i, e.t) l
def lastP : Nat × Nat → List Ent → Nat × Nat
  | p, [] => p
  | _, e :: l => lastP (e.i, e.t) l
theorem okAll_append : ∀ (p : Nat × Nat) (a b : List Ent), okAll p (a ++ b) = (okAll p a && okAll (lastP p a) b)
  | p, [], b => by simp [okAll, lastP]
  | p, e :: a, b => by simp only [List.cons_append, okAll, lastP, okAll_append, Bool.and_assoc]
theorem lastP_append : ∀ (p : Nat × Nat) (a b : List Ent), lastP p (a ++ b) = lastP (lastP p a) b
  | p, [], b => rfl
  | p, e :: a, b => by simp only [List.cons_append, lastP, lastP_append]
theorem okAll_succ {p : Nat × Nat} {l : List Ent} {i : Nat} (h : i < l.length) : okAll p (l.take (i + 1)) = (okAll p (l.take i) && okE (lastP p (l.take i)) l[i]) := by
  rw [List.take_succ_eq_append_getElem h, okAll_append]; simp [okAll]
theorem okAll_bad {p : Nat × Nat} {l : List Ent} {i : Nat} (h : i < l.length) (hb : okE (lastP p (l.take i)) l[i] = false) : okAll p l = false := by
  have e : l = l.take (i + 1) ++ l.drop (i + 1) := (List.take_append_drop _ _).symm
  rw [e, okAll_append, okAll_succ h, hb]; simp
theorem lastP_succ {p : Nat × Nat} {l : List Ent} {i : Nat} (h : i < l.length) : lastP p (l.take (i + 1)) = (l[i].i, l[i].t) := by
  rw [List.take_succ_eq_append_getElem h, lastP_append]; rfl
theorem follows_spec {x y : EB} (hs : Sat H S R) (hy : y.1.i < 18446744073709551615) (hx : x.2.l = x.1.b.length) {K : Value → Heap → Prop} (hK : ∀ H', Sat H' S R → K (.bool (okE (y.1.i, y.1.t) x.1)) H') :
    CallsH Tryz.prog 79 #[.agg (eV x).toArray, .agg (eV y).toArray] H K := by
  apply vc79
  intro b1 h1 f1 b2 h2 f2
  have hs1 : Sat h1 S (lst b1 85 (eV x) :: R) := hs.fresh f1
  have hs2 : Sat h2 S (lst b2 85 (eV y) :: lst b1 85 (eV x) :: R) := hs1.fresh f2
  have hK := hK h2 (hs2.drop.drop)
  unfold okE at hK
  have c1 := hs2.swap
  have e1 : decide ((x.1.i : Int) ≤ 4611686018427387904) = decide (x.1.i ≤ MaxI) := decide_eq_decide.2 (by unfold MaxI; omega)
  have e2 : decide ((x.1.t : Int) ≤ 4611686018427387904) = decide (x.1.t ≤ MaxI) := decide_eq_decide.2 (by unfold MaxI; omega)
  have e3 : ((x.1.i : Int) == IntKind.u64.wrap ((y.1.i : Int) + 1)) = decide (x.1.i = y.1.i + 1) := by
    rw [show IntKind.u64.wrap ((y.1.i : Int) + 1) = ((y.1.i + 1 : Nat) : Int) from u64_add (j := 1) (by omega), beq_nat_int]
    exact Bool.beq_eq_decide_eq _ _
  have e4 : decide ((x.1.t : Int) ≥ (y.1.t : Int)) = decide (y.1.t ≤ x.1.t) := decide_eq_decide.2 (by omega)
  have e5 : decide ((((x.2.l : Nat) : Int) : Int) ≤ 512) = decide (x.1.b.length ≤ 512) := decide_eq_decide.2 (by rw [hx]; omega)
  refine ⟨_, c1.cell 0 rfl, ?_⟩
  rw [e1]
  refine CondP.of (fun hc => ?_) (fun hc => ?_)
  · rw [hc, Bool.true_and] at hK
    refine ⟨_, c1.cell 1 rfl, ?_⟩
    rw [e2]
    refine CondP.of (fun hc => ?_) (fun hc => ?_)
    · rw [hc, Bool.true_and] at hK
      refine ⟨_, c1.cell 0 rfl, _, hs2.cell 0 rfl, ?_⟩
      rw [e3]
      refine CondP.of (fun hc => ?_) (fun hc => ?_)
      · rw [hc, Bool.true_and] at hK
        refine ⟨_, c1.cell 1 rfl, _, hs2.cell 1 rfl, ?_⟩
        rw [e4]
        refine CondP.of (fun hc => ?_) (fun hc => ?_)
        · rw [hc, Bool.true_and] at hK
          refine ⟨x.2, c1.cell 2 rfl, ?_⟩
          rw [e5]; exact hK
        · rw [hc, Bool.false_and] at hK; exact hK
      · rw [hc, Bool.false_and] at hK; exact hK
    · rw [hc, Bool.false_and] at hK; exact hK
  · rw [hc, Bool.false_and] at hK; exact hK
def entB (l : List Ent) : List UInt8 := l.flatMap fun e => parcelB 2 e.body
theorem entB_len : ∀ {l : List Ent}, (∀ e ∈ l, e.ok) → (entB l).length ≤ l.length * 560
  | [], _ => by simp [entB]
  | e :: l, h => by
    have h1 := e.body_len (h e List.mem_cons_self)
    have h2 := entB_len (l := l) fun x hx => h x (List.mem_cons_of_mem _ hx)
    have h3 := parcelB_len 2 e.body
    have h4 := natB_le (n := e.body.length) (by omega)
    have h5 : entB (e :: l) = parcelB 2 e.body ++ entB l := by simp [entB]
    rw [h5, List.length_append, List.length_cons, Nat.add_mul]
    have h6 := natB_len 2 e.body.length (by omega) (by decide)
    omega
theorem okE_ok {p : Nat × Nat} {e : Ent} (h : okE p e = true) : e.ok ∧ e.i = p.1 + 1 ∧ p.2 ≤ e.t := by
  simp only [okE, Bool.and_eq_true, decide_eq_true_eq] at h
  exact ⟨⟨h.1, h.2.1, h.2.2.2.2⟩, h.2.2.1, h.2.2.2.1⟩
theorem okAll_ok : ∀ {p : Nat × Nat} {l : List Ent}, okAll p l = true → ∀ e ∈ l, e.ok
  | p, [], _, e, he => by cases he
  | p, x :: l, h, e, he => by
    simp only [okAll, Bool.and_eq_true] at h
    rcases List.mem_cons.1 he with rfl | h'
    · exact (okE_ok h.1).1
    · exact okAll_ok h.2 e h'
def Jn.add (J : Jn) (ys : List EB) : Jn := { J with log := { J.log with es := J.log.es ++ ys } }
theorem Jn.add_nil (J : Jn) : J.add [] = J := by
  obtain ⟨d, first, many, each, ⟨fi, ft, es⟩, segs, broken⟩ := J
  simp [Jn.add]
def Jn.cur (J : Jn) : Nat := fileAt J.segs (J.segs.length - 1)
def Jn.turn (J : Jn) (D : Dk) : Dk × Jn := if J.each ≤ (D.f J.cur).b.length ∧ 1 < J.free.length then (J.start D ⟨0, false, J.log.last.1.i, J.log.last.1.t⟩).2 else (D, J)
def Jn.appD (J : Jn) (D : Dk) (l : List Ent) : Nat × Dk × Jn :=
  if J.broken = true then (70, D, J) else if okAll (J.log.last.1.i, J.log.last.1.t) l = false then (2, D, J) else
  if (J.turn D).2.broken = true then (70, J.turn D) else
  if ((J.turn D).2.write (J.turn D).1 (J.turn D).2.cur (entB l)).1 = true then (0, ((J.turn D).2.write (J.turn D).1 (J.turn D).2.cur (entB l)).2)
  else (70, ((J.turn D).2.write (J.turn D).1 (J.turn D).2.cur (entB l)).2)
theorem turn_cases (J : Jn) (D : Dk) : (J.turn D).2.d = J.d ∧ (J.turn D).2.first = J.first ∧ (J.turn D).2.many = J.many ∧ (J.turn D).2.each = J.each ∧ (J.turn D).2.log = J.log ∧
    ((J.turn D).2.segs = J.segs ∨ ∃ n, n ∈ J.free ∧ (J.turn D).2.segs = J.segs ++ [⟨n, J.fix ⟨0, false, J.log.last.1.i, J.log.last.1.t⟩⟩]) := by
  unfold Jn.turn
  split
  · obtain ⟨h1, h2, h3, h4, h5, h6⟩ := start_cases J D ⟨0, false, J.log.last.1.i, J.log.last.1.t⟩
    refine ⟨h1, h2, h3, h4, h5, ?_⟩
    rcases h6 with ⟨_, h⟩ | ⟨n, h1, _, h⟩
    · exact .inl h
    · exact .inr ⟨n, h1, h⟩
  · exact ⟨rfl, rfl, rfl, rfl, rfl, .inl rfl⟩
theorem append_specJ {D : Dk} {v : Sl} {l : List Ent} (hs : Sat H S (jA jb J :: dsk J.d D :: R)) (hv : EL S v l) (hll : l.length ≤ 1000) (hb : J.first + J.many ≤ 32) (hfl : ∀ x ∈ J.segs, x.file < 32) (hsl : J.segs.length < 100000) (h0 : 0 < J.segs.length) (hlen : J.log.es.length < 900000)
    (hla : J.log.last.1.i ≤ MaxI) (hok : J.free ≠ [] → (J.fix ⟨0, false, J.log.last.1.i, J.log.last.1.t⟩).ok)
    {K : Value → Heap → Prop} (hK : ∀ H' S' ys, PH.le S S' → ((J.appD D l).1 = 0 → ys.map (·.1) = l ∧ eok S' ys) → ((J.appD D l).1 ≠ 0 → ys = []) → Sat H' S' (jA jb ((J.appD D l).2.2.add ys) :: dsk J.d (J.appD D l).2.1 :: R) → K (.int .i64 ((J.appD D l).1 : Int)) H') :
    CallsH Tryz.prog 33 #[.pointer (some ⟨jb, 0, none⟩), .slice v.a v.l v.c] H K := by
  apply vc33
  refine ready_spec hs ⟨_, rfl, CondP.of (fun hc => ?_) (fun hc => ?_)⟩
  · have hb := ready_cases hc
    have e : J.appD D l = (70, D, J) := by rw [Jn.appD, if_pos hb]
    have := hK H S [] (PH.le.refl _) (by rw [e]; intro h; cases h) (fun _ => rfl) (by rw [e, Jn.add_nil]; exact hs)
    rw [e] at this
    rw [if_pos hb]; exact this
  have hbr := ready_cases' hc
  have hbr' : ¬ J.broken = true := by rw [hbr]; simp
  obtain ⟨ve, vs, hs1⟩ := jA_open hs
  have hvl := EL.len hv
  refine last_spec (pre := [.pointer (some ⟨J.d, 0, none⟩), .int .i64 (J.first : Int), .int .i64 (J.many : Int), .int .i64 (J.each : Int)]) (post := [.slice vs.a vs.l vs.c, .bool J.broken]) hs1 (by omega) fun h2 hs2 => ⟨_, _, _, rfl, ?_⟩
  intro b1 h3 f3
  have hs3 := hs2.fresh f3
  refine Sat.store (T := 85) (l := [.int .u64 0, .int .u64 0, .slice none 0 0]) hs3 (Nat.le_refl _) fun h4 hs4 => ?_
  have hs4 : Sat h4 S (lst b1 85 (eV J.log.last) :: lst jb 97 (jcs J ve vs) :: ownE ve J.log.es :: ownS vs J.segs :: dsk J.d D :: R) := hs4
  have hs4 : Sat h4 S (lst b1 85 (eV J.log.last) :: jA jb J :: dsk J.d D :: R) := (jA_shut (hs4.sel [1, 1, 1])).sel [1]
  generalize hp : (J.log.last.1.i, J.log.last.1.t) = p at *
  refine ⟨fun x n h => ∃ i : Nat, n = i ∧ i ≤ l.length ∧ okAll p (l.take i) = true ∧ ∃ S' y, PH.le S S' ∧ (y.1.i, y.1.t) = lastP p (l.take i) ∧ y.1.i < 18446744073709551615 ∧ Sat h S' (own 5 1 x (bv (entB (l.take i))) :: lst b1 85 (eV y) :: jA jb J :: dsk J.d D :: R), fun _ n _ => l.length - n.toNat, ⟨0, rfl, Nat.zero_le _, rfl, S, J.log.last, PH.le.refl _, hp, by unfold MaxI at hla; omega, own.new 5 1 hs4⟩, ?_⟩
  rintro x n h5 ⟨i, rfl, hi, hoi, S1, y, hS1, hy, hy2, hs5⟩ _
  have hlen5 : (entB (l.take i)).length ≤ 560000 := by
    have := entB_len (l := l.take i) (okAll_ok hoi)
    rw [List.length_take] at this
    have h2 : min i l.length * 560 ≤ 1000 * 560 := Nat.mul_le_mul_right _ (by omega)
    omega
  refine CondP.of (fun hc => ?_) (fun hc => ?_)
  · have hc : i < l.length := by simp at hc; omega
    obtain ⟨g, o, z, ga, gc, gz⟩ := (hv.mono hS1).at hs5 hc
    refine ⟨⟨by omega, by omega⟩, NilP.of ga ⟨_, _, _, gc, ?_⟩⟩
    intro b3 h6 f6
    have hs6 := hs5.fresh f6
    refine Sat.store (T := 85) (l := [.int .u64 0, .int .u64 0, .slice none 0 0]) hs6 (Nat.le_refl _) fun h7 hs7 => ?_
    have hs7 : Sat h7 S1 (lst b3 85 (eV (l[i], z)) :: own 5 1 x (bv (entB (l.take i))) :: lst b1 85 (eV y) :: jA jb J :: dsk J.d D :: R) := hs7
    refine ⟨_, _, _, hs7.cells 0 rfl, _, _, y.2, (hs7.pick 2 rfl).cells 0 rfl, ?_⟩
    refine follows_spec (x := (l[i], z)) (y := y) hs7 hy2 (RdB.len gz) fun h8 hs8 => ⟨_, rfl, ?_⟩
    rw [hy]
    refine CondP.of (fun hc2 => ?_) (fun hc2 => ?_)
    · have hz : okE (lastP p (l.take i)) l[i] = false := by simpa using hc2
      have hbad := okAll_bad hc hz
      have e : J.appD D l = (2, D, J) := by rw [Jn.appD, if_neg hbr', hp, if_pos hbad]
      have := hK h8 S1 [] hS1 (by rw [e]; intro h; cases h) (fun _ => rfl) (by rw [e, Jn.add_nil]; exact (hs8.drop.drop.drop))
      rw [e] at this; exact this
    have hz : okE (lastP p (l.take i)) l[i] = true := by simpa using hc2
    obtain ⟨⟨k1, k2, k3⟩, k4, k5⟩ := okE_ok hz
    have hbl := (l[i]).body_len ⟨k1, k2, k3⟩
    intro b4 h9 f9
    have hs9 : Sat h9 S1 (lst b4 145 [.slice none 0 0] :: lst b3 85 (eV (l[i], z)) :: own 5 1 x (bv (entB (l.take i))) :: lst b1 85 (eV y) :: jA jb J :: dsk J.d D :: R) := hs8.fresh f9
    have hw : Sat h9 S1 (wr b4 [] :: lst b3 85 (eV (l[i], z)) :: own 5 1 x (bv (entB (l.take i))) :: lst b1 85 (eV y) :: jA jb J :: dsk J.d D :: R) := wr_shut (v := ⟨none, 0, 0⟩) (own.new 5 1 hs9).swap
    refine ⟨_, hw.swap.cell 0 rfl, _, hw.swap.cell 1 rfl, ?_⟩
    intro b5 h10 f10
    refine Nat_new f10 hw (ns := [l[i].i, l[i].t]) rfl (by intro m hm; simp at hm; unfold MaxI at k1 k2; rcases hm with rfl | rfl <;> omega) (by simp) (by simp) rfl fun h11 hs11 => ⟨rfl, ?_⟩
    have e1 : ([] ++ nats [l[i].i, l[i].t]) = natB l[i].i ++ natB l[i].t := by simp [nats]
    rw [e1] at hs11
    have hn1 := natB_le (n := l[i].i) (by unfold MaxI at k1; omega)
    have hn2 := natB_le (n := l[i].t) (by unfold MaxI at k2; omega)
    refine ⟨z, hs11.swap.cell 2 rfl, ⟨l[i].b.toArray⟩, StrOf.ofRd gz hs11, ?_⟩
    refine Text_spec hs11 (by rw [List.length_append]; omega) (by show l[i].b.toArray.size < _; simp; omega) fun h12 hs12 => ⟨rfl, ?_⟩
    have e2 : (natB l[i].i ++ natB l[i].t) ++ textB (ByteArray.mk l[i].b.toArray).data.toList = l[i].body := by show _ ++ textB l[i].b.toArray.toList = _; rw [List.toList_toArray]; rfl
    rw [e2] at hs12
    refine Bytes_spec hs12 (by omega) fun x2 h13 S2 hS2 hs13 hr13 => ⟨x2, rfl, ?_⟩
    refine Wrap_spec hs13 hr13 (kind := 2) (by decide) (by omega) fun x3 h14 S3 hS3 hs14 => ⟨x3, _, rfl, ?_⟩
    have hrd := own.reads hs14
    have hpl := parcelB_len 2 (l[i]).body
    have hn10 := natB_le (n := (l[i]).body.length) (by omega)
    have hxl : x.l = (entB (l.take i)).length := by
      have := (own.len (hs14.pick 3 rfl)).1
      rw [bv_len] at this; omega
    refine append_own el33 (v := x) (xs := bv (entB (l.take i))) (hs14.sel [3]) (m := x3.l) (c := x3.c) (news := bv (parcelB 2 (l[i]).body)) (by rw [bv_len, hrd.1, Nat.mul_one]) hrd.2 (bv_one _) (by omega) (by unfold maxLen; omega) fun v' h15 hv' hs15 => ?_
    have e3 : bv (entB (l.take i)) ++ bv (parcelB 2 (l[i]).body) = bv (entB (l.take (i + 1))) := by
      rw [← bv_append, List.take_succ_eq_append_getElem hc]; unfold entB; rw [List.flatMap_append, List.flatMap_cons, List.flatMap_nil, List.append_nil]
    rw [e3] at hs15
    have hs16 : Sat h15 S3 (lst b3 85 (eV (l[i], z)) :: own 5 1 v' (bv (entB (l.take (i + 1)))) :: lst b1 85 (eV y) :: jA jb J :: dsk J.d D :: R) := ((hs15.sel [3, 0, 2]).del 3).del 3
    refine ⟨_, _, _, hs16.cells 0 rfl, ?_⟩
    refine (hs16.pick 2 rfl).store (by simp [eV]) fun h17 hs17 => ?_
    have hs17 : Sat h17 S3 (lst b1 85 (eV (l[i], z)) :: lst b3 85 (eV (l[i], z)) :: own 5 1 v' (bv (entB (l.take (i + 1)))) :: jA jb J :: dsk J.d D :: R) := hs17
    rw [i64_succ (by omega)]
    refine ⟨⟨i + 1, rfl, hc, by rw [okAll_succ hc, hoi, hz]; rfl, S3, (l[i], z), (hS1.trans hS2).trans hS3, by rw [lastP_succ hc], by unfold MaxI at k1; show l[i].i < _; omega, (hs17.sel [2, 0]).del 2⟩, ?_⟩
    show l.length - (i + 1) < l.length - i; omega
  · have hc : i = l.length := by simp at hc; omega
    subst hc
    rw [List.take_length] at hoi hy hs5 hlen5
    have hoi' : ¬ okAll p l = false := by rw [hoi]; simp
    have hae : J.appD D l = if (J.turn D).2.broken = true then (70, J.turn D) else
      if ((J.turn D).2.write (J.turn D).1 (J.turn D).2.cur (entB l)).1 = true then (0, ((J.turn D).2.write (J.turn D).1 (J.turn D).2.cur (entB l)).2)
      else (70, ((J.turn D).2.write (J.turn D).1 (J.turn D).2.cur (entB l)).2) := by rw [Jn.appD, if_neg hbr', hp, if_neg hoi']
    obtain ⟨S2, q1, q2, q3⟩ := own.fixd hs5
    have hx : RdB S2 x (entB l) := q2
    have hs6 := q3.drop
    have hS2 := hS1.trans q1
    obtain ⟨t1, t2, t3, t4, t5, t6⟩ := turn_cases J D
    have hTfl : ∀ z ∈ (J.turn D).2.segs, z.file < 32 := by
      intro z hz
      rcases t6 with h | ⟨n, hn, h⟩
      · rw [h] at hz; exact hfl z hz
      · rw [h] at hz
        rcases List.mem_append.1 hz with h | h
        · exact hfl z h
        · simp only [List.mem_singleton] at h
          subst h; exact free_lt hb hn
    have hTl : 0 < (J.turn D).2.segs.length ∧ (J.turn D).2.segs.length < 1000000 := by
      rcases t6 with h | ⟨n, hn, h⟩
      · rw [h]; omega
      · rw [h, List.length_append]; simp; omega
    refine ⟨fun h => ∃ S', PH.le S2 S' ∧ Sat h S' (jA jb (J.turn D).2 :: dsk J.d (J.turn D).1 :: R), ?_, ?_⟩
    · rintro h17 ⟨S3, hS3, hs7⟩ _
      refine ⟨fun t h => ∃ S', PH.le S3 S' ∧ (t = true → (J.appD D l).1 = 70) ∧ (t = false → (J.appD D l).1 = 0) ∧ Sat h S' (jA jb (J.appD D l).2.2 :: dsk J.d (J.appD D l).2.1 :: R), ?_, ?_⟩
      · rintro t h18 ⟨S4, hS4, ht1, ht0, hs8⟩ _
        refine CondP.of (fun hc => ?_) (fun hc => ?_)
        · have h70 := ht1 hc
          have := hK h18 S4 [] ((hS2.trans hS3).trans hS4) (by rw [h70]; intro h; cases h) (fun _ => rfl) (by rw [Jn.add_nil]; exact hs8)
          rw [h70] at this; exact this
        have h00 := ht0 hc
        have hXlog : (J.appD D l).2.2.log.es.length = J.log.es.length := by
          rw [hae]
          have hw3 := (write_segs (J.turn D).2 (J.turn D).1 (J.turn D).2.cur (entB l)).2.2.1
          split
          · rw [t5]
          · split
            · show ((J.turn D).2.write (J.turn D).1 (J.turn D).2.cur (entB l)).2.2.log.es.length = _
              rw [hw3, t5]
            · show ((J.turn D).2.write (J.turn D).1 (J.turn D).2.cur (entB l)).2.2.log.es.length = _
              rw [hw3, t5]
        generalize J.appD D l = X at *
        refine ⟨fun n h => ∃ i : Nat, n = i ∧ i ≤ l.length ∧ ∃ S' ys, PH.le S4 S' ∧ ys.map (·.1) = l.take i ∧ eok S' ys ∧ Sat h S' (jA jb (X.2.2.add ys) :: dsk J.d X.2.1 :: R), fun n _ => l.length - n.toNat, ⟨0, rfl, Nat.zero_le _, S4, [], PH.le.refl _, rfl, (fun z hz => by cases hz), by rw [Jn.add_nil]; exact hs8⟩, ?_⟩
        rintro n h19 ⟨i, rfl, hi, S5, ys, hS5, hys, hyo, hs9⟩ _
        have hyl : ys.length = i := by have := congrArg List.length hys; simp at this; omega
        refine CondP.of (fun hc => ?_) (fun hc => ?_)
        · have hc : i < l.length := by simp at hc; omega
          obtain ⟨g, o, z, ga, gc, gz⟩ := (hv.mono (((hS2.trans hS3).trans hS4).trans hS5)).at hs9 hc
          refine ⟨⟨by omega, by omega⟩, NilP.of ga ⟨_, _, _, gc, ?_⟩⟩
          intro b7 h20 f20
          have hs10 := hs9.fresh f20
          refine Sat.store (T := 85) (l := [.int .u64 0, .int .u64 0, .slice none 0 0]) hs10 (Nat.le_refl _) fun h21 hs11 => ?_
          have hs11 : Sat h21 S5 (lst b7 85 (eV (l[i], z)) :: jA jb (X.2.2.add ys) :: dsk J.d X.2.1 :: R) := hs11
          have hbo := (okAll_ok hoi) _ (List.getElem_mem hc)
          refine ⟨z, hs11.cell 2 rfl, ?_⟩
          refine clone_spec hs11 (gz.reads hs11) (by have := hbo.2.2; omega) fun z2 h22 hz2 hs12 => ⟨z2, rfl, ?_⟩
          obtain ⟨S6, r1, r2, r3⟩ := own.fixd hs12
          refine r3.store (by simp [eV]) fun h23 hs13 => ?_
          have hs13 : Sat h23 S6 (lst b7 85 (eV (l[i], z2)) :: jA jb (X.2.2.add ys) :: dsk J.d X.2.1 :: R) := hs13
          obtain ⟨ve', vs', hs14⟩ := jA_open hs13.swap
          refine ⟨ve', hs14.cell 7 rfl, _, _, _, (hs14.pick 3 rfl).cells 0 rfl, ?_⟩
          intro b8 h24 f24
          have hs15 := hs14.fresh f24
          have hs15 : Sat h24 S6 (lst b8 85 (eV (l[i], z2)) :: lst jb 97 (jcs (X.2.2.add ys) ve' vs') :: ownE ve' (X.2.2.add ys).log.es :: ownS vs' (X.2.2.add ys).segs :: lst b7 85 (eV (l[i], z2)) :: dsk J.d X.2.1 :: R) := hs15
          refine ⟨hs15.swap.cell 7 rfl, ?_⟩
          have hel := (ownE.len (hs15.pick 2 rfl)).1
          have hel2 : (X.2.2.add ys).log.es.length = J.log.es.length + i := by
            show (X.2.2.log.es ++ ys).length = _
            rw [List.length_append, hXlog, hyl]
          refine append_one el81 (v := ve') (xs := entV (X.2.2.add ys).log.es) (hs15.sel [0, 1]) rfl (eV_one _) (by omega) (by unfold maxLen; omega) fun v' h25 hv' hs16 => ?_
          have e3 : entV (X.2.2.add ys).log.es ++ eV (l[i], z2) = entV (X.2.2.add (ys ++ [(l[i], z2)])).log.es := by
            simp [entV, Jn.add, List.append_assoc]
          rw [e3] at hs16
          refine (hs16.pick 1 rfl).store (by simp [jcs, lgV]) fun h26 hs17 => ?_
          have hs18 : Sat h26 S6 (jA jb (X.2.2.add (ys ++ [(l[i], z2)])) :: lst b7 85 (eV (l[i], z2)) :: dsk J.d X.2.1 :: R) := jA_shut (ve := v') (vs := vs') hs17
          rw [i64_succ (by omega)]
          refine ⟨⟨i + 1, rfl, hc, S6, ys ++ [(l[i], z2)], hS5.trans r1, ?_, fun u hu => ?_, hs18.del 1⟩, ?_⟩
          · rw [List.map_append, hys, List.take_succ_eq_append_getElem hc]; rfl
          · rcases List.mem_append.1 hu with h | h
            · exact (hyo.mono r1) u h
            · simp only [List.mem_singleton] at h
              subst h; exact ⟨r2, hbo.2.2⟩
          · show l.length - (i + 1) < l.length - i; omega
        · have hc : i = l.length := by simp at hc; omega
          subst hc
          rw [List.take_length] at hys
          have := hK h19 S5 ys (((hS2.trans hS3).trans hS4).trans hS5) (fun _ => ⟨hys, hyo⟩) (fun h => absurd h00 h) hs9
          rw [h00] at this; exact this
      · obtain ⟨ve', vs', hs8⟩ := jA_open hs7
        refine ⟨_, hs8.cell 9 rfl, CondP.of (fun hc => ?_) (fun hc => ?_)⟩
        · rw [if_pos hc] at hae
          refine ⟨S3, PH.le.refl _, fun _ => by rw [hae], fun h => by (exact absurd h (by simp)), ?_⟩
          rw [hae]; exact hs7
        · rw [if_neg (by rw [hc]; simp)] at hae
          refine current_spec hs7 (k := (J.turn D).2.segs.length - 1) (by omega) (by omega) ⟨_, rfl, ?_⟩
          have hcur : (J.turn D).2.cur = ((J.turn D).2.segs[(J.turn D).2.segs.length - 1]'(by omega)).file := (getSeg (l := (J.turn D).2.segs) (i := (J.turn D).2.segs.length - 1) (by omega)).1
          rw [← hcur]
          rw [← t1] at hs7
          refine write_spec (f := (J.turn D).2.cur) (by rw [hcur]; exact hTfl _ (List.getElem_mem _)) hs7 (hx.mono hS3) (by omega) fun h28 hs9 => ⟨_, rfl, ?_⟩
          rw [t1] at hs9
          generalize (J.turn D).2.write (J.turn D).1 (J.turn D).2.cur (entB l) = W at *
          refine ⟨S3, PH.le.refl _, fun h => ?_, fun h => ?_, ?_⟩
          · have : ¬ W.1 = true := by simpa using h
            rw [hae, if_neg this]
          · have : W.1 = true := by simpa using h
            rw [hae, if_pos this]
          · rw [hae]
            split
            · exact hs9
            · exact hs9
    · have hae2 : J.turn D = if J.each ≤ (D.f J.cur).b.length ∧ 1 < J.free.length then (J.start D ⟨0, false, J.log.last.1.i, J.log.last.1.t⟩).2 else (D, J) := rfl
      refine ⟨fun t h => t = decide (J.each ≤ (D.f J.cur).b.length ∧ 1 < J.free.length) ∧ Sat h S2 (jA jb J :: dsk J.d D :: R), ?_, ?_⟩
      · rintro t h29 ⟨rfl, hs7⟩ _
        refine CondP.of (fun hc => ?_) (fun hc => ?_)
        · rw [if_pos (of_decide_eq_true hc)] at hae2
          obtain ⟨ve', vs', hs8⟩ := jA_open hs7
          refine last_spec (pre := [.pointer (some ⟨J.d, 0, none⟩), .int .i64 (J.first : Int), .int .i64 (J.many : Int), .int .i64 (J.each : Int)]) (post := [.slice vs'.a vs'.l vs'.c, .bool J.broken]) hs8 (by omega) fun h30 hs9 => ⟨_, _, _, rfl, ?_⟩
          intro b9 h31 f31
          have hs10 := hs9.fresh f31
          refine Sat.store (T := 85) (l := [.int .u64 0, .int .u64 0, .slice none 0 0]) hs10 (Nat.le_refl _) fun h32 hs11 => ?_
          have hs11 : Sat h32 S2 (lst b9 85 (eV J.log.last) :: lst jb 97 (jcs J ve' vs') :: ownE ve' J.log.es :: ownS vs' J.segs :: dsk J.d D :: R) := hs11
          refine ⟨_, hs11.cell 0 rfl, _, hs11.cell 1 rfl, ?_⟩
          have hs12 : Sat h32 S2 (jA jb J :: dsk J.d D :: R) := jA_shut hs11.drop
          refine start_spec (h := ⟨0, false, J.log.last.1.i, J.log.last.1.t⟩) hs12 hb (by omega) (hok ?_) fun h33 S3 hS3 hs13 => ⟨_, rfl, S3, hS3, ?_⟩
          · intro h
            have := (of_decide_eq_true hc).2
            rw [h] at this; simp at this
          · rw [hae2]; exact hs13
        · rw [if_neg (of_decide_eq_false hc)] at hae2
          exact ⟨S2, PH.le.refl _, by rw [hae2]; exact hs7⟩
      · obtain ⟨ve', vs', hs7⟩ := jA_open hs6
        have hcur : J.cur = (J.segs[J.segs.length - 1]'(by omega)).file := (getSeg (l := J.segs) (i := J.segs.length - 1) (by omega)).1
        refine ⟨_, hs7.cell 0 rfl, _, hs7.cell 3 rfl, ?_⟩
        refine current_spec hs6 (k := J.segs.length - 1) (by omega) (by omega) ⟨_, rfl, hs7.cell 3 rfl, hs7.cell 0 rfl, ?_⟩
        rw [← hcur]
        refine size_spec (by rw [hcur]; exact hfl _ (List.getElem_mem _)) hs6.swap ⟨_, rfl, hs7.cell 3 rfl, ?_⟩
        have ed : decide ((((D.f J.cur).b.length : Nat) : Int) ≥ (J.each : Int)) = decide (J.each ≤ (D.f J.cur).b.length) := decide_eq_decide.2 (by omega)
        rw [ed]
        refine CondP.of (fun hc => ?_) (fun hc => ?_)
        · refine free_spec hs6 hb (by omega) fun z h36 hs8 => ⟨z, rfl, ?_, hs8.drop⟩
          have hzl := (ownI.len hs8).1
          exact decide_eq_decide.2 ⟨fun h => ⟨of_decide_eq_true hc, by omega⟩, fun h => by omega⟩
        · refine ⟨?_, hs6⟩
          rw [decide_eq_false (fun h => absurd h.1 (of_decide_eq_false hc))]
end
end Go.Sx.Tryz
namespace Go.Sx.Tryz
open Go Go.Sx Go.Proofs
set_option linter.unusedVariables false
def PL.has (g : PL) (i t : Nat) : Prop := g.fi ≤ i ∧ (i = g.fi → t = g.ft) ∧ (g.fi < i → ∃ e, g.es[i - g.fi - 1]? = some e ∧ e.t = t)
def PL.cutAt (g : PL) (i : Nat) : PL := ⟨g.fi, g.ft, g.es.take (i - g.fi)⟩
theorem PL.has.len {g : PL} {i t : Nat} (h : g.has i t) : i - g.fi ≤ g.es.length := by
  rcases Nat.lt_or_ge g.fi i with h1 | h1
  · obtain ⟨e, he, _⟩ := h.2.2 h1
    have := (List.getElem?_eq_some_iff.1 he).1
    omega
  · omega
theorem PL.to_some {g g' : PL} {i t : Nat} (hc : g.Con) (h : g.to i t = some g') : g.has i t ∧ g' = g.cutAt i := by
  unfold PL.to at h
  split at h
  · rename_i hc1
    obtain ⟨rfl, rfl⟩ := hc1
    cases h
    exact ⟨⟨Nat.le_refl _, fun _ => rfl, fun h => by omega⟩, by simp [PL.cutAt]⟩
  · rename_i hc1
    split at h
    · rename_i k hk
      cases h
      obtain ⟨hk1, hk2, _⟩ := List.findIdx?_eq_some_iff_getElem.1 hk
      have hi := hc k hk1
      simp only [Bool.and_eq_true, beq_iff_eq] at hk2
      obtain ⟨h1, h2⟩ := hk2
      refine ⟨⟨by omega, fun h => by omega, fun _ => ⟨g.es[k], ?_, h2⟩⟩, ?_⟩
      · rw [show i - g.fi - 1 = k by omega, List.getElem?_eq_getElem hk1]
      · unfold PL.cutAt
        rw [show i - g.fi = k + 1 by omega]
    · cases h
theorem PL.to_of {g : PL} {i t : Nat} (hc : g.Con) (h : g.has i t) : g.to i t = some (g.cutAt i) := by
  obtain ⟨h1, h2, h3⟩ := h
  unfold PL.to
  rcases Nat.lt_or_ge g.fi i with hlt | hge
  · rw [if_neg (by omega)]
    obtain ⟨e, he, het⟩ := h3 hlt
    obtain ⟨hk, rfl⟩ := List.getElem?_eq_some_iff.1 he
    have hf : g.es.findIdx? (fun e => e.i == i && e.t == t) = some (i - g.fi - 1) := by
      rw [List.findIdx?_eq_some_iff_getElem]
      refine ⟨hk, ?_, fun j hj => ?_⟩
      · have := hc _ hk
        simp only [Bool.and_eq_true, beq_iff_eq]
        exact ⟨by omega, het⟩
      · have := hc j (by omega)
        simp only [Bool.and_eq_true, beq_iff_eq, not_and]
        intro h; omega
    rw [hf]
    unfold PL.cutAt
    rw [show i - g.fi = i - g.fi - 1 + 1 by omega]; rfl
  · have : i = g.fi := by omega
    rw [if_pos ⟨this, h2 this⟩]
    unfold PL.cutAt
    rw [this, Nat.sub_self, List.take_zero]
theorem PL.has_last {g : PL} (hc : g.Con) : g.has g.last.1 g.last.2 := by
  have hl := hc.last
  refine ⟨by omega, fun h => ?_, fun h => ?_⟩
  · have : g.es = [] := List.eq_nil_of_length_eq_zero (by omega)
    unfold PL.last; rw [this]; rfl
  · have h0 : 0 < g.es.length := by omega
    refine ⟨g.es[g.es.length - 1], by rw [show g.last.1 - g.fi - 1 = g.es.length - 1 by omega, List.getElem?_eq_getElem (by omega)], ?_⟩
    unfold PL.last
    rw [List.getLast?_eq_getElem?, List.getElem?_eq_getElem (by omega)]
theorem PL.cutAt_all {g : PL} {i : Nat} (h : g.es.length ≤ i - g.fi) : g.cutAt i = g := by
  unfold PL.cutAt; rw [List.take_of_length_le h]
theorem PL.cutAt_last {g : PL} (hc : g.Con) : g.cutAt g.last.1 = g := PL.cutAt_all (by rw [hc.last]; omega)
theorem PL.Con.cutAt {g : PL} (h : g.Con) (i : Nat) : (g.cutAt i).Con := h.take _
def bodyStep (own : Nat) (g : PL) : Rec → Option PL
  | .hd _ => none
  | .en e => if e.i = g.last.1 + 1 ∧ g.last.2 ≤ e.t then some { g with es := g.es ++ [e] } else none
  | .ct f => if own < f ∧ mayB g.fi g.last.1 f = true then some { g with es := g.es.take (f - 1 - g.fi) } else none
def body (own : Nat) (g : PL) (rs : List Rec) : Option PL := rs.foldlM (bodyStep own) g
theorem body_nil (own : Nat) (g : PL) : body own g [] = some g := rfl
theorem body_cons (own : Nat) (g : PL) (r : Rec) (rs : List Rec) : body own g (r :: rs) = (bodyStep own g r).bind fun g1 => body own g1 rs := rfl
theorem body_append (own : Nat) : ∀ (a b : List Rec) (g : PL), body own g (a ++ b) = (body own g a).bind fun g1 => body own g1 b
  | [], b, g => rfl
  | r :: a, b, g => by
    rw [List.cons_append, body_cons, body_cons]
    cases bodyStep own g r with
    | none => rfl
    | some g1 => exact body_append own a b g1
theorem fold_body (o : Bool) (own : Nat) : ∀ (rs : List Rec) (g : PL), rs.foldlM (Rd1.step o) ⟨g, true, own⟩ = (body own g rs).map fun g' => ⟨g', true, own⟩
  | [], g => rfl
  | r :: rs, g => by
    rw [List.foldlM_cons, body_cons]
    cases r with
    | hd h => rfl
    | en e =>
      simp only [Rd1.step, bodyStep]
      split
      · exact fold_body o own rs _
      · rfl
    | ct f =>
      simp only [Rd1.step, bodyStep]
      split
      · exact fold_body o own rs _
      · rfl
structure Sg where
  file : Nat
  hd : Hd
  rs : List Rec
def Sg.recs (x : Sg) : List Rec := .hd x.hd :: x.rs
def rdSeg (o : Bool) (g : PL) (x : Sg) : Option PL := (g.begin x.hd o).bind fun g1 => body x.hd.i g1 x.rs
def rdAll : Bool → PL → List Sg → Option PL
  | _, g, [] => some g
  | o, g, x :: l => (rdSeg o g x).bind fun g' => rdAll false g' l
theorem readAll_eq : ∀ (G : List Sg) (o : Bool) (g : PL), readAll o g (G.map Sg.recs) = rdAll o g G
  | [], o, g => rfl
  | x :: l, o, g => by
    show (List.foldlM (Rd1.step o) ⟨g, false, 0⟩ (Rec.hd x.hd :: x.rs)).bind (fun s => readAll false s.g (l.map Sg.recs)) = (rdSeg o g x).bind fun g' => rdAll false g' l
    rw [List.foldlM_cons]
    have e : (({ g := g, begun := false, own := 0 } : Rd1).step o (.hd x.hd)) = (g.begin x.hd o).map fun g => ⟨g, true, x.hd.i⟩ := rfl
    rw [e]
    unfold rdSeg
    cases g.begin x.hd o with
    | none => rfl
    | some g1 =>
      show (List.foldlM (Rd1.step o) ⟨g1, true, x.hd.i⟩ x.rs).bind _ = (body x.hd.i g1 x.rs).bind _
      rw [fold_body]
      cases body x.hd.i g1 x.rs with
      | none => rfl
      | some g2 => exact readAll_eq l false g2
theorem bodyStep_con {own : Nat} {g g' : PL} {r : Rec} (hc : g.Con) (h : bodyStep own g r = some g') : g'.Con := by
  have e : (⟨g, true, own⟩ : Rd1).step false r = some ⟨g', true, own⟩ := by
    cases r with
    | hd hh => cases h
    | en e =>
      simp only [bodyStep] at h
      split at h
      · rename_i hx; cases h; simp only [Rd1.step]; rw [if_pos hx]
      · cases h
    | ct f =>
      simp only [bodyStep] at h
      split at h
      · rename_i hx; cases h; simp only [Rd1.step]; rw [if_pos hx]
      · cases h
  exact Rd1.step_con (s := ⟨g, true, own⟩) hc e
theorem body_pre {own : Nat} : ∀ {rs : List Rec} {g g' : PL}, g.Con → own - g.fi ≤ g.es.length → body own g rs = some g' →
    g'.Con ∧ g'.fi = g.fi ∧ g'.ft = g.ft ∧ own - g.fi ≤ g'.es.length ∧ g'.es.take (own - g.fi) = g.es.take (own - g.fi)
  | [], g, g', hc, hl, h => by cases h; exact ⟨hc, rfl, rfl, hl, rfl⟩
  | r :: rs, g, g', hc, hl, h => by
    rw [body_cons] at h
    obtain ⟨g1, h1, h2⟩ := Option.bind_eq_some_iff.1 h
    have hc1 := bodyStep_con hc h1
    have key : g1.fi = g.fi ∧ g1.ft = g.ft ∧ own - g.fi ≤ g1.es.length ∧ g1.es.take (own - g.fi) = g.es.take (own - g.fi) := by
      cases r with
      | hd hh => cases h1
      | en e =>
        simp only [bodyStep] at h1
        split at h1
        · cases h1
          refine ⟨rfl, rfl, ?_, ?_⟩
          · show _ ≤ (g.es ++ [e]).length
            rw [List.length_append]; omega
          · show (g.es ++ [e]).take _ = _
            rw [List.take_append_of_le_length hl]
        · cases h1
      | ct f =>
        simp only [bodyStep] at h1
        split at h1
        · rename_i hx
          cases h1
          have hm := hx.2
          unfold mayB at hm
          simp only [Bool.and_eq_true, decide_eq_true_eq] at hm
          have := hc.last
          refine ⟨rfl, rfl, ?_, ?_⟩
          · show _ ≤ (g.es.take _).length
            rw [List.length_take]; omega
          · show (g.es.take _).take _ = _
            rw [List.take_take, Nat.min_eq_left (by omega)]
        · cases h1
    obtain ⟨k1, k2, k3, k4⟩ := key
    obtain ⟨m1, m2, m3, m4, m5⟩ := body_pre hc1 (by rw [k1]; exact k3) h2
    rw [k1] at m2 m4 m5
    exact ⟨m1, m2, m3.trans k2, m4, m5.trans k4⟩
theorem begin_old (g : PL) (h : Hd) : g.begin h true = some ⟨h.i, h.t, []⟩ := by unfold PL.begin; rw [if_pos (by simp)]
theorem begin_anew (g : PL) {h : Hd} (o : Bool) (ha : h.anew = true) : g.begin h o = some ⟨h.i, h.t, []⟩ := by unfold PL.begin; rw [if_pos (by simp [ha])]
theorem begin_to (g : PL) {h : Hd} (ha : h.anew = false) : g.begin h false = g.to h.i h.t := by unfold PL.begin; rw [if_neg (by simp [ha])]
theorem rdSeg_info {o : Bool} {g g' : PL} {x : Sg} (hc : g.Con) (h : rdSeg o g x = some g') : ∃ g1, g.begin x.hd o = some g1 ∧ body x.hd.i g1 x.rs = some g' ∧ g1.Con ∧ x.hd.i - g1.fi ≤ g1.es.length ∧ g'.Con ∧ g1.fi ≤ x.hd.i ∧ g1.has x.hd.i x.hd.t := by
  obtain ⟨g1, h1, h2⟩ := Option.bind_eq_some_iff.1 h
  have hc1 : g1.Con := hc.begin h1
  have h3 : x.hd.i - g1.fi ≤ g1.es.length ∧ g1.fi ≤ x.hd.i ∧ g1.has x.hd.i x.hd.t := by
    unfold PL.begin at h1
    split at h1
    · cases h1; exact ⟨by simp, Nat.le_refl _, Nat.le_refl _, fun _ => rfl, fun h => by simp at h⟩
    · obtain ⟨k1, rfl⟩ := PL.to_some hc h1
      have := k1.len
      refine ⟨?_, k1.1, k1.1, k1.2.1, fun hlt => ?_⟩
      · show _ ≤ (g.es.take _).length
        rw [List.length_take]; show x.hd.i - g.fi ≤ _; omega
      · obtain ⟨e, he, het⟩ := k1.2.2 hlt
        refine ⟨e, ?_, het⟩
        show (g.es.take (x.hd.i - g.fi))[x.hd.i - g.fi - 1]? = _
        have : x.hd.i - g.fi - 1 < x.hd.i - g.fi := by have : g.fi < x.hd.i := hlt; omega
        rw [List.getElem?_take, if_pos this]; exact he
  obtain ⟨b1, _⟩ := body_pre hc1 h3.1 h2
  exact ⟨g1, h1, h2, hc1, h3.1, b1, h3.2⟩
theorem rdAll_con : ∀ {G : List Sg} {o : Bool} {g s : PL}, g.Con → rdAll o g G = some s → s.Con
  | [], o, g, s, hc, h => by cases h; exact hc
  | x :: l, o, g, s, hc, h => by
    obtain ⟨g1, h1, h2⟩ := Option.bind_eq_some_iff.1 h
    obtain ⟨_, _, _, _, _, k, _⟩ := rdSeg_info hc h1
    exact rdAll_con k h2
theorem rdAll_append : ∀ (A B : List Sg) (o : Bool) (g : PL), A ≠ [] → rdAll o g (A ++ B) = (rdAll o g A).bind fun g' => rdAll false g' B
  | [], B, o, g, h => absurd rfl h
  | [x], B, o, g, _ => by
    show (rdSeg o g x).bind (fun g' => rdAll false g' B) = ((rdSeg o g x).bind fun g' => some g').bind _
    cases rdSeg o g x <;> rfl
  | x :: y :: A, B, o, g, _ => by
    show (rdSeg o g x).bind (fun g' => rdAll false g' ((y :: A) ++ B)) = ((rdSeg o g x).bind fun g' => rdAll false g' (y :: A)).bind _
    cases rdSeg o g x with
    | none => rfl
    | some g1 => exact rdAll_append (y :: A) B false g1 (by simp)
theorem idle_next {g s : PL} {A B : Sg} {Q : List Sg} (hc : g.Con) (ha : A.hd.anew = false) (hb : B.hd.anew = false) (hle : B.hd.i ≤ A.hd.i) (h : rdAll false g (A :: B :: Q) = some s) : rdAll false g (B :: Q) = some s := by
  obtain ⟨g2, h1, h2⟩ := Option.bind_eq_some_iff.1 h
  obtain ⟨g4, h3, h4⟩ := Option.bind_eq_some_iff.1 h2
  obtain ⟨g1, k1, k2, k3, k4, k5, k6, k7⟩ := rdSeg_info hc h1
  obtain ⟨g3, l1, l2, l3, l4, l5, l6, l7⟩ := rdSeg_info k5 h3
  rw [begin_to g ha] at k1
  rw [begin_to g2 hb] at l1
  obtain ⟨hA, rfl⟩ := PL.to_some hc k1
  obtain ⟨hB, rfl⟩ := PL.to_some k5 l1
  obtain ⟨m1, m2, m3, m4, m5⟩ := body_pre k3 k4 k2
  have ef : (g.cutAt A.hd.i).fi = g.fi := rfl
  have ee : (g.cutAt A.hd.i).es = g.es.take (A.hd.i - g.fi) := rfl
  rw [ef] at m2 m4 m5
  rw [ee, List.take_take, Nat.min_self] at m5
  have m3 : g2.ft = g.ft := m3
  have hB' : g.has B.hd.i B.hd.t := by
    obtain ⟨q1, q2, q3⟩ := hB
    rw [m2] at q1 q2 q3
    refine ⟨q1, fun h => (q2 h).trans m3, fun h => ?_⟩
    obtain ⟨e, he, het⟩ := q3 h
    refine ⟨e, ?_, het⟩
    have h5 := congrArg (fun l => l[B.hd.i - g.fi - 1]?) m5
    simp only [List.getElem?_take] at h5
    rw [if_pos (by omega), if_pos (by omega)] at h5
    rw [← h5]; exact he
  have hcut : g2.cutAt B.hd.i = g.cutAt B.hd.i := by
    unfold PL.cutAt
    rw [m2, m3]
    congr 1
    have h5 := congrArg (List.take (B.hd.i - g.fi)) m5
    rw [List.take_take, List.take_take, Nat.min_eq_left (by omega)] at h5
    exact h5
  show (rdSeg false g B).bind _ = _
  have : rdSeg false g B = some g4 := by
    unfold rdSeg
    rw [begin_to g hb, PL.to_of hc hB', ← hcut]
    exact l2
  rw [this]; exact h4
theorem idle_first {g0 s : PL} {A B : Sg} {Q : List Sg} (hc : g0.Con) (hb : B.hd.anew = false) (hle : B.hd.i ≤ A.hd.i) (h : rdAll true g0 (A :: B :: Q) = some s) : rdAll true g0 (B :: Q) = some s := by
  obtain ⟨g2, h1, h2⟩ := Option.bind_eq_some_iff.1 h
  obtain ⟨g4, h3, h4⟩ := Option.bind_eq_some_iff.1 h2
  obtain ⟨g1, k1, k2, k3, k4, k5, k6, k7⟩ := rdSeg_info hc h1
  obtain ⟨g3, l1, l2, l3, l4, l5, l6, l7⟩ := rdSeg_info k5 h3
  rw [begin_old] at k1
  cases k1
  rw [begin_to g2 hb] at l1
  obtain ⟨hB, rfl⟩ := PL.to_some k5 l1
  obtain ⟨m1, m2, m3, m4, m5⟩ := body_pre k3 k4 k2
  have m2 : g2.fi = A.hd.i := m2
  have m3 : g2.ft = A.hd.t := m3
  obtain ⟨q1, q2, q3⟩ := hB
  have e1 : B.hd.i = A.hd.i := by omega
  have e2 : B.hd.t = A.hd.t := (q2 (by omega)).trans m3
  have hcut : g2.cutAt B.hd.i = ⟨B.hd.i, B.hd.t, []⟩ := by
    unfold PL.cutAt
    rw [m2, m3, e1, e2, Nat.sub_self, List.take_zero]
  show (rdSeg true g0 B).bind _ = _
  have : rdSeg true g0 B = some g4 := by
    unfold rdSeg
    rw [begin_old, ← hcut]
    exact l2
  rw [this]; exact h4
theorem idle_at {s : PL} {P Q : List Sg} {A B : Sg} (hb : B.hd.anew = false) (ha : P ≠ [] → A.hd.anew = false) (hle : B.hd.i ≤ A.hd.i) {g0 : PL} (hc : g0.Con) (h : rdAll true g0 (P ++ A :: B :: Q) = some s) : rdAll true g0 (P ++ B :: Q) = some s := by
  rcases Decidable.em (P = []) with rfl | hp
  · exact idle_first hc hb hle h
  · rw [rdAll_append P _ _ _ hp] at h ⊢
    obtain ⟨g1, h1, h2⟩ := Option.bind_eq_some_iff.1 h
    rw [h1]
    exact idle_next (rdAll_con hc h1) (ha hp) hb hle h2
theorem anew_resets {g0 s : PL} {P Q : List Sg} {B : Sg} (hb : B.hd.anew = true) (h : rdAll true g0 (P ++ B :: Q) = some s) : rdAll true g0 (B :: Q) = some s := by
  rcases Decidable.em (P = []) with rfl | hp
  · exact h
  · rw [rdAll_append P _ _ _ hp] at h
    obtain ⟨g1, h1, h2⟩ := Option.bind_eq_some_iff.1 h
    obtain ⟨g2, h3, h4⟩ := Option.bind_eq_some_iff.1 h2
    show (rdSeg true g0 B).bind _ = _
    have : rdSeg true g0 B = rdSeg false g1 B := by
      unfold rdSeg
      rw [begin_old, begin_anew g1 false hb]
    rw [this, h3]; exact h4
def PL.lift (g : PL) (i t : Nat) : PL := ⟨i, t, g.es.drop (i - g.fi)⟩
theorem PL.lift_last {g : PL} {i t : Nat} (hc : g.Con) (h : g.has i t) : (g.lift i t).last = g.last := by
  have hl := h.len
  have hfi := h.1
  show (match (g.es.drop (i - g.fi)).getLast? with | some e => (e.i, e.t) | none => (i, t)) = (match g.es.getLast? with | some e => (e.i, e.t) | none => (g.fi, g.ft))
  rw [List.getLast?_drop]
  by_cases h0 : g.es.length ≤ i - g.fi
  · rw [if_pos h0]
    have hlen : g.es.length = i - g.fi := by omega
    rcases Nat.lt_or_ge g.fi i with h1 | h1
    · obtain ⟨e, he, het⟩ := h.2.2 h1
      rw [List.getLast?_eq_getElem?, hlen, he]
      obtain ⟨hk, rfl⟩ := List.getElem?_eq_some_iff.1 he
      have := hc _ hk
      show (i, t) = (_, _)
      rw [het, this]
      congr 1; omega
    · have hi : i = g.fi := by omega
      have : g.es = [] := List.eq_nil_of_length_eq_zero (by omega)
      rw [this, hi, h.2.1 hi]; rfl
  · rw [if_neg h0]
    cases hg : g.es.getLast? with
    | none => rw [List.getLast?_eq_none_iff] at hg; rw [hg] at h0; simp at h0
    | some e => rfl
theorem sim_step {own i t : Nat} {g g' : PL} {r : Rec} (hc : g.Con) (hh : g.has i t) (hi : i ≤ own) (h : bodyStep own g r = some g') : bodyStep own (g.lift i t) r = some (g'.lift i t) ∧ g'.has i t ∧ g'.fi = g.fi := by
  have hlast := PL.lift_last hc hh
  have hlen := hh.len
  cases r with
  | hd hh => cases h
  | en e =>
    simp only [bodyStep] at h ⊢
    split at h
    · rename_i hx
      cases h
      rw [hlast, if_pos hx]
      refine ⟨?_, ⟨hh.1, hh.2.1, fun hlt => ?_⟩, rfl⟩
      · show some (⟨i, t, g.es.drop (i - g.fi) ++ [e]⟩ : PL) = some ⟨i, t, (g.es ++ [e]).drop (i - g.fi)⟩
        rw [List.drop_append_of_le_length hlen]
      · obtain ⟨x, he, het⟩ := hh.2.2 hlt
        refine ⟨x, ?_, het⟩
        show (g.es ++ [e])[i - g.fi - 1]? = _
        have := (List.getElem?_eq_some_iff.1 he).1
        rw [List.getElem?_append_left this]; exact he
    · cases h
  | ct f =>
    simp only [bodyStep] at h ⊢
    split at h
    · rename_i hx
      cases h
      have hm := hx.2
      unfold mayB at hm
      simp only [Bool.and_eq_true, decide_eq_true_eq] at hm
      rw [hlast, if_pos ⟨hx.1, by
        unfold mayB
        simp only [Bool.and_eq_true, decide_eq_true_eq]
        exact ⟨by show i < f; omega, hm.2⟩⟩]
      have hfi := hh.1
      refine ⟨?_, ⟨hfi, hh.2.1, fun hlt => ?_⟩, rfl⟩
      · show some (⟨i, t, (g.es.drop (i - g.fi)).take (f - 1 - i)⟩ : PL) = some ⟨i, t, (g.es.take (f - 1 - g.fi)).drop (i - g.fi)⟩
        rw [List.drop_take, show f - 1 - g.fi - (i - g.fi) = f - 1 - i by omega]
      · obtain ⟨x, he, het⟩ := hh.2.2 hlt
        refine ⟨x, ?_, het⟩
        show (g.es.take (f - 1 - g.fi))[i - g.fi - 1]? = _
        have hlt' : g.fi < i := hlt
        rw [List.getElem?_take, if_pos (by omega)]; exact he
    · cases h
theorem sim_body {own i t : Nat} : ∀ {rs : List Rec} {g g' : PL}, g.Con → g.has i t → i ≤ own → body own g rs = some g' → body own (g.lift i t) rs = some (g'.lift i t) ∧ g'.has i t
  | [], g, g', hc, hh, hi, h => by cases h; exact ⟨rfl, hh⟩
  | r :: rs, g, g', hc, hh, hi, h => by
    rw [body_cons] at h ⊢
    obtain ⟨g1, h1, h2⟩ := Option.bind_eq_some_iff.1 h
    obtain ⟨k1, k2, k3⟩ := sim_step hc hh hi h1
    rw [k1]
    exact sim_body (bodyStep_con hc h1) k2 hi h2
theorem PL.Con.lift {g : PL} {i t : Nat} (hc : g.Con) (h : g.fi ≤ i) : (g.lift i t).Con := by
  have e : ∀ k (hk : k < (g.es.drop (i - g.fi)).length), (g.es.drop (i - g.fi))[k].i = i + k + 1 := by
    intro k hk
    have hk' := hk
    rw [List.length_drop] at hk'
    rw [List.getElem_drop, hc _ (by omega)]; omega
  exact e
theorem sim_to {i t i' t' : Nat} {g g' : PL} (hc : g.Con) (hh : g.has i t) (hi : i ≤ i') (h : g.to i' t' = some g') : (g.lift i t).to i' t' = some (g'.lift i t) ∧ g'.has i t := by
  obtain ⟨hk, rfl⟩ := PL.to_some hc h
  have hfi := hh.1
  have h1 : (g.lift i t).has i' t' := by
    refine ⟨hi, fun h => ?_, fun hlt => ?_⟩
    · have h : i' = i := h
      show t' = t
      subst h
      rcases Nat.lt_or_ge g.fi i' with h1 | h1
      · obtain ⟨e, he, het⟩ := hh.2.2 h1
        obtain ⟨e2, he2, het2⟩ := hk.2.2 h1
        rw [he] at he2; cases he2
        rw [← het, ← het2]
      · have : i' = g.fi := by omega
        rw [hk.2.1 this, hh.2.1 this]
    · have hlt : i < i' := hlt
      obtain ⟨e, he, het⟩ := hk.2.2 (by omega)
      refine ⟨e, ?_, het⟩
      show (g.es.drop (i - g.fi))[i' - i - 1]? = _
      rw [List.getElem?_drop, show i - g.fi + (i' - i - 1) = i' - g.fi - 1 by omega]; exact he
  refine ⟨?_, ⟨hfi, hh.2.1, fun hlt => ?_⟩⟩
  · rw [PL.to_of (hc.lift hfi) h1]
    unfold PL.cutAt PL.lift
    simp only
    rw [List.drop_take, show i' - g.fi - (i - g.fi) = i' - i by omega]
  · have hlt : g.fi < i := hlt
    obtain ⟨e, he, het⟩ := hh.2.2 hlt
    refine ⟨e, ?_, het⟩
    show (g.es.take (i' - g.fi))[i - g.fi - 1]? = _
    rw [List.getElem?_take, if_pos (by omega)]; exact he
theorem sim_all {i t : Nat} : ∀ {L : List Sg} {g s : PL}, g.Con → g.has i t → (∀ x ∈ L, x.hd.anew = false ∧ i ≤ x.hd.i) → rdAll false g L = some s → rdAll false (g.lift i t) L = some (s.lift i t) ∧ s.has i t
  | [], g, s, hc, hh, _, h => by cases h; exact ⟨rfl, hh⟩
  | x :: L, g, s, hc, hh, hL, h => by
    obtain ⟨g2, h1, h2⟩ := Option.bind_eq_some_iff.1 h
    obtain ⟨ha, hi⟩ := hL x List.mem_cons_self
    obtain ⟨g1, k1, k2, k3, k4, k5, k6, k7⟩ := rdSeg_info hc h1
    rw [begin_to g ha] at k1
    obtain ⟨l1, l2⟩ := sim_to hc hh hi k1
    obtain ⟨m1, m2⟩ := sim_body k3 l2 hi k2
    obtain ⟨n1, n2⟩ := sim_all k5 m2 (fun y hy => hL y (List.mem_cons_of_mem _ hy)) h2
    refine ⟨?_, n2⟩
    show (rdSeg false (g.lift i t) x).bind _ = _
    have : rdSeg false (g.lift i t) x = some (g2.lift i t) := by
      unfold rdSeg
      rw [begin_to _ ha, l1]; exact m1
    rw [this]; exact n1
theorem trim_first {g0 s : PL} {A B : Sg} {L : List Sg} (hc : g0.Con) (hb : B.hd.anew = false) (hL : ∀ x ∈ L, x.hd.anew = false ∧ B.hd.i ≤ x.hd.i) (h : rdAll true g0 (A :: B :: L) = some s) :
    rdAll true g0 (B :: L) = some (s.lift B.hd.i B.hd.t) ∧ s.has B.hd.i B.hd.t := by
  obtain ⟨g2, h1, h2⟩ := Option.bind_eq_some_iff.1 h
  obtain ⟨g4, h3, h4⟩ := Option.bind_eq_some_iff.1 h2
  obtain ⟨g1, k1, k2, k3, k4, k5, k6, k7⟩ := rdSeg_info hc h1
  obtain ⟨g3, l1, l2, l3, l4, l5, l6, l7⟩ := rdSeg_info k5 h3
  rw [begin_to g2 hb] at l1
  obtain ⟨hB, rfl⟩ := PL.to_some k5 l1
  obtain ⟨m1, m2⟩ := sim_body l3 l7 (Nat.le_refl _) l2
  obtain ⟨n1, n2⟩ := sim_all l5 m2 hL h4
  refine ⟨?_, n2⟩
  have e : (g2.cutAt B.hd.i).lift B.hd.i B.hd.t = ⟨B.hd.i, B.hd.t, []⟩ := by
    unfold PL.cutAt PL.lift
    simp only
    rw [List.drop_of_length_le (by rw [List.length_take]; omega)]
  show (rdSeg true g0 B).bind _ = _
  have : rdSeg true g0 B = some (g4.lift B.hd.i B.hd.t) := by
    unfold rdSeg
    rw [begin_old, ← e]; exact m1
  rw [this]; exact n1
theorem rd_head {g0 s : PL} {G : List Sg} {f : Nat} {h : Hd} (hne : G ≠ []) (hg : rdAll true g0 G = some s) : rdAll true g0 (G ++ [⟨f, h, []⟩]) = s.begin h false := by
  rw [rdAll_append G _ _ _ hne, hg]
  show (rdSeg false s ⟨f, h, []⟩).bind (fun g => some g) = _
  unfold rdSeg
  cases s.begin h false <;> rfl
theorem rd_more {g0 s : PL} {G : List Sg} {f : Nat} {h : Hd} {rs new : List Rec} (hg : rdAll true g0 (G ++ [⟨f, h, rs⟩]) = some s) : rdAll true g0 (G ++ [⟨f, h, rs ++ new⟩]) = body h.i s new := by
  have key : ∀ (o : Bool) (g : PL), rdAll o g [⟨f, h, rs⟩] = some s → rdAll o g [⟨f, h, rs ++ new⟩] = body h.i s new := by
    intro o g hk
    have e : ∀ rs, rdAll o g [⟨f, h, rs⟩] = rdSeg o g ⟨f, h, rs⟩ := fun rs => by
      show (rdSeg o g ⟨f, h, rs⟩).bind (fun g => some g) = _
      cases rdSeg o g ⟨f, h, rs⟩ <;> rfl
    rw [e] at hk ⊢
    unfold rdSeg at hk ⊢
    cases hb : g.begin h o with
    | none => rw [hb] at hk; cases hk
    | some g1 =>
      rw [hb] at hk
      have hk : body h.i g1 rs = some s := hk
      show body h.i g1 (rs ++ new) = _
      rw [body_append, hk]; rfl
  rcases Decidable.em (G = []) with rfl | hne
  · exact key _ _ hg
  · rw [rdAll_append G _ _ _ hne] at hg ⊢
    obtain ⟨g1, h1, h2⟩ := Option.bind_eq_some_iff.1 hg
    rw [h1]; exact key _ _ h2
theorem PL.last_snoc (g : PL) (e : Ent) : PL.last { g with es := g.es ++ [e] } = (e.i, e.t) := by
  unfold PL.last; simp
theorem body_ents {own : Nat} : ∀ {l : List Ent} {g : PL}, okAll g.last l = true → body own g (l.map .en) = some { g with es := g.es ++ l }
  | [], g, _ => by rw [List.append_nil]; rfl
  | e :: l, g, h => by
    simp only [okAll, Bool.and_eq_true] at h
    obtain ⟨h1, h2⟩ := h
    obtain ⟨_, k2, k3⟩ := okE_ok h1
    rw [List.map_cons, body_cons]
    have : bodyStep own g (.en e) = some { g with es := g.es ++ [e] } := by
      simp only [bodyStep]; rw [if_pos ⟨k2, k3⟩]
    rw [this]
    show body own { g with es := g.es ++ [e] } (l.map .en) = _
    rw [body_ents (by rw [PL.last_snoc]; exact h2)]
    simp
end Go.Sx.Tryz
namespace Go.Sx.Tryz
open Go Go.Sx Go.Proofs
set_option maxRecDepth 100000
set_option linter.unusedVariables false
noncomputable def c11 : Code := (Tryz.f11.body).getD .skip
def a11 : Ann := (.seq .leaf (.seq (.inn (.seq .leaf (.br (.seq .leaf .leaf) (.seq .leaf (.br (.seq .leaf .leaf) (.join [(27, .one (.b))] .leaf (.br (.seq .leaf .leaf) .leaf))))))) (.seq .leaf (.seq .leaf (.seq (.seq .leaf (.inn (.loop [(11, .one (.sl)), (60, .one (.i .i64))] (.seq .leaf (.seq (.br .leaf .leaf) (.seq (.inn (.seq .leaf .leaf)) .leaf)))))) (.seq .leaf (.seq (.seq .leaf (.br (.seq .leaf .leaf) .leaf)) (.seq .leaf (.seq (.seq .leaf (.inn (.loop [(87, .one (.i .i64))] (.seq .leaf (.seq (.br .leaf .leaf) (.seq (.inn (.seq .leaf (.seq .leaf (.reg (.q 0 (.q 1 (.q 2 (.q 3 (.q 4 (.q 5 (.q 6 (.q 7 (.q 8 (.q 9 (.m 10 (.m 11 (.q 12 (.q 13 (.m 14 (.fin) (.nil)))) (.nil)) (.nil)))))))))))))))) .leaf)))))) (.seq (.seq .leaf (.inn (.loop [(115, .one (.i .i64))] (.seq .leaf (.seq (.br .leaf .leaf) (.seq (.inn (.seq .leaf (.reg (.q 0 (.q 1 (.q 2 (.q 3 (.q 4 (.q 5 (.q 6 (.q 7 (.q 8 (.q 9 (.m 10 (.m 11 (.fin) (.nil)) (.nil))))))))))))))) .leaf)))))) (.seq (.seq .leaf (.br .leaf .leaf)) (.seq .leaf (.seq (.seq .leaf (.br (.seq .leaf .leaf) .leaf)) (.seq .leaf .leaf))))))))))))))
theorem ok11 : okC tab 144 true c11 a11 = true := by kernel_rfl
theorem vc11 (d_b d_o : Nat) (first_ : Int) (many_ : Int) (each_ : Int) (h : Heap) (R : Value → Heap → Prop)
  (hv : CallsH Tryz.prog 15 #[.pointer (some ⟨d_b, d_o, none⟩)] h (fun r1 h1 => ∃ t1 : Bool, r1 = .bool t1 ∧
   CondP t1 (
   R (.tuple #[.pointer none, .int .i64 70]) h1) (
   ∃ J1 : Bool → Heap → Prop, (∀ t2 : Bool, ∀ h2, J1 t2 h2 → ∀ _ : Env,
   CondP t2 (
   R (.tuple #[.pointer none, .int .i64 2]) h2) (
   ∀ b1 h3, Fresh h2 (.cells #[.pointer (some ⟨d_b, d_o, none⟩), .int .i64 first_, .int .i64 many_, .int .i64 each_, .int .u64 0, .int .u64 0, .slice none 0 0, .slice none 0 0, .slice none 0 0, .bool false] 97) b1 h3 →
   ∀ b2 h4, Fresh h3 (.cells #[] 33) b2 h4 →
   ∃ (I1 : Sl → Int → Heap → Prop) (mu1 : Sl → Int → Heap → Nat), I1 ⟨some ⟨b2, 0, none⟩, 0, 0⟩ 0 h4 ∧ (∀ x1 : Sl, ∀ n1 : Int, ∀ h5, I1 x1 n1 h5 → ∀ _ : Env,
   CondP (decide ((n1 : Int) < many_)) (
   CallsH Tryz.prog 37 #[.pointer (some ⟨d_b, d_o, none⟩), .int .i64 (IntKind.i64.wrap (first_ + n1))] h5 (fun r2 h6 => ∃ x2 : Sl, r2 = .slice x2.a x2.l x2.c ∧
   ∀ b3 h7, Fresh h6 (.cells #[.slice x2.a x2.l x2.c] 33) b3 h7 →
   RunK Tryz.prog (.sl) (Builtin.append_ #[98, 98] 98 #[.slice x1.a x1.l x1.c, .slice (some ⟨b3, 0, none⟩) 1 1]) h7 (fun x3 h8 =>
   I1 x3 (IntKind.i64.wrap (n1 + 1)) h8 ∧ mu1 x3 (IntKind.i64.wrap (n1 + 1)) h8 < mu1 x1 n1 h5))) (
   CallsH Tryz.prog 38 #[.slice x1.a x1.l x1.c] h5 (fun r3 h9 => ∃ n2 : Int, ∃ n3 : Int, ∃ x4 : Sl, ∃ x5 : Sl, ∃ x6 : Sl, ∃ n4 : Int, r3 = .tuple #[.agg #[.int .u64 n2, .int .u64 n3, .slice x4.a x4.l x4.c, .slice x5.a x5.l x5.c], .slice x6.a x6.l x6.c, .int .i64 n4] ∧
   ∀ b4 h10, Fresh h9 (.cells #[.int .u64 0, .int .u64 0, .slice none 0 0, .slice none 0 0] 94) b4 h10 →
   CanSt h10 b4 0 [.int .u64 n2, .int .u64 n3, .slice x4.a x4.l x4.c, .slice x5.a x5.l x5.c] ∧ ∀ h11, Stored h10 b4 0 [.int .u64 n2, .int .u64 n3, .slice x4.a x4.l x4.c, .slice x5.a x5.l x5.c] h11 →
   CondP ((n4 : Int) != 0) (
   R (.tuple #[.pointer none, .int .i64 n4]) h11) (
   ∃ n5 : Int, ∃ n6 : Int, ∃ x7 : Sl, ∃ x8 : Sl, CellsAt h11 b4 0 [.int .u64 n5, .int .u64 n6, .slice x7.a x7.l x7.c, .slice x8.a x8.l x8.c] ∧
   CanSt h11 b1 4 [.int .u64 n5, .int .u64 n6, .slice x7.a x7.l x7.c, .slice x8.a x8.l x8.c] ∧ ∀ h12, Stored h11 b1 4 [.int .u64 n5, .int .u64 n6, .slice x7.a x7.l x7.c, .slice x8.a x8.l x8.c] h12 →
   ∃ (I2 : Int → Heap → Prop) (mu2 : Int → Heap → Nat), I2 0 h12 ∧ (∀ n7 : Int, ∀ h13, I2 n7 h13 → ∀ _ : Env,
   CondP (decide ((n7 : Int) < ((x6.l : Nat) : Int))) (
   ((0 : Int) ≤ n7 ∧ (n7 : Int) < ((x6.l : Nat) : Int)) ∧
   NilP x6.a (fun b5 o1 =>
   ∃ n8 : Int, cellH h13 b5 (o1 + n7.toNat) = some (.int .i64 n8) ∧
   ((0 : Int) ≤ n8 ∧ (n8 : Int) < ((x1.l : Nat) : Int)) ∧
   NilP x1.a (fun b6 o2 =>
   ∃ x9 : Sl, cellH h13 b6 (o2 + n8.toNat) = some (.slice x9.a x9.l x9.c) ∧
   CallsH Tryz.prog 39 #[.slice x9.a x9.l x9.c] h13 (fun r4 h14 => ∃ n9 : Int, ∃ t3 : Bool, ∃ n10 : Int, ∃ n11 : Int, ∃ t4 : Bool, r4 = .tuple #[.agg #[.int .u64 n9, .bool t3, .int .u64 n10, .int .u64 n11], .bool t4] ∧
   ∀ b7 h15, Fresh h14 (.cells #[.int .u64 0, .bool false, .int .u64 0, .int .u64 0] 103) b7 h15 →
   CanSt h15 b7 0 [.int .u64 n9, .bool t3, .int .u64 n10, .int .u64 n11] ∧ ∀ h16, Stored h15 b7 0 [.int .u64 n9, .bool t3, .int .u64 n10, .int .u64 n11] h16 →
   ∃ x10 : Sl, cellH h16 b1 8 = some (.slice x10.a x10.l x10.c) ∧
   ∃ n12 : Int, ∃ t5 : Bool, ∃ n13 : Int, ∃ n14 : Int, CellsAt h16 b7 0 [.int .u64 n12, .bool t5, .int .u64 n13, .int .u64 n14] ∧
   ∀ b8 h17, Fresh h16 (.cells #[.int .i64 (IntKind.i64.wrap (first_ + n8)), .int .u64 n12, .bool t5, .int .u64 n13, .int .u64 n14] 107) b8 h17 →
   cellH h17 b1 8 = some (.slice x10.a x10.l x10.c) ∧
   RunK Tryz.prog (.sl) (Builtin.append_ #[95, 95] 95 #[.slice x10.a x10.l x10.c, .slice (some ⟨b8, 0, none⟩) 1 1]) h17 (fun x11 h18 =>
   CanSt h18 b1 8 [.slice x11.a x11.l x11.c] ∧ ∀ h19, Stored h18 b1 8 [.slice x11.a x11.l x11.c] h19 →
   I2 (IntKind.i64.wrap (n7 + 1)) h19 ∧ mu2 (IntKind.i64.wrap (n7 + 1)) h19 < mu2 n7 h13))))) (
   ∃ (I3 : Int → Heap → Prop) (mu3 : Int → Heap → Nat), I3 0 h13 ∧ (∀ n15 : Int, ∀ h20, I3 n15 h20 → ∀ _ : Env,
   CondP (decide ((n15 : Int) < many_)) (
   ((0 : Int) ≤ n15 ∧ (n15 : Int) < ((x1.l : Nat) : Int)) ∧
   NilP x1.a (fun b9 o3 =>
   ∃ x12 : Sl, cellH h20 b9 (o3 + n15.toNat) = some (.slice x12.a x12.l x12.c) ∧
   CallsH Tryz.prog 41 #[.slice x6.a x6.l x6.c, .int .i64 n15] h20 (fun r5 h21 => ∃ t6 : Bool, r5 = .bool t6 ∧
   cellH h21 b9 (o3 + n15.toNat) = some (.slice x12.a x12.l x12.c) ∧
   CallsH Tryz.prog 40 #[.pointer (some ⟨b1, 0, none⟩), .int .i64 (IntKind.i64.wrap (first_ + n15)), .slice x12.a x12.l x12.c, .bool t6] h21 (fun r6 h22 => r6 = .tuple #[] ∧
   I3 (IntKind.i64.wrap (n15 + 1)) h22 ∧ mu3 (IntKind.i64.wrap (n15 + 1)) h22 < mu3 n15 h20)))) (
   CondP ((((x6.l : Nat) : Int) : Int) == 0) (
   CallsH Tryz.prog 42 #[.pointer (some ⟨b1, 0, none⟩), .agg #[.int .u64 0, .bool false, .int .u64 0, .int .u64 0]] h20 (fun r7 h23 => ∃ t7 : Bool, r7 = .bool t7 ∧
   CallsH Tryz.prog 43 #[.pointer (some ⟨b1, 0, none⟩)] h23 (fun r8 h24 => r8 = .tuple #[] ∧
   ∃ t8 : Bool, cellH h24 b1 9 = some (.bool t8) ∧
   CondP t8 (
   R (.tuple #[.pointer none, .int .i64 70]) h24) (
   R (.tuple #[.pointer (some ⟨b1, 0, none⟩), .int .i64 0]) h24)))) (
   CallsH Tryz.prog 43 #[.pointer (some ⟨b1, 0, none⟩)] h20 (fun r9 h25 => r9 = .tuple #[] ∧
   ∃ t9 : Bool, cellH h25 b1 9 = some (.bool t9) ∧
   CondP t9 (
   R (.tuple #[.pointer none, .int .i64 70]) h25) (
   R (.tuple #[.pointer (some ⟨b1, 0, none⟩), .int .i64 0]) h25))))))))))))) ∧
   CondP (decide ((first_ : Int) < 0)) (
   J1 true h1) (
   CondP (decide ((many_ : Int) < 2)) (
   J1 true h1) (
   CondP (decide ((many_ : Int) > 32)) (
   J1 true h1) (
   CondP (decide ((first_ : Int) > (IntKind.i64.wrap (32 - many_)))) (
   J1 true h1) (
   CondP (decide ((each_ : Int) < 64)) (
   J1 true h1) (
   J1 (decide ((each_ : Int) > 1048576)) h1)))))))) :
  CallsH Tryz.prog 11 #[.pointer (some ⟨d_b, d_o, none⟩), .int .i64 first_, .int .i64 many_, .int .i64 each_] h R :=
  calls_of_vc tabOk mixed Tryz.func11 (c := c11) (by kernel_rfl) (n := 144) rfl (rs := [.tmp 8, .tmp 9]) (by kernel_rfl) ok11 (args := [.pointer (some ⟨d_b, d_o, none⟩), .int .i64 first_, .int .i64 many_, .int .i64 each_]) (Nat.le_of_ble_eq_true rfl) (Eq.mpr (by kernel_rfl) hv)
end Go.Sx.Tryz
namespace Go.Sx.Tryz
open Go Go.Sx Go.Proofs
set_option linter.unusedVariables false
section
variable {H H' : Heap} {S : PH} {R : List Asn} {jb d : Nat} {J : Jn} {D : Dk}
theorem dsk_len (hs : Sat H S (dsk d D :: R)) : ∀ i, i < 32 → (D.f i).b.length ≤ 1048576 := by
  obtain ⟨cs, vs, hd, _⟩ := dsk_open hs
  exact hd.fit
theorem idle_any (hs : Sat H S (jA jb J :: dsk J.d D :: R)) (hfl : ∀ x ∈ J.segs, x.file < 32) (hsl : J.segs.length < 1000000)
    {K : Value → Heap → Prop} (hK : ∀ H', Sat H' S (jA jb (J.idle D).2 :: dsk J.d (J.idle D).1 :: R) → K (.tuple #[]) H') : CallsH Tryz.prog 43 #[.pointer (some ⟨jb, 0, none⟩)] H K := by
  rcases Nat.eq_zero_or_pos J.segs.length with h0 | h0
  · have hb : J.begun D = (D, J) := by rw [Jn.begun, h0]; rfl
    have e : J.idle D = (D, J) := by
      rw [Jn.idle, hb]
      split
      · rfl
      · show Jn.idleN (J.segs.length - 1) J D = _; rw [h0]; rfl
    rw [e] at hK
    obtain ⟨ve, vs, hs1⟩ := jA_open hs
    have hvl := (ownS.len (hs1.pick 2 rfl)).1
    have hc8 := hs1.cell 8 (v := .slice vs.a vs.l vs.c) rfl
    have e1 : IntKind.i64.wrap (((vs.l : Nat) : Int) - 1) = -1 := by rw [i64_in (by omega) (by omega)]; omega
    have e2 : IntKind.i64.wrap (((vs.l : Nat) : Int) - 2) = -2 := by rw [i64_in (by omega) (by omega)]; omega
    apply vc43
    apply vc105
    refine ⟨vs, hc8, fun n h => n = -1 ∧ h = H, ?_, ?_⟩
    · rintro n h1 ⟨rfl, rfl⟩ _
      refine ⟨fun n h => n = -1 ∧ h = h1, fun _ _ => 0, ⟨rfl, rfl⟩, ?_⟩
      rintro n h2 ⟨rfl, rfl⟩ _
      refine CondP.of (fun hc => by simp at hc) fun _ => ⟨rfl, _, hs1.cell 9 rfl, CondP.of (fun _ => hK _ hs) fun hc => ⟨vs, hc8, ?_⟩⟩
      rw [e2]
      refine ⟨fun n h => n = -2 ∧ h = h2, fun _ _ => 0, ⟨rfl, rfl⟩, ?_⟩
      rintro n h3 ⟨rfl, rfl⟩ _
      refine ⟨fun t h => t = false ∧ h = h3, ?_, ?_⟩
      · rintro t h4 ⟨rfl, rfl⟩ _
        exact CondP.of (fun hc => by cases hc) fun _ => hK _ hs
      · exact CondP.of (fun hc => by simp at hc) fun _ => ⟨rfl, rfl⟩
    · rw [e1]
      refine ⟨fun n h => n = -1 ∧ h = H, fun _ _ => 0, ⟨rfl, rfl⟩, ?_⟩
      rintro n h2 ⟨rfl, rfl⟩ _
      exact CondP.of (fun hc => by simp at hc) fun _ => ⟨rfl, rfl⟩
  · exact idle_spec hs hfl hsl h0 hK
def HOk (b : List UInt8) : Option Hd → Prop
  | some hd => hd.ok ∧ ∃ rest, b = parcelB 1 hd.body ++ rest
  | none => Tail b
def hdAt (hds : List (Option Hd)) (n : Nat) : Hd := ((hds[n]?).getD none).getD ⟨0, false, 0, 0⟩
def segsOf (first : Nat) (hds : List (Option Hd)) (Ls : List Nat) : List Seg := Ls.map fun n => ⟨first + n, hdAt hds n⟩
def tidyK (first : Nat) (pn ln : Nat → Nat) (us : Nat → Bool) : Nat → Dk × Jn → Dk × Jn
  | 0, X => X
  | k + 1, X => (tidyK first pn ln us k X).2.tidy (tidyK first pn ln us k X).1 (first + k) (pn k) (ln k) (us k)
def openedR (Y : Dk × Jn) (e : Bool) : Dk × Jn := if e = true then (Y.2.start Y.1 ⟨0, false, 0, 0⟩).2.2.idle (Y.2.start Y.1 ⟨0, false, 0, 0⟩).2.1 else Y.2.idle Y.1
def pnOf (Ls : List Nat) (rsf : Nat → List Rec) (n : Nat) : Nat := if n ∈ Ls then (pbs ((rsf n).map Rec.par)).length else 0
theorem tidy_facts (J : Jn) (D : Dk) (f n len : Nat) (used : Bool) : (J.tidy D f n len used).2.d = J.d ∧ (J.tidy D f n len used).2.segs = J.segs ∧ (J.tidy D f n len used).2.log = J.log ∧ (J.tidy D f n len used).2.first = J.first ∧ (J.tidy D f n len used).2.many = J.many ∧ (J.tidy D f n len used).2.each = J.each := by
  unfold Jn.tidy
  split
  · exact ⟨rfl, rfl, rfl, rfl, rfl, rfl⟩
  · split
    · exact ⟨rfl, rfl, rfl, rfl, rfl, rfl⟩
    · split
      · split
        · exact ⟨rfl, rfl, rfl, rfl, rfl, rfl⟩
        · exact ⟨rfl, rfl, rfl, rfl, rfl, rfl⟩
      · exact ⟨rfl, rfl, rfl, rfl, rfl, rfl⟩
theorem tidyK_facts (first : Nat) (pn ln : Nat → Nat) (us : Nat → Bool) (X : Dk × Jn) : ∀ k, (tidyK first pn ln us k X).2.d = X.2.d ∧ (tidyK first pn ln us k X).2.segs = X.2.segs ∧ (tidyK first pn ln us k X).2.log = X.2.log ∧ (tidyK first pn ln us k X).2.first = X.2.first ∧ (tidyK first pn ln us k X).2.many = X.2.many ∧ (tidyK first pn ln us k X).2.each = X.2.each
  | 0 => ⟨rfl, rfl, rfl, rfl, rfl, rfl⟩
  | k + 1 => by
    obtain ⟨h1, h2, h3, h4, h5, h6⟩ := tidyK_facts first pn ln us X k
    obtain ⟨g1, g2, g3, g4, g5, g6⟩ := tidy_facts (tidyK first pn ln us k X).2 (tidyK first pn ln us k X).1 (first + k) (pn k) (ln k) (us k)
    exact ⟨g1.trans h1, g2.trans h2, g3.trans h3, g4.trans h4, g5.trans h5, g6.trans h6⟩
theorem el98 : ElemOk Tryz.prog 98 33 1 24 := ElemOk.mk' (z := .slice none 0 0) Tryz.underlying98 (by kernel_rfl) rfl (by decide)
theorem fV_one (l : List Sl) : ∀ u ∈ fV l, u.oneCell' = true := by
  intro u hu
  obtain ⟨c, _, rfl⟩ := List.mem_map.1 hu
  rfl
theorem open_specJ {first many each : Nat} {hds : List (Option Hd)} {Ls : List Nat} {rsf : Nat → List Rec} {tl : Nat → List UInt8} {pl : PL}
    (hs : Sat H S (dsk d D :: R)) (hdn : D.down = false) (hm : 2 ≤ many) (hm2 : first + many ≤ 32) (hm3 : many < 20) (he : 64 ≤ each) (he2 : each ≤ 1048576) (hl : hds.length = many)
    (hok : ∀ i, i < many → HOk (D.f (first + i)).b ((hds[i]?).getD none)) (hperm : (ixs hds many).Perm Ls) (hstr : Ls.Pairwise fun a b => serOf hds a < serOf hds b)
    (hseg : ∀ k (h : k < Ls.length), ((D.f (first + Ls[k])).b = pbs ((rsf Ls[k]).map Rec.par) ++ tl Ls[k] ∧ (∀ r ∈ rsf Ls[k], r.ok) ∧ Tail (tl Ls[k]) ∧ (rsf Ls[k]).length < 30000) ∧ (tl Ls[k] = [] ∨ k + 1 = Ls.length))
    (hrun : readAll true ⟨0, 0, []⟩ (Ls.map rsf) = some pl)
    {K : Value → Heap → Prop} (hK : ∀ jb g H' S' X, PH.le S S' → g.pure = pl → eok S' g.es → X = openedR (tidyK first (pnOf Ls rsf) (fun n => (D.f (first + n)).b.length) (fun n => decide (n ∈ Ls)) many (D, ⟨d, first, many, each, g, segsOf first hds Ls, false⟩)) (decide (Ls = [])) →
      Sat H' S' (jA jb X.2 :: dsk d X.1 :: R) → K (if X.2.broken = true then .tuple #[.pointer none, .int .i64 70] else .tuple #[.pointer (some ⟨jb, 0, none⟩), .int .i64 0]) H') :
    CallsH Tryz.prog 11 #[.pointer (some ⟨d, 0, none⟩), .int .i64 (first : Int), .int .i64 (many : Int), .int .i64 (each : Int)] H K := by
  apply vc11
  have hfit := dsk_len hs
  refine down_spec hs ⟨_, rfl, ?_⟩
  rw [hdn]
  refine CondP.of (fun hc => by cases hc) fun _ => ?_
  refine ⟨fun t h => t = false ∧ h = H, ?_, ?_⟩
  rotate_left
  · have e1 : IntKind.i64.wrap (32 - (many : Int)) = ((32 - many : Nat) : Int) := by rw [i64_in (by omega) (by omega)]; omega
    rw [e1]
    refine CondP.of (fun hc => by simp at hc; omega) fun _ => CondP.of (fun hc => by simp at hc; omega) fun _ => CondP.of (fun hc => by simp at hc; omega) fun _ => CondP.of (fun hc => by simp at hc; omega) fun _ => CondP.of (fun hc => by simp at hc; omega) fun _ => ⟨?_, rfl⟩
    simp; omega
  rintro t h2 ⟨rfl, rfl⟩ _
  refine CondP.of (fun hc => by cases hc) fun _ => ?_
  intro b1 h3 f3 b2 h4 f4
  obtain ⟨J00, hJ00⟩ : ∃ J00 : Jn, J00 = ⟨d, first, many, each, ⟨0, 0, []⟩, [], false⟩ := ⟨_, rfl⟩
  have hs3 : Sat h3 S (lst b1 97 (jcs J00 ⟨none, 0, 0⟩ ⟨none, 0, 0⟩) :: dsk d D :: R) := by rw [hJ00]; exact hs.fresh f3
  have hs3 : Sat h3 S (jA b1 J00 :: dsk d D :: R) := by
    have h1 := own.new 107 5 (own.new 85 3 hs3)
    have h2 := h1.sel [2, 1, 0]
    refine jA_shut (ve := ⟨none, 0, 0⟩) (vs := ⟨none, 0, 0⟩) ?_
    rw [hJ00] at h2 ⊢; exact h2
  have hs4 : Sat h4 S (lst b2 33 [] :: jA b1 J00 :: dsk d D :: R) := hs3.fresh f4
  have hs4 := own.ofLst (sz := 1) (n := 0) (c := 0) (xs := []) hs4 rfl (Nat.le_refl _) (by decide) rfl
  refine ⟨fun x n h => ∃ k : Nat, n = k ∧ k ≤ many ∧ ∃ (S' : PH) (vs : List Sl), PH.le S S' ∧ vs.length = k ∧ (∀ i (h : i < vs.length), RdB S' vs[i] (D.f (first + i)).b) ∧ Sat h S' (own 33 1 x (fV vs) :: jA b1 J00 :: dsk d D :: R), fun _ n _ => many - n.toNat, ⟨0, rfl, Nat.zero_le _, S, [], PH.le.refl _, rfl, (fun i h => by simp at h), hs4⟩, ?_⟩
  rintro x n h5 ⟨k, rfl, hk, S1, vs, hS1, hvl, hvs, hs5⟩ _
  have hxl := (own.len hs5).1
  simp only [fV, List.length_map, Nat.mul_one] at hxl
  refine CondP.of (fun hc => ?_) (fun hc => ?_)
  · have hc : k < many := by simp at hc; omega
    rw [i64_add (by omega)]
    refine read_spec (i := first + k) (by omega) (hs5.sel [2]) fun x2 h6 S2 hS2 hx2 hs6 => ⟨x2, rfl, ?_⟩
    intro b3 h7 f7
    have hs7 : Sat h7 S2 (lst b3 33 (fV [x2]) :: dsk d D :: own 33 1 x (fV vs) :: jA b1 J00 :: R) := hs6.fresh f7
    refine append_one el98 (v := x) (xs := fV vs) (hs7.sel [0, 1]) rfl (fV_one _) (by omega) (by unfold maxLen; omega) fun v' h8 hv' hs8 => ?_
    rw [i64_succ (by omega)]
    refine ⟨⟨k + 1, rfl, hc, S2, vs ++ [x2], hS1.trans hS2, by simp [hvl], fun i h => ?_, ?_⟩, ?_⟩
    · rcases Nat.lt_or_ge i vs.length with h1 | h1
      · rw [List.getElem_append_left h1]; exact (hvs i h1).mono hS2
      · have : i = vs.length := by simp at h; omega
        subst this
        rw [List.getElem_append_right (Nat.le_refl _)]
        simp only [Nat.sub_self, List.getElem_cons_zero]
        rw [hvl]; exact hx2
    · have e : fV vs ++ fV [x2] = fV (vs ++ [x2]) := by simp [fV]
      rw [e] at hs8
      exact hs8.sel [0, 1]
    · show many - (k + 1) < many - k; omega
  have hc : k = many := by simp at hc; omega
  subst hc
  obtain ⟨S2, q1, q2, hs6⟩ := own.fixd hs5
  have hS2 := hS1.trans q1
  have hvs2 : ∀ i (h : i < vs.length), RdB S2 vs[i] (D.f (first + i)).b := fun i h => (hvs i h).mono q1
  have hLs : ∀ n ∈ Ls, n < k ∧ isSeg hds n = true := fun n hn => mem_ixs.1 (hperm.symm.subset hn)
  have hLl : Ls.length ≤ k := by rw [← hperm.length_eq]; exact ixs_len hds k
  have hpo : ∀ n, n ∈ Ls → (pnOf Ls rsf n) = (pbs ((rsf n).map Rec.par)).length := fun n hn => by rw [pnOf, if_pos hn]
  refine scan_spec (vs := vs) (hds := hds) (Ls := Ls) (rsf := rsf) (tl := tl) (pl := pl) hs6 q2 (by omega) (by omega) (fun i hi => ?_) (by rw [hvl]; exact hperm) hstr (fun i hi h2 => ?_) hrun fun y z g h9 S3 hS3 hg hge hs7 => ⟨_, _, ⟨none, 0, 0⟩, z, y, _, rfl, ?_⟩
  · have h1 := hok i (by omega)
    have h2 := hvs2 i hi
    have h3 := hfit (first + i) (by omega)
    cases hh : (hds[i]?).getD none with
    | none => rw [hh] at h1; exact ⟨_, h2, h1⟩
    | some hd =>
      rw [hh] at h1
      obtain ⟨h4, rest, h5⟩ := h1
      rw [h5] at h2 h3
      refine ⟨h4, rest, h2, ?_⟩
      rw [List.length_append] at h3; omega
  · obtain ⟨⟨g1, g2, g3, g4⟩, g5⟩ := hseg i hi
    have h3 := hvs2 _ h2
    have h4 := hfit (first + Ls[i]) (by omega)
    have h5 := RdB.len h3
    rw [g1] at h3
    exact ⟨⟨h3, g2, g3, by omega, g4⟩, g5⟩
  intro b4 h10 f10
  have hs8 := hs7.fresh f10
  refine Sat.store (T := 94) (l := [.int .u64 0, .int .u64 0, .slice none 0 0, .slice none 0 0]) hs8 (Nat.le_refl _) fun h11 hs9 => ?_
  have hs9 : Sat h11 S3 (lst b4 94 (lgV g.fi g.ft z) :: ownE z g.es :: ownI y Ls :: jA b1 J00 :: dsk d D :: R) := hs9
  refine CondP.of (fun hc => by simp at hc) fun _ => ⟨_, _, ⟨none, 0, 0⟩, z, hs9.cells 0 rfl, ?_⟩
  obtain ⟨ve, vs', hs10⟩ := jA_open (hs9.sel [3])
  refine set_log (S := S3) (J := J00) (ve := ve) (vs := vs') (vs' := z) (g := g) (R := ownE ve J00.log.es :: lst b4 94 (lgV g.fi g.ft z) :: ownI y Ls :: dsk d D :: R) (hs10.sel [4, 0, 1]) fun h12 hs11 => ?_
  have hs11 : Sat h12 S3 (jA b1 ⟨d, first, k, each, g, segsOf first hds (Ls.take 0), false⟩ :: ownI y Ls :: dsk d D :: R) := by
    have := (hs11.del 1).del 1
    rw [hJ00] at this; exact this
  have hyl : y.l = Ls.length := (ownI.len (hs11.pick 1 rfl)).1
  have hfvl : x.l = k := by omega
  refine ⟨fun n h => ∃ m : Nat, n = m ∧ m ≤ Ls.length ∧ ∃ S', PH.le S3 S' ∧ Sat h S' (jA b1 ⟨d, first, k, each, g, segsOf first hds (Ls.take m), false⟩ :: ownI y Ls :: dsk d D :: R), fun n _ => Ls.length - n.toNat, ⟨0, rfl, Nat.zero_le _, S3, PH.le.refl _, hs11⟩, ?_⟩
  rintro n h13 ⟨m, rfl, hm', S4, hS4, hs12⟩ _
  refine CondP.of (fun hc => ?_) (fun hc => ?_)
  · have hc : m < Ls.length := by simp at hc; omega
    obtain ⟨gb, ga, gc⟩ := ownI.at (hs12.pick 1 rfl) hc
    obtain ⟨hln, hsg⟩ := hLs _ (List.getElem_mem hc)
    refine ⟨⟨by omega, by omega⟩, NilP.of ga ⟨_, gc m hc, ⟨by omega, by omega⟩, ?_⟩⟩
    obtain ⟨fb, fo, fa, fc⟩ := Rd.at (q2.mono (hS3.trans hS4)) hs12 (by omega)
    have hln' : Ls[m] < vs.length := by omega
    refine NilP.of fa ⟨vs[Ls[m]], by have := fc.get Ls[m] (.slice vs[Ls[m]].a vs[Ls[m]].l vs[Ls[m]].c) (by simp [fV, hln']); simpa using this, ?_⟩
    have h1 := hok _ hln
    have h2 := (hvs2 _ hln').mono (hS3.trans hS4)
    have h3 := hfit (first + Ls[m]) (by omega)
    cases hh : (hds[Ls[m]]?).getD none with
    | none => rw [isSeg, hh] at hsg; cases hsg
    | some hd =>
      rw [hh] at h1
      obtain ⟨k1, rest, k2⟩ := h1
      rw [k2] at h2 h3
      rw [List.length_append] at h3
      refine headOf_ok hs12 h2 k1 (by omega) fun h14 S5 hS5 hs13 => ⟨_, _, _, _, _, rfl, ?_⟩
      intro b7 h15 f15
      have hs14 := hs13.fresh f15
      refine Sat.store (T := 103) (l := [.int .u64 0, .bool false, .int .u64 0, .int .u64 0]) hs14 (Nat.le_refl _) fun h16 hs15 => ?_
      have hs15 : Sat h16 S5 (lst b7 103 (hdV hd) :: jA b1 ⟨d, first, k, each, g, segsOf first hds (Ls.take m), false⟩ :: ownI y Ls :: dsk d D :: R) := hs15
      obtain ⟨ve2, vs2, hs16⟩ := jA_open (hs15.sel [1])
      refine ⟨vs2, hs16.cell 8 rfl, _, _, _, _, (hs16.pick 3 rfl).cells 0 rfl, ?_⟩
      rw [i64_add (by omega)]
      intro b8 h17 f17
      have hs17 := hs16.fresh f17
      have hs17 : Sat h17 S5 (lst b8 107 (segV1 ⟨first + Ls[m], hd⟩) :: lst b1 97 (jcs ⟨d, first, k, each, g, segsOf first hds (Ls.take m), false⟩ ve2 vs2) :: ownE ve2 g.es :: ownS vs2 (segsOf first hds (Ls.take m)) :: lst b7 103 (hdV hd) :: ownI y Ls :: dsk d D :: R) := hs17
      refine ⟨hs17.swap.cell 8 rfl, ?_⟩
      have hvl2 := (ownS.len (hs17.pick 3 rfl)).1
      have hsl2 : (segsOf first hds (Ls.take m)).length = m := by simp [segsOf]; omega
      refine append_one el95 (v := vs2) (xs := segV (segsOf first hds (Ls.take m))) (hs17.sel [0, 2]) rfl (by intro u hu; simp [segV1, hdV] at hu; rcases hu with rfl | rfl | rfl | rfl | rfl <;> rfl) (by omega) (by unfold maxLen; omega) fun v' h18 hv' hs18 => ?_
      have e3 : segV (segsOf first hds (Ls.take m)) ++ segV1 ⟨first + Ls[m], hd⟩ = segV (segsOf first hds (Ls.take (m + 1))) := by
        have : hdAt hds Ls[m] = hd := by rw [hdAt, hh]; rfl
        rw [List.take_succ_eq_append_getElem hc, segsOf, segsOf, List.map_append, List.map_cons, List.map_nil, this]; simp [segV]
      rw [e3] at hs18
      refine set_segs (S := S5) (J := ⟨d, first, k, each, g, segsOf first hds (Ls.take m), false⟩) (ve := ve2) (vs := vs2) (vs' := v') (l := segsOf first hds (Ls.take (m + 1))) hs18 fun h19 hs19 => ?_
      rw [i64_succ (by omega)]
      refine ⟨⟨m + 1, rfl, hc, S5, hS4.trans hS5, hs19.del 1⟩, ?_⟩
      show Ls.length - (m + 1) < Ls.length - m; omega
  have hc : m = Ls.length := by simp at hc; omega
  subst hc
  rw [List.take_length] at hs12
  obtain ⟨J0, hJ0⟩ : ∃ J0 : Jn, J0 = ⟨d, first, k, each, g, segsOf first hds Ls, false⟩ := ⟨_, rfl⟩
  have hK := fun jb' H' S' X => hK jb' g H' S' X
  rw [← hJ0] at hs12
  simp only [← hJ0] at hK
  obtain ⟨tk, htk⟩ : ∃ tk : Nat → Dk × Jn, tk = fun i => tidyK first (pnOf Ls rsf) (fun n => (D.f (first + n)).b.length) (fun n => decide (n ∈ Ls)) i (D, J0) := ⟨_, rfl⟩
  have htf : ∀ i, (tk i).2.d = d ∧ (tk i).2.segs = segsOf first hds Ls ∧ (tk i).2.first = first ∧ (tk i).2.many = k := fun i => by
    obtain ⟨h1, h2, h3, h4, h5, h6⟩ := tidyK_facts first (pnOf Ls rsf) (fun n => (D.f (first + n)).b.length) (fun n => decide (n ∈ Ls)) (D, J0) i
    rw [htk]
    exact ⟨by rw [h1, hJ0], by rw [h2, hJ0], by rw [h4, hJ0], by rw [h5, hJ0]⟩
  have hSall : PH.le S S4 := (hS2.trans hS3).trans hS4
  refine ⟨fun n h => ∃ i : Nat, n = i ∧ i ≤ k ∧ ∃ S', PH.le S4 S' ∧ Sat h S' (jA b1 (tk i).2 :: dsk d (tk i).1 :: ownI y Ls :: R), fun n _ => k - n.toNat, ⟨0, rfl, Nat.zero_le _, S4, PH.le.refl _, by rw [htk]; exact hs12.sel [0, 1]⟩, ?_⟩
  rintro n h20 ⟨i, rfl, hi, S5, hS5, hs13⟩ _
  refine CondP.of (fun hc => ?_) (fun hc => ?_)
  · have hc : i < k := by simp at hc; omega
    refine ⟨⟨by omega, by omega⟩, ?_⟩
    obtain ⟨fb, fo, fa, fc⟩ := Rd.at (q2.mono ((hS3.trans hS4).trans hS5)) hs13 (by omega)
    have hi' : i < vs.length := by omega
    have hcell : cellH h20 fb (fo + (i : Int).toNat) = some (.slice vs[i].a vs[i].l vs[i].c) := by
      have := fc.get i (.slice vs[i].a vs[i].l vs[i].c) (by simp [fV, hi']); simpa using this
    refine NilP.of fa ⟨vs[i], hcell, contains_spec (hs13.sel [2]) (by omega) ⟨_, rfl, hcell, ?_⟩⟩
    rw [i64_add (by omega)]
    have hvi := (hvs2 _ hi').mono ((hS3.trans hS4).trans hS5)
    have hvil := RdB.len hvi
    have hfi := hfit (first + i) (by omega)
    have hs14 : Sat h20 S5 (jA b1 (tk i).2 :: dsk (tk i).2.d (tk i).1 :: ownI y Ls :: R) := by rw [(htf i).1]; exact hs13
    have hnext : ∀ (h22 : Heap) (S6 : PH), PH.le S5 S6 → Sat h22 S6 (jA b1 (tk (i + 1)).2 :: dsk (tk i).2.d (tk (i + 1)).1 :: ownI y Ls :: R) →
        (∃ i' : Nat, IntKind.i64.wrap ((i : Int) + 1) = i' ∧ i' ≤ k ∧ ∃ S', PH.le S4 S' ∧ Sat h22 S' (jA b1 (tk i').2 :: dsk d (tk i').1 :: ownI y Ls :: R)) ∧ k - (IntKind.i64.wrap ((i : Int) + 1)).toNat < k - (i : Int).toNat := by
      intro h22 S6 hS6 hs15
      rw [i64_succ (by omega)]
      rw [(htf i).1] at hs15
      refine ⟨⟨i + 1, rfl, hc, S6, hS5.trans hS6, hs15⟩, ?_⟩
      show k - (i + 1) < k - i; omega
    have hstep : tk (i + 1) = (tk i).2.tidy (tk i).1 (first + i) (pnOf Ls rsf i) (D.f (first + i)).b.length (decide (i ∈ Ls)) := by rw [htk]; rfl
    by_cases hin : i ∈ Ls
    · obtain ⟨kk, hkk, hke⟩ := List.getElem_of_mem hin
      obtain ⟨⟨g1, g2, g3, g4⟩, g5⟩ := hseg kk hkk
      rw [hke] at g1 g2 g3 g4
      rw [g1] at hvi
      refine tidy_spec (ps := (rsf i).map Rec.par) (t := tl i) hs14 (by omega) hvi (fun _ p hp => by obtain ⟨r, hr, rfl⟩ := List.mem_map.1 hp; exact Rec.pok (g2 r hr)) (fun _ => g3) (by omega) fun h22 S6 hS6 hs15 => ⟨rfl, hnext h22 S6 hS6 ?_⟩
      rw [hstep, hpo i hin, ← hvil]; exact hs15
    · refine tidy_spec (ps := []) (t := (D.f (first + i)).b) hs14 (by omega) hvi (fun h => absurd (of_decide_eq_true h) hin) (fun h => absurd (of_decide_eq_true h) hin) (by omega) fun h22 S6 hS6 hs15 => ⟨rfl, hnext h22 S6 hS6 ?_⟩
      have hp0 : pnOf Ls rsf i = 0 := by rw [pnOf, if_neg hin]
      rw [hstep, hp0, ← hvil]; exact hs15
  have hc : i = k := by simp at hc; omega
  subst hc
  obtain ⟨t1, t2, t3, t4⟩ := htf i
  have hs14 : Sat h20 S5 (jA b1 (tk i).2 :: dsk (tk i).2.d (tk i).1 :: ownI y Ls :: R) := by rw [t1]; exact hs13
  have hKK := fun X H' S' (h1 : PH.le S5 S') h2 h3 => hK b1 H' S' X ((hSall.trans hS5).trans h1) hg (hge.mono ((hS4.trans hS5).trans h1)) h2 h3
  have htk' : tidyK first (pnOf Ls rsf) (fun n => (D.f (first + n)).b.length) (fun n => decide (n ∈ Ls)) i (D, J0) = tk i := by rw [htk]
  rw [htk'] at hKK
  have hfl : ∀ z ∈ segsOf first hds Ls, z.file < 32 := by
    intro z hz
    obtain ⟨n, hn, rfl⟩ := List.mem_map.1 hz
    have := (hLs n hn).1
    show first + n < 32; omega
  have hsl : (segsOf first hds Ls).length = Ls.length := by simp [segsOf]
  have fin : ∀ (X : Dk × Jn) (h24 : Heap) (S6 : PH), PH.le S5 S6 → X = openedR (tk i) (decide (Ls = [])) → Sat h24 S6 (jA b1 X.2 :: dsk d X.1 :: ownI y Ls :: R) →
      ∃ t8 : Bool, cellH h24 b1 9 = some (.bool t8) ∧ CondP t8 (K (.tuple #[.pointer none, .int .i64 70]) h24) (K (.tuple #[.pointer (some ⟨b1, 0, none⟩), .int .i64 0]) h24) := by
    intro X h24 S6 hS6 hX hs15
    have h1 := hKK X h24 S6 hS6 hX (hs15.del 2)
    obtain ⟨ve, vs, hs16⟩ := jA_open hs15
    refine ⟨_, hs16.cell 9 rfl, CondP.of (fun hc => ?_) (fun hc => ?_)⟩
    · rw [if_pos hc] at h1; exact h1
    · rw [if_neg (by rw [hc]; simp)] at h1; exact h1
  refine CondP.of (fun hc => ?_) (fun hc => ?_)
  · have hnil : Ls = [] := List.eq_nil_of_length_eq_zero (by simp at hc; omega)
    have hX : openedR (tk i) (decide (Ls = [])) = ((tk i).2.start (tk i).1 ⟨0, false, 0, 0⟩).2.2.idle ((tk i).2.start (tk i).1 ⟨0, false, 0, 0⟩).2.1 := by
      rw [openedR, if_pos (decide_eq_true hnil)]
    have hfx : (tk i).2.fix ⟨0, false, 0, 0⟩ = ⟨0, false, 0, 0⟩ := by rw [Jn.fix, t2, hnil]; rfl
    refine start_spec (h := ⟨0, false, 0, 0⟩) hs14 (by rw [t3, t4]; omega) (by rw [t2, hsl]; omega) (by rw [hfx]; exact ⟨Nat.zero_le _, Nat.zero_le _, Nat.zero_le _⟩) fun h23 S6 hS6 hs15 => ⟨_, rfl, ?_⟩
    obtain ⟨c1, c2, c3, c4, c5, c6⟩ := start_cases (tk i).2 (tk i).1 ⟨0, false, 0, 0⟩
    rw [← c1] at hs15
    refine idle_any hs15 ?_ ?_ fun h24 hs16 => ⟨rfl, ?_⟩
    · intro z hz
      rcases c6 with ⟨_, h⟩ | ⟨n, hn, _, h⟩
      · rw [h, t2] at hz; exact hfl z hz
      · rw [h, t2] at hz
        rcases List.mem_append.1 hz with h | h
        · exact hfl z h
        · simp only [List.mem_singleton] at h
          subst h; exact free_lt (by rw [t3, t4]; omega) hn
    · rcases c6 with ⟨_, h⟩ | ⟨n, hn, _, h⟩
      · rw [h, t2, hsl]; omega
      · rw [h, List.length_append, t2, hsl]; simp; omega
    · exact fin _ h24 S6 hS6 hX.symm (by rw [c1, t1] at hs16; exact hs16)
  · have hnil : ¬ Ls = [] := by intro h; rw [h] at hyl; simp [hyl] at hc
    have hX : openedR (tk i) (decide (Ls = [])) = (tk i).2.idle (tk i).1 := by
      rw [openedR, if_neg (by rw [decide_eq_false hnil]; simp)]
    refine idle_any hs14 (by rw [t2]; exact hfl) (by rw [t2, hsl]; omega) fun h25 hs15 => ⟨rfl, ?_⟩
    exact fin _ h25 S5 (PH.le.refl _) hX.symm (by rw [t1] at hs15; exact hs15)
end
end Go.Sx.Tryz
namespace Go.Sx.Tryz
open Go Go.Sx Go.Proofs
set_option maxRecDepth 100000
set_option linter.unusedVariables false
noncomputable def c16 : Code := (Tryz.f16.body).getD .skip
def a16 : Ann := (.seq (.seq .leaf (.br .leaf .leaf)) (.seq (.seq .leaf (.inn (.loop [(9, .one (.i .i64))] (.seq .leaf (.seq (.br .leaf .leaf) (.seq (.inn (.seq .leaf (.seq .leaf (.seq .leaf (.seq (.seq .leaf (.br (.reg (.q 0 (.q 1 (.q 2 (.q 3 (.q 4 (.q 5 (.q 6 (.q 7 (.q 8 (.q 9 (.q 10 (.q 11 (.q 12 (.q 13 (.q 14 (.q 15 (.q 16 (.q 17 (.q 18 (.q 19 (.q 20 (.q 21 (.fin)))))))))))))))))))))))) .leaf)) .leaf))))) .leaf)))))) .leaf))
theorem ok16 : okC tab 69 true c16 a16 = true := by kernel_rfl
theorem vc16 (d_b d_o : Nat) (keep_ : Sl) (h : Heap) (R : Value → Heap → Prop)
  (hv : ∃ (I1 : Int → Heap → Prop) (mu1 : Int → Heap → Nat), I1 0 h ∧ (∀ n1 : Int, ∀ h1, I1 n1 h1 → ∀ _ : Env,
   CondP (decide ((n1 : Int) < 32)) (
   ((0 : Int) ≤ n1 ∧ (n1 : Int) < (32 : Int)) ∧
   Nat.ble 2 32 = true ∧ ∃ n2 : Int, cellH h1 d_b (d_o + n1.toNat * 2 + 1) = some (.int .i64 n2) ∧
   CondP (decide ((((keep_.l : Nat) : Int) : Int) > 0)) (
   (((keep_.l : Nat) : Int) : Int) ≠ 0 ∧
   ((0 : Int) ≤ Int.tmod n1 ((keep_.l : Nat) : Int) ∧ (Int.tmod n1 ((keep_.l : Nat) : Int) : Int) < ((keep_.l : Nat) : Int)) ∧
   NilP keep_.a (fun b1 o1 =>
   ∃ n3 : Int, cellH h1 b1 (o1 + (Int.tmod n1 ((keep_.l : Nat) : Int)).toNat) = some (.int .i64 n3) ∧
   ∃ x1 : Sl, cellH h1 d_b (d_o + n1.toNat * 2) = some (.slice x1.a x1.l x1.c) ∧
   ∃ n4 : Int, cellH h1 d_b (d_o + n1.toNat * 2 + 1) = some (.int .i64 n4) ∧
   ∃ x2 : Sl, cellH h1 d_b (d_o + n1.toNat * 2) = some (.slice x2.a x2.l x2.c) ∧
   ((0 : Int) ≤ (0 : Int) ∧ (0 : Int) ≤ IntKind.i64.wrap (n2 + (if (IntKind.i64.wrap (((x1.l : Nat) : Int) - n4)) < (if 0 > n3 then 0 else n3) then (IntKind.i64.wrap (((x1.l : Nat) : Int) - n4)) else (if 0 > n3 then 0 else n3))) ∧ IntKind.i64.wrap (n2 + (if (IntKind.i64.wrap (((x1.l : Nat) : Int) - n4)) < (if 0 > n3 then 0 else n3) then (IntKind.i64.wrap (((x1.l : Nat) : Int) - n4)) else (if 0 > n3 then 0 else n3))) ≤ IntKind.i64.wrap (n2 + (if (IntKind.i64.wrap (((x1.l : Nat) : Int) - n4)) < (if 0 > n3 then 0 else n3) then (IntKind.i64.wrap (((x1.l : Nat) : Int) - n4)) else (if 0 > n3 then 0 else n3))) ∧ IntKind.i64.wrap (n2 + (if (IntKind.i64.wrap (((x1.l : Nat) : Int) - n4)) < (if 0 > n3 then 0 else n3) then (IntKind.i64.wrap (((x1.l : Nat) : Int) - n4)) else (if 0 > n3 then 0 else n3))) ≤ ((x2.c : Nat) : Int)) ∧
   CanSt h1 d_b (d_o + n1.toNat * 2) [.slice (subA x2.a 0 ((IntKind.i64.wrap (n2 + (if (IntKind.i64.wrap (((x1.l : Nat) : Int) - n4)) < (if 0 > n3 then 0 else n3) then (IntKind.i64.wrap (((x1.l : Nat) : Int) - n4)) else (if 0 > n3 then 0 else n3)))).toNat) 1) ((IntKind.i64.wrap (n2 + (if (IntKind.i64.wrap (((x1.l : Nat) : Int) - n4)) < (if 0 > n3 then 0 else n3) then (IntKind.i64.wrap (((x1.l : Nat) : Int) - n4)) else (if 0 > n3 then 0 else n3)))).toNat) ((IntKind.i64.wrap (n2 + (if (IntKind.i64.wrap (((x1.l : Nat) : Int) - n4)) < (if 0 > n3 then 0 else n3) then (IntKind.i64.wrap (((x1.l : Nat) : Int) - n4)) else (if 0 > n3 then 0 else n3)))).toNat)] ∧ ∀ h2, Stored h1 d_b (d_o + n1.toNat * 2) [.slice (subA x2.a 0 ((IntKind.i64.wrap (n2 + (if (IntKind.i64.wrap (((x1.l : Nat) : Int) - n4)) < (if 0 > n3 then 0 else n3) then (IntKind.i64.wrap (((x1.l : Nat) : Int) - n4)) else (if 0 > n3 then 0 else n3)))).toNat) 1) ((IntKind.i64.wrap (n2 + (if (IntKind.i64.wrap (((x1.l : Nat) : Int) - n4)) < (if 0 > n3 then 0 else n3) then (IntKind.i64.wrap (((x1.l : Nat) : Int) - n4)) else (if 0 > n3 then 0 else n3)))).toNat) ((IntKind.i64.wrap (n2 + (if (IntKind.i64.wrap (((x1.l : Nat) : Int) - n4)) < (if 0 > n3 then 0 else n3) then (IntKind.i64.wrap (((x1.l : Nat) : Int) - n4)) else (if 0 > n3 then 0 else n3)))).toNat)] h2 →
   CanSt h2 d_b (d_o + n1.toNat * 2 + 1) [.int .i64 (IntKind.i64.wrap (n2 + (if (IntKind.i64.wrap (((x1.l : Nat) : Int) - n4)) < (if 0 > n3 then 0 else n3) then (IntKind.i64.wrap (((x1.l : Nat) : Int) - n4)) else (if 0 > n3 then 0 else n3))))] ∧ ∀ h3, Stored h2 d_b (d_o + n1.toNat * 2 + 1) [.int .i64 (IntKind.i64.wrap (n2 + (if (IntKind.i64.wrap (((x1.l : Nat) : Int) - n4)) < (if 0 > n3 then 0 else n3) then (IntKind.i64.wrap (((x1.l : Nat) : Int) - n4)) else (if 0 > n3 then 0 else n3))))] h3 →
   I1 (IntKind.i64.wrap (n1 + 1)) h3 ∧ mu1 (IntKind.i64.wrap (n1 + 1)) h3 < mu1 n1 h1)) (
   ∃ x3 : Sl, cellH h1 d_b (d_o + n1.toNat * 2) = some (.slice x3.a x3.l x3.c) ∧
   ((0 : Int) ≤ (0 : Int) ∧ (0 : Int) ≤ n2 ∧ n2 ≤ n2 ∧ n2 ≤ ((x3.c : Nat) : Int)) ∧
   CanSt h1 d_b (d_o + n1.toNat * 2) [.slice (subA x3.a 0 n2.toNat 1) n2.toNat n2.toNat] ∧ ∀ h4, Stored h1 d_b (d_o + n1.toNat * 2) [.slice (subA x3.a 0 n2.toNat 1) n2.toNat n2.toNat] h4 →
   CanSt h4 d_b (d_o + n1.toNat * 2 + 1) [.int .i64 n2] ∧ ∀ h5, Stored h4 d_b (d_o + n1.toNat * 2 + 1) [.int .i64 n2] h5 →
   I1 (IntKind.i64.wrap (n1 + 1)) h5 ∧ mu1 (IntKind.i64.wrap (n1 + 1)) h5 < mu1 n1 h1)) (
   CanSt h1 d_b (d_o + 66) [.bool false] ∧ ∀ h6, Stored h1 d_b (d_o + 66) [.bool false] h6 →
   CanSt h6 d_b (d_o + 64) [.bool false] ∧ ∀ h7, Stored h6 d_b (d_o + 64) [.bool false] h7 →
   CanSt h7 d_b (d_o + 65) [.int .i64 0] ∧ ∀ h8, Stored h7 d_b (d_o + 65) [.int .i64 0] h8 →
   R (.tuple #[]) h8))) :
  CallsH Tryz.prog 16 #[.pointer (some ⟨d_b, d_o, none⟩), .slice keep_.a keep_.l keep_.c] h R :=
  calls_of_vc tabOk mixed Tryz.func16 (c := c16) (by kernel_rfl) (n := 69) rfl (rs := []) (by kernel_rfl) ok16 (args := [.pointer (some ⟨d_b, d_o, none⟩), .slice keep_.a keep_.l keep_.c]) (Nat.le_of_ble_eq_true rfl) (Eq.mpr (by kernel_rfl) hv)
end Go.Sx.Tryz
namespace Go.Sx.Tryz
open Go Go.Sx Go.Proofs
set_option linter.unusedVariables false
section
variable {H H' : Heap} {S : PH} {R : List Asn} {d : Nat} {D : Dk}
def inV (l : List Int) : List Value := l.map fun n => .int .i64 n
def crashN (keep : List Int) (i : Nat) (x : Fl) : Nat := if keep = [] then x.s else x.s + min (keep.getD (i % keep.length) 0).toNat (x.b.length - x.s)
def Fl.crash (keep : List Int) (i : Nat) (x : Fl) : Fl := ⟨x.b.take (crashN keep i x), crashN keep i x⟩
def Dk.crash (D : Dk) (keep : List Int) : Dk := { f := fun i => if i < 32 then (D.f i).crash keep i else D.f i, armed := false, fuse := 0, down := false }
def Dk.crashK (D : Dk) (keep : List Int) (k : Nat) : Dk := { D with f := fun i => if i < k then (D.f i).crash keep i else D.f i }
theorem crashK_succ (D : Dk) (keep : List Int) (k : Nat) : D.crashK keep (k + 1) = (D.crashK keep k).set k ((D.f k).crash keep k) := by
  unfold Dk.crashK Dk.set
  congr 1
  funext i
  unfold updF
  by_cases h : i = k
  · subst h; simp
  · simp only [h, if_false]
    by_cases h2 : i < k
    · rw [if_pos (by omega), if_pos h2]
    · rw [if_neg (by omega), if_neg h2]
theorem crash_spec {kv : Sl} {keep : List Int} (hs : Sat H S (dsk d D :: R)) (hk : Rd S kv 1 (inV keep)) (hkl : keep.length < 1000000) (hsy : ∀ i, i < 32 → (D.f i).s ≤ (D.f i).b.length)
    {K : Value → Heap → Prop} (hK : ∀ H', Sat H' S (dsk d (D.crash keep) :: R) → K (.tuple #[]) H') : CallsH Tryz.prog 16 #[.pointer (some ⟨d, 0, none⟩), .slice kv.a kv.l kv.c] H K := by
  apply vc16
  have hkvl : kv.l = keep.length := by have := hk.1; simp [inV] at this; omega
  have hfit := dsk_len hs
  refine ⟨fun n h => ∃ k : Nat, n = k ∧ k ≤ 32 ∧ Sat h S (dsk d (D.crashK keep k) :: R), fun n _ => 32 - n.toNat, ⟨0, rfl, by omega, by
    have : D.crashK keep 0 = D := by unfold Dk.crashK; simp
    rw [this]; exact hs⟩, ?_⟩
  rintro n h1 ⟨k, rfl, hkk, hs1⟩ _
  refine CondP.of (fun hc => ?_) (fun hc => ?_)
  · have hc : k < 32 := by simp at hc; omega
    have e0 : 0 + (k : Int).toNat * 2 = 2 * k := by simp; omega
    rw [e0]
    obtain ⟨cs, vs, hd, hs2⟩ := dsk_file hc hs1
    have hfk : (D.crashK keep k).f k = D.f k := by unfold Dk.crashK; simp
    have hl := fileLen hc hs2
    rw [hfk] at hl
    have hlc := (own.len hs2.swap).2
    have hsk := hsy k hc
    have hft := hfit k hc
    have hsyn := hd.syn k hc
    rw [hfk] at hsyn
    refine ⟨⟨by omega, by omega⟩, rfl, _, hs2.cell _ hsyn, ?_⟩
    have next : ∀ (m : Nat), m = crashN keep k (D.f k) → m ≤ (vs k).l → CanSt h1 d (2 * k) [.slice (subA (vs k).a 0 m 1) m m] ∧ ∀ h2, Stored h1 d (2 * k) [.slice (subA (vs k).a 0 m 1) m m] h2 →
        CanSt h2 d (2 * k + 1) [.int .i64 (m : Int)] ∧ ∀ h3, Stored h2 d (2 * k + 1) [.int .i64 (m : Int)] h3 → (∃ k' : Nat, IntKind.i64.wrap ((k : Int) + 1) = k' ∧ k' ≤ 32 ∧ Sat h3 S (dsk d (D.crashK keep k') :: R)) ∧ 32 - (IntKind.i64.wrap ((k : Int) + 1)).toNat < 32 - (k : Int).toNat := by
      intro m hm hml
      refine hs2.store (by simp [hd.len]; omega) fun h2 hs3 => ?_
      have hd1 := hd.putFile hc ⟨subA (vs k).a 0 m 1, m, m⟩ ((D.f k).b.take m) (by rw [List.length_take]; omega)
      refine hs3.store (by simp [hd1.len]; omega) fun h3 hs4 => ?_
      have hd2 := hd1.putSyn hc m
      rw [Dk.set_set, Dk.set_f] at hd2
      have hs5 := own.cut hs4.swap hml
      rw [bv, ← List.map_take, hfk] at hs5
      have hs6 := dsk_back (x := ⟨(D.f k).b.take m, m⟩) hc hd2 (hs5.swap)
      rw [i64_succ (by omega)]
      refine ⟨⟨k + 1, rfl, hc, ?_⟩, ?_⟩
      · rw [crashK_succ, Fl.crash, ← hm]; exact hs6
      · show 32 - (k + 1) < 32 - k; omega
    refine CondP.of (fun hc2 => ?_) (fun hc2 => ?_)
    · have hkp : 0 < keep.length := by simp at hc2; omega
      have hne : keep ≠ [] := by intro h; rw [h] at hkp; simp at hkp
      have em : Int.tmod (k : Int) ((kv.l : Nat) : Int) = ((k % keep.length : Nat) : Int) := by rw [hkvl]; rfl
      rw [em]
      simp only [Int.toNat_natCast]
      have hmlt : k % keep.length < keep.length := Nat.mod_lt _ hkp
      refine ⟨by omega, ⟨by omega, by omega⟩, ?_⟩
      obtain ⟨fb, fo, fa, fc⟩ := Rd.at hk hs1 (by omega)
      refine NilP.of fa ⟨keep[k % keep.length], by have := fc.get (k % keep.length) (.int .i64 keep[k % keep.length]) (by simp [inV, hmlt]); simpa using this, vs k, hs2.cell _ (hd.file k hc), _, hs2.cell _ hsyn, vs k, hs2.cell _ (hd.file k hc), ?_⟩
      have hcn : crashN keep k (D.f k) = (D.f k).s + min (keep[k % keep.length]).toNat ((D.f k).b.length - (D.f k).s) := by
        rw [crashN, if_neg hne, List.getD_eq_getElem?_getD, List.getElem?_eq_getElem hmlt]; rfl
      have e1 : IntKind.i64.wrap ((((vs k).l : Nat) : Int) - ((D.f k).s : Int)) = (((D.f k).b.length - (D.f k).s : Nat) : Int) := by rw [hl, i64_sub hsk (by omega)]
      rw [e1]
      have e2 : ∀ z : Int, IntKind.i64.wrap (((D.f k).s : Int) + (if (((D.f k).b.length - (D.f k).s : Nat) : Int) < (if 0 > z then 0 else z) then (((D.f k).b.length - (D.f k).s : Nat) : Int) else (if 0 > z then 0 else z))) = (((D.f k).s + min z.toNat ((D.f k).b.length - (D.f k).s) : Nat) : Int) := by
        intro z
        have : (if (((D.f k).b.length - (D.f k).s : Nat) : Int) < (if 0 > z then 0 else z) then (((D.f k).b.length - (D.f k).s : Nat) : Int) else (if 0 > z then 0 else z)) = ((min z.toNat ((D.f k).b.length - (D.f k).s) : Nat) : Int) := by
          split <;> split <;> omega
        rw [this, i64_add (by omega)]
      rw [e2, ← hcn]
      simp only [Int.toNat_natCast]
      have hle : crashN keep k (D.f k) ≤ (vs k).l := by rw [hcn, hl]; omega
      exact ⟨⟨by omega, by omega, by omega, by omega⟩, next _ rfl hle⟩
    · have hkp : keep = [] := List.eq_nil_of_length_eq_zero (by simp at hc2; omega)
      have hcn : crashN keep k (D.f k) = (D.f k).s := by rw [crashN, if_pos hkp]
      refine ⟨vs k, hs2.cell _ (hd.file k hc), ?_⟩
      simp only [Int.toNat_natCast]
      exact ⟨⟨by omega, by omega, by omega, by omega⟩, next _ hcn.symm (by omega)⟩
  · have hc : k = 32 := by simp at hc; omega
    subst hc
    obtain ⟨cs, vs, hd, hs2⟩ := dsk_open hs1
    refine hs2.store (by simp [hd.len]) fun h6 hs3 => ?_
    have hd1 := hd.putDown false
    refine hs3.store (by rw [Nat.zero_add, hd1.len]; simp) fun h7 hs4 => ?_
    have hd2 := hd1.putArmed false
    refine hs4.store (by rw [Nat.zero_add, hd2.len]; simp) fun h8 hs5 => hK h8 ?_
    have hd3 := hd2.putFuse 0 (by omega)
    exact dsk_shut hd3 hs5
end
end Go.Sx.Tryz
namespace Go.Sx.Tryz
open Go Go.Sx Go.Proofs
set_option maxRecDepth 100000
set_option linter.unusedVariables false
noncomputable def c154 : Code := (Tryz.f154.body).getD .skip
def a154 : Ann := (.seq .leaf (.seq .leaf (.seq .leaf (.seq (.seq .leaf (.inn (.loop [(5, .one (.i .u64)), (6, .one (.i .u64)), (7, .one (.i .i64))] (.seq (.join [(20, .one (.b))] .leaf (.br .leaf .leaf)) (.seq (.inn (.seq .leaf (.seq .leaf (.seq (.seq .leaf (.br (.seq .leaf .leaf) .leaf)) (.seq .leaf (.seq .leaf (.seq .leaf (.br (.seq (.seq .leaf (.br (.seq .leaf .leaf) .leaf)) (.seq .leaf (.seq .leaf .leaf))) .leaf)))))))) .leaf))))) (.seq .leaf .leaf)))))
theorem ok154 : okC tab 76 true c154 a154 = true := by kernel_rfl
theorem vc154 (r_b r_o : Nat) (most_ : Int) (h : Heap) (R : Value → Heap → Prop)
  (hv : ∃ (I1 : Int → Int → Int → Heap → Prop) (mu1 : Int → Int → Int → Heap → Nat), I1 0 1 0 h ∧ (∀ n1 : Int, ∀ n2 : Int, ∀ n3 : Int, ∀ h1, I1 n1 n2 n3 h1 → ∀ _ : Env,
   ∃ J1 : Bool → Heap → Prop, (∀ t1 : Bool, ∀ h2, J1 t1 h2 → ∀ _ : Env,
   CondP t1 (
   ∃ x1 : Sl, cellH h2 r_b r_o = some (.slice x1.a x1.l x1.c) ∧
   ((0 : Int) ≤ n3 ∧ (n3 : Int) < ((x1.l : Nat) : Int)) ∧
   NilP x1.a (fun b1 o1 =>
   ∃ n4 : Int, cellH h2 b1 (o1 + n3.toNat) = some (.int .u8 n4) ∧
   (128 : Int) ≠ 0 ∧
   CondP ((n3 : Int) == 9) (
   CondP (decide ((IntKind.u64.wrap (Int.tmod n4 128) : Int) > 1)) (
   CallsH Tryz.prog 176 #[.pointer (some ⟨r_b, r_o, none⟩)] h2 (fun r1 h3 => ∃ n5 : Int, r1 = .int .u64 n5 ∧
   R (.int .u64 n5) h3)) (
   CondP (decide ((n4 : Int) < 128)) (
   CondP (decide ((n3 : Int) > 0)) (
   CondP ((n4 : Int) == 0) (
   CallsH Tryz.prog 176 #[.pointer (some ⟨r_b, r_o, none⟩)] h2 (fun r2 h4 => ∃ n6 : Int, r2 = .int .u64 n6 ∧
   R (.int .u64 n6) h4)) (
   CondP (decide ((IntKind.u64.wrap (n1 + (IntKind.u64.wrap ((IntKind.u64.wrap (Int.tmod n4 128)) * n2))) : Int) > most_)) (
   CallsH Tryz.prog 176 #[.pointer (some ⟨r_b, r_o, none⟩)] h2 (fun r3 h5 => ∃ n7 : Int, r3 = .int .u64 n7 ∧
   R (.int .u64 n7) h5)) (
   ∃ x2 : Sl, cellH h2 r_b r_o = some (.slice x2.a x2.l x2.c) ∧
   ((0 : Int) ≤ IntKind.i64.wrap (n3 + 1) ∧ IntKind.i64.wrap (n3 + 1) ≤ ((x2.l : Nat) : Int)) ∧
   CanSt h2 r_b r_o [.slice (subA x2.a ((IntKind.i64.wrap (n3 + 1)).toNat) x2.c 1) (x2.l - ((IntKind.i64.wrap (n3 + 1)).toNat)) (x2.c - ((IntKind.i64.wrap (n3 + 1)).toNat))] ∧ ∀ h6, Stored h2 r_b r_o [.slice (subA x2.a ((IntKind.i64.wrap (n3 + 1)).toNat) x2.c 1) (x2.l - ((IntKind.i64.wrap (n3 + 1)).toNat)) (x2.c - ((IntKind.i64.wrap (n3 + 1)).toNat))] h6 →
   R (.int .u64 (IntKind.u64.wrap (n1 + (IntKind.u64.wrap ((IntKind.u64.wrap (Int.tmod n4 128)) * n2))))) h6))) (
   CondP (decide ((IntKind.u64.wrap (n1 + (IntKind.u64.wrap ((IntKind.u64.wrap (Int.tmod n4 128)) * n2))) : Int) > most_)) (
   CallsH Tryz.prog 176 #[.pointer (some ⟨r_b, r_o, none⟩)] h2 (fun r4 h7 => ∃ n8 : Int, r4 = .int .u64 n8 ∧
   R (.int .u64 n8) h7)) (
   ∃ x3 : Sl, cellH h2 r_b r_o = some (.slice x3.a x3.l x3.c) ∧
   ((0 : Int) ≤ IntKind.i64.wrap (n3 + 1) ∧ IntKind.i64.wrap (n3 + 1) ≤ ((x3.l : Nat) : Int)) ∧
   CanSt h2 r_b r_o [.slice (subA x3.a ((IntKind.i64.wrap (n3 + 1)).toNat) x3.c 1) (x3.l - ((IntKind.i64.wrap (n3 + 1)).toNat)) (x3.c - ((IntKind.i64.wrap (n3 + 1)).toNat))] ∧ ∀ h8, Stored h2 r_b r_o [.slice (subA x3.a ((IntKind.i64.wrap (n3 + 1)).toNat) x3.c 1) (x3.l - ((IntKind.i64.wrap (n3 + 1)).toNat)) (x3.c - ((IntKind.i64.wrap (n3 + 1)).toNat))] h8 →
   R (.int .u64 (IntKind.u64.wrap (n1 + (IntKind.u64.wrap ((IntKind.u64.wrap (Int.tmod n4 128)) * n2))))) h8))) (
   I1 (IntKind.u64.wrap (n1 + (IntKind.u64.wrap ((IntKind.u64.wrap (Int.tmod n4 128)) * n2)))) (IntKind.u64.wrap (n2 * 128)) (IntKind.i64.wrap (n3 + 1)) h2 ∧ mu1 (IntKind.u64.wrap (n1 + (IntKind.u64.wrap ((IntKind.u64.wrap (Int.tmod n4 128)) * n2)))) (IntKind.u64.wrap (n2 * 128)) (IntKind.i64.wrap (n3 + 1)) h2 < mu1 n1 n2 n3 h1))) (
   CondP (decide ((n4 : Int) < 128)) (
   CondP (decide ((n3 : Int) > 0)) (
   CondP ((n4 : Int) == 0) (
   CallsH Tryz.prog 176 #[.pointer (some ⟨r_b, r_o, none⟩)] h2 (fun r5 h9 => ∃ n9 : Int, r5 = .int .u64 n9 ∧
   R (.int .u64 n9) h9)) (
   CondP (decide ((IntKind.u64.wrap (n1 + (IntKind.u64.wrap ((IntKind.u64.wrap (Int.tmod n4 128)) * n2))) : Int) > most_)) (
   CallsH Tryz.prog 176 #[.pointer (some ⟨r_b, r_o, none⟩)] h2 (fun r6 h10 => ∃ n10 : Int, r6 = .int .u64 n10 ∧
   R (.int .u64 n10) h10)) (
   ∃ x4 : Sl, cellH h2 r_b r_o = some (.slice x4.a x4.l x4.c) ∧
   ((0 : Int) ≤ IntKind.i64.wrap (n3 + 1) ∧ IntKind.i64.wrap (n3 + 1) ≤ ((x4.l : Nat) : Int)) ∧
   CanSt h2 r_b r_o [.slice (subA x4.a ((IntKind.i64.wrap (n3 + 1)).toNat) x4.c 1) (x4.l - ((IntKind.i64.wrap (n3 + 1)).toNat)) (x4.c - ((IntKind.i64.wrap (n3 + 1)).toNat))] ∧ ∀ h11, Stored h2 r_b r_o [.slice (subA x4.a ((IntKind.i64.wrap (n3 + 1)).toNat) x4.c 1) (x4.l - ((IntKind.i64.wrap (n3 + 1)).toNat)) (x4.c - ((IntKind.i64.wrap (n3 + 1)).toNat))] h11 →
   R (.int .u64 (IntKind.u64.wrap (n1 + (IntKind.u64.wrap ((IntKind.u64.wrap (Int.tmod n4 128)) * n2))))) h11))) (
   CondP (decide ((IntKind.u64.wrap (n1 + (IntKind.u64.wrap ((IntKind.u64.wrap (Int.tmod n4 128)) * n2))) : Int) > most_)) (
   CallsH Tryz.prog 176 #[.pointer (some ⟨r_b, r_o, none⟩)] h2 (fun r7 h12 => ∃ n11 : Int, r7 = .int .u64 n11 ∧
   R (.int .u64 n11) h12)) (
   ∃ x5 : Sl, cellH h2 r_b r_o = some (.slice x5.a x5.l x5.c) ∧
   ((0 : Int) ≤ IntKind.i64.wrap (n3 + 1) ∧ IntKind.i64.wrap (n3 + 1) ≤ ((x5.l : Nat) : Int)) ∧
   CanSt h2 r_b r_o [.slice (subA x5.a ((IntKind.i64.wrap (n3 + 1)).toNat) x5.c 1) (x5.l - ((IntKind.i64.wrap (n3 + 1)).toNat)) (x5.c - ((IntKind.i64.wrap (n3 + 1)).toNat))] ∧ ∀ h13, Stored h2 r_b r_o [.slice (subA x5.a ((IntKind.i64.wrap (n3 + 1)).toNat) x5.c 1) (x5.l - ((IntKind.i64.wrap (n3 + 1)).toNat)) (x5.c - ((IntKind.i64.wrap (n3 + 1)).toNat))] h13 →
   R (.int .u64 (IntKind.u64.wrap (n1 + (IntKind.u64.wrap ((IntKind.u64.wrap (Int.tmod n4 128)) * n2))))) h13))) (
   I1 (IntKind.u64.wrap (n1 + (IntKind.u64.wrap ((IntKind.u64.wrap (Int.tmod n4 128)) * n2)))) (IntKind.u64.wrap (n2 * 128)) (IntKind.i64.wrap (n3 + 1)) h2 ∧ mu1 (IntKind.u64.wrap (n1 + (IntKind.u64.wrap ((IntKind.u64.wrap (Int.tmod n4 128)) * n2)))) (IntKind.u64.wrap (n2 * 128)) (IntKind.i64.wrap (n3 + 1)) h2 < mu1 n1 n2 n3 h1)))) (
   CallsH Tryz.prog 176 #[.pointer (some ⟨r_b, r_o, none⟩)] h2 (fun r8 h14 => ∃ n12 : Int, r8 = .int .u64 n12 ∧
   R (.int .u64 n12) h14))) ∧
   ∃ x6 : Sl, cellH h1 r_b r_o = some (.slice x6.a x6.l x6.c) ∧
   CondP (decide ((n3 : Int) < ((x6.l : Nat) : Int))) (
   J1 (decide ((n3 : Int) < 10)) h1) (
   J1 false h1))) :
  CallsH Tryz.prog 154 #[.pointer (some ⟨r_b, r_o, none⟩), .int .u64 most_] h R :=
  calls_of_vc tabOk mixed Tryz.func154 (c := c154) (by kernel_rfl) (n := 76) rfl (rs := [.tmp 4]) (by kernel_rfl) ok154 (args := [.pointer (some ⟨r_b, r_o, none⟩), .int .u64 most_]) (Nat.le_of_ble_eq_true rfl) (Eq.mpr (by kernel_rfl) hv)
end Go.Sx.Tryz
namespace Go.Sx.Tryz
open Go Go.Sx Go.Proofs
set_option maxRecDepth 100000
set_option linter.unusedVariables false
noncomputable def c155 : Code := (Tryz.f155.body).getD .skip
def a155 : Ann := (.seq .leaf (.seq (.seq .leaf (.br (.seq .leaf (.seq .leaf .leaf)) .leaf)) (.seq .leaf (.seq (.seq .leaf (.br (.seq .leaf (.seq .leaf .leaf)) .leaf)) (.seq .leaf (.seq .leaf (.seq .leaf .leaf)))))))
theorem ok155 : okC tab 42 true c155 a155 = true := by kernel_rfl
theorem vc155 (r_b r_o : Nat) (most_ : Int) (h : Heap) (R : Value → Heap → Prop)
  (hv : CondP (decide ((most_ : Int) < 0)) (
   CallsH Tryz.prog 176 #[.pointer (some ⟨r_b, r_o, none⟩)] h (fun r1 h1 => ∃ n1 : Int, r1 = .int .u64 n1 ∧
   R (.string ⟨#[]⟩) h1)) (
   CallsH Tryz.prog 154 #[.pointer (some ⟨r_b, r_o, none⟩), .int .u64 (IntKind.u64.wrap most_)] h (fun r2 h2 => ∃ n2 : Int, r2 = .int .u64 n2 ∧
   ∃ x1 : Sl, cellH h2 r_b r_o = some (.slice x1.a x1.l x1.c) ∧
   CondP (decide ((IntKind.u64.wrap ((x1.l : Nat) : Int) : Int) < n2)) (
   CallsH Tryz.prog 176 #[.pointer (some ⟨r_b, r_o, none⟩)] h2 (fun r3 h3 => ∃ n3 : Int, r3 = .int .u64 n3 ∧
   R (.string ⟨#[]⟩) h3)) (
   ∃ x2 : Sl, cellH h2 r_b r_o = some (.slice x2.a x2.l x2.c) ∧
   ((0 : Int) ≤ (0 : Int) ∧ (0 : Int) ≤ n2 ∧ n2 ≤ ((x2.c : Nat) : Int)) ∧
   ∃ s1 : ByteArray, StrOf h2 (subA x2.a 0 x2.c 1) n2.toNat s1 ∧
   ∃ x3 : Sl, cellH h2 r_b r_o = some (.slice x3.a x3.l x3.c) ∧
   ((0 : Int) ≤ n2 ∧ n2 ≤ ((x3.l : Nat) : Int)) ∧
   CanSt h2 r_b r_o [.slice (subA x3.a n2.toNat x3.c 1) (x3.l - n2.toNat) (x3.c - n2.toNat)] ∧ ∀ h4, Stored h2 r_b r_o [.slice (subA x3.a n2.toNat x3.c 1) (x3.l - n2.toNat) (x3.c - n2.toNat)] h4 →
   R (.string s1) h4)))) :
  CallsH Tryz.prog 155 #[.pointer (some ⟨r_b, r_o, none⟩), .int .i64 most_] h R :=
  calls_of_vc tabOk mixed Tryz.func155 (c := c155) (by kernel_rfl) (n := 42) rfl (rs := [.tmp 4]) (by kernel_rfl) ok155 (args := [.pointer (some ⟨r_b, r_o, none⟩), .int .i64 most_]) (Nat.le_of_ble_eq_true rfl) (Eq.mpr (by kernel_rfl) hv)
end Go.Sx.Tryz
