/-
  Part 8 of the proof: K29, V152, V109, V153, V54, R03, V110, R04.
-/
import Derived.Test.YtegikhoholfcmaaGreatM07
namespace Go.Sx.Tryz
open Go Go.Sx Go.Proofs
set_option linter.unusedVariables false
section
variable {H H' : Heap} {S : PH} {R : List Asn} {jb : Nat} {J : Jn}
def EL (S : PH) (v : Sl) (l : List Ent) : Prop := ∃ xs : List EB, xs.map (·.1) = l ∧ Rd S v 3 (entV xs) ∧ ∀ x ∈ xs, RdB S x.2 x.1.b
theorem EL.mono {S S' : PH} {v : Sl} {l : List Ent} (h : EL S v l) (hs : PH.le S S') : EL S' v l := by
  obtain ⟨xs, h1, h2, h3⟩ := h
  exact ⟨xs, h1, h2.mono hs, fun x hx => (h3 x hx).mono hs⟩
theorem EL.len {v : Sl} {l : List Ent} (h : EL S v l) : v.l = l.length ∧ v.l ≤ v.c := by
  obtain ⟨xs, h1, h2, h3⟩ := h
  have := h2.1
  rw [entV_len] at this
  refine ⟨?_, h2.2.1⟩
  rw [← h1, List.length_map]; omega
theorem EL.nil (S : PH) : EL S ⟨none, 0, 0⟩ [] := ⟨[], rfl, Rd.nil _ _, fun x hx => by cases hx⟩
theorem EL.at {v : Sl} {l : List Ent} (h : EL S v l) {L : List Asn} (hs : Sat H S L) {k : Nat} (hk : k < l.length) : ∃ g o x, v.a = some ⟨g, o, none⟩ ∧ CellsAt H g (o + k * 3) (eV (l[k], x)) ∧ RdB S x l[k].b := by
  obtain ⟨xs, h1, h2, h3⟩ := h
  subst h1
  have hk' : k < xs.length := by simpa using hk
  have hl := h2.1
  rw [entV_len] at hl
  obtain ⟨g, o, ga, gc⟩ := Rd.at h2 hs (by omega)
  refine ⟨g, o, xs[k].2, ga, ?_, ?_⟩
  · have := cells_sub gc (k * 3) 3
    rw [entV, flat_at eV_len hk'] at this
    simpa using this
  · simpa using h3 _ (List.getElem_mem hk')
theorem eV_one (y : EB) : ∀ u ∈ eV y, u.oneCell' = true := by
  intro u hu; simp only [eV, List.mem_cons, List.not_mem_nil, or_false] at hu; rcases hu with rfl | rfl | rfl <;> rfl
theorem entries_spec (hs : Sat H S (jA jb J :: R)) (he : eok S J.log.es) (hlen : J.log.es.length < 1000000)
    {K : Value → Heap → Prop} (hK : ∀ (v : Sl) H' S', PH.le S S' → EL S' v (J.log.es.map (·.1)) → Sat H' S' (jA jb J :: R) → K (.slice v.a v.l v.c) H') : CallsH Tryz.prog 36 #[.pointer (some ⟨jb, 0, none⟩)] H K := by
  apply vc36
  refine none_spec hs ⟨_, rfl, CondP.of (fun hc => by cases hc) fun _ => ?_⟩
  obtain ⟨ve, vs, hs1⟩ := jA_open hs
  have hvl := (ownE.len (hs1.pick 1 rfl)).1
  refine ⟨ve, hs1.cell 7 rfl, fun x n h => ∃ i : Nat, n = i ∧ i ≤ J.log.es.length ∧ ∃ S' ys, PH.le S S' ∧ ys.map (·.1) = (J.log.es.take i).map (·.1) ∧ (∀ y ∈ ys, RdB S' y.2 y.1.b) ∧ Sat h S' (ownE x ys :: lst jb 97 (jcs J ve vs) :: ownE ve J.log.es :: ownS vs J.segs :: R), fun _ n _ => J.log.es.length - n.toNat, ⟨0, rfl, Nat.zero_le _, S, [], PH.le.refl _, rfl, (fun y hy => by cases hy), own.new 85 3 hs1⟩, ?_⟩
  rintro x n h1 ⟨i, rfl, hi, S1, ys, hS1, hy1, hy2, hs2⟩ _
  have hyl : ys.length = i := by have := congrArg List.length hy1; simp at this; omega
  have hxl := (ownE.len hs2).1
  refine CondP.of (fun hc => ?_) (fun hc => ?_)
  · have hc : i < J.log.es.length := by simp at hc; omega
    obtain ⟨g, ga, gc⟩ := ownE.at (hs2.pick 2 rfl) hc
    refine ⟨⟨by omega, by omega⟩, NilP.of ga ⟨_, _, _, gc, ?_⟩⟩
    intro b2 h2 f2
    have hs3 := hs2.fresh f2
    refine Sat.store (T := 85) (l := [.int .u64 0, .int .u64 0, .slice none 0 0]) hs3 (Nat.le_refl _) fun h3 hs4 => ?_
    have hs4 : Sat h3 S1 (lst b2 85 (eV J.log.es[i]) :: ownE x ys :: lst jb 97 (jcs J ve vs) :: ownE ve J.log.es :: ownS vs J.segs :: R) := hs4
    have hb := he _ (List.getElem_mem hc)
    refine ⟨_, hs4.cell 2 rfl, ?_⟩
    refine clone_spec hs4 ((hb.1.mono hS1).reads hs4) (by omega) fun x5 h5 hx5 hs5 => ⟨x5, rfl, ?_⟩
    obtain ⟨S2, q1, q2, q3⟩ := own.fixd hs5
    refine q3.store (by simp [eV]) fun h6 hs6 => ?_
    have hs6 : Sat h6 S2 (lst b2 85 (eV (J.log.es[i].1, x5)) :: ownE x ys :: lst jb 97 (jcs J ve vs) :: ownE ve J.log.es :: ownS vs J.segs :: R) := hs6
    refine ⟨_, _, _, hs6.cells 0 rfl, ?_⟩
    intro b3 h7 f3
    have hs7 : Sat h7 S2 (lst b3 85 (eV (J.log.es[i].1, x5)) :: lst b2 85 (eV (J.log.es[i].1, x5)) :: ownE x ys :: lst jb 97 (jcs J ve vs) :: ownE ve J.log.es :: ownS vs J.segs :: R) := hs6.fresh f3
    refine append_one el81 (v := x) (xs := entV ys) (hs7.sel [0, 1]) rfl (eV_one _) (by omega) (by unfold maxLen; omega) fun v' H' hv' hs8 => ?_
    have e1 : entV ys ++ eV (J.log.es[i].1, x5) = entV (ys ++ [(J.log.es[i].1, x5)]) := by simp [entV]
    rw [e1] at hs8
    rw [i64_succ (by omega)]
    refine ⟨⟨i + 1, rfl, hc, S2, ys ++ [(J.log.es[i].1, x5)], hS1.trans q1, ?_, fun y hy => ?_, hs8.del 1⟩, ?_⟩
    · rw [List.take_succ_eq_append_getElem hc, List.map_append, List.map_append, hy1]; rfl
    · rcases List.mem_append.1 hy with h | h
      · exact (hy2 y h).mono q1
      · simp only [List.mem_singleton] at h
        subst h; exact q2
    · show J.log.es.length - (i + 1) < J.log.es.length - i; omega
  · have hc : i = J.log.es.length := by simp at hc; omega
    subst hc
    rw [List.take_length] at hy1
    obtain ⟨S2, q1, q2, q3⟩ := own.fixd hs2
    exact hK x h1 S2 (hS1.trans q1) ⟨ys, hy1, q2, fun y hy => (hy2 y hy).mono q1⟩ (jA_shut q3)
def Jn.ans (J : Jn) : Nat := if J.broken = true then 70 else 0
def Jn.trimN (ix : Nat) : Nat → Jn → Dk → Nat × Dk × Jn
  | 0, J, D => (J.ans, D, J)
  | k + 1, J, D => if idxAt J.segs 1 ≤ ix then (if (J.dropAt D 0).1 = true then Jn.trimN ix k (J.dropAt D 0).2.2.lift (J.dropAt D 0).2.1 else (70, (J.dropAt D 0).2)) else (J.ans, D, J)
def Jn.trim (J : Jn) (D : Dk) (ix : Nat) : Nat × Dk × Jn := if J.broken = true then (70, D, J) else J.trimN ix (J.segs.length - 1) D
def segN (jb : Nat) (h : Heap) : Nat := match cellH h jb 8 with | some (.slice _ l _) => l | _ => 0
theorem segN_eq (hs : Sat H S (jA jb J :: R)) : segN jb H = J.segs.length := by
  obtain ⟨ve, vs, hs1⟩ := jA_open hs
  have hvl := (ownS.len (hs1.pick 2 rfl)).1
  unfold segN
  rw [hs1.cell 8 (v := .slice vs.a vs.l vs.c) rfl]
  exact hvl
theorem lift_facts (J : Jn) : J.lift.d = J.d ∧ J.lift.segs = J.segs ∧ J.lift.first = J.first ∧ J.lift.many = J.many ∧ J.lift.each = J.each ∧ J.lift.broken = J.broken ∧ J.lift.log.es.length ≤ J.log.es.length := by
  unfold Jn.lift
  split
  · exact ⟨rfl, rfl, rfl, rfl, rfl, rfl, Nat.le_refl _⟩
  · refine ⟨rfl, rfl, rfl, rfl, rfl, rfl, ?_⟩
    show (List.drop _ _).length ≤ _
    rw [List.length_drop]; omega
theorem dropAt_len {J : Jn} {D : Dk} {k : Nat} (hk : k < J.segs.length) (h : (J.dropAt D k).1 = true) : (J.dropAt D k).2.2.segs = J.segs.eraseIdx k := by
  unfold Jn.dropAt at h ⊢
  split
  · rfl
  · rename_i hc; rw [if_neg hc] at h; cases h
theorem trim_spec {D : Dk} {ix : Nat} (hs : Sat H S (jA jb J :: dsk J.d D :: R)) (hfl : ∀ x ∈ J.segs, x.file < 32) (hsl : J.segs.length < 100000) (h0 : 0 < J.segs.length) (hlen : J.log.es.length < 1000000)
    {K : Value → Heap → Prop} (hK : ∀ H', Sat H' S (jA jb (J.trim D ix).2.2 :: dsk J.d (J.trim D ix).2.1 :: R) → K (.int .i64 ((J.trim D ix).1 : Int)) H') : CallsH Tryz.prog 47 #[.pointer (some ⟨jb, 0, none⟩), .int .u64 (ix : Int)] H K := by
  apply vc47
  refine ready_spec hs ⟨_, rfl, CondP.of (fun hc => ?_) (fun hc => ?_)⟩
  · have hb : J.broken = true := by
      cases h : J.broken with
      | true => rfl
      | false => rw [h] at hc; simp at hc
    have e : J.trim D ix = (70, D, J) := by rw [Jn.trim, if_pos hb]
    have := hK H (by rw [e]; exact hs)
    rw [e] at this
    rw [if_pos hb]; exact this
  have hb : ¬ J.broken = true := by
    intro h; rw [h] at hc; simp at hc
  have e : J.trim D ix = J.trimN ix (J.segs.length - 1) D := by rw [Jn.trim, if_neg hb]
  rw [e] at hK
  refine ⟨fun h => ∃ (k : Nat) (J' : Jn) (D' : Dk), J'.d = J.d ∧ J'.segs.length = k + 1 ∧ k < 100000 ∧ (∀ x ∈ J'.segs, x.file < 32) ∧ J'.log.es.length < 1000000 ∧ J'.trimN ix k D' = J.trimN ix (J.segs.length - 1) D ∧ Sat h S (jA jb J' :: dsk J.d D' :: R), fun h => segN jb h, ⟨J.segs.length - 1, J, D, rfl, by omega, by omega, hfl, hlen, rfl, hs⟩, ?_⟩
  rintro h2 ⟨k, J', D', hd, hk, hk2, hf', hle', he, hs2⟩ _
  have hn := segN_eq hs2
  have fin : J'.trimN ix k D' = (J'.ans, D', J') → CallsH Tryz.prog 91 #[.pointer (some ⟨jb, 0, none⟩)] h2 (fun r4 h5 => ∃ n3 : Int, r4 = .int .i64 n3 ∧ K (.int .i64 n3) h5) := by
    intro h
    rw [h] at he
    refine answer_spec hs2 ⟨_, rfl, ?_⟩
    have := hK h2 (by rw [← he]; exact hs2)
    rw [← he] at this; exact this
  obtain ⟨ve, vs, hs3⟩ := jA_open hs2
  have hvl := (ownS.len (hs3.pick 2 rfl)).1
  have hc8 := hs3.cell 8 (v := .slice vs.a vs.l vs.c) rfl
  refine ⟨vs, hc8, CondP.of (fun hc => ?_) (fun hc => ?_)⟩
  · obtain ⟨k, rfl⟩ : ∃ m, k = m + 1 := ⟨k - 1, by simp at hc; omega⟩
    obtain ⟨g, ga, gc⟩ := ownS.at (hs3.pick 2 rfl) (k := 1) (by omega)
    obtain ⟨_, _, hix⟩ := getSeg (l := J'.segs) (i := 1) (by omega)
    refine ⟨vs, hc8, ⟨by omega, by omega⟩, NilP.of ga ⟨((J'.segs[1]'(by omega)).head.i : Int), ?_, ?_⟩⟩
    · have := gc.get 3 _ rfl
      simpa using this
    have ed : decide (((J'.segs[1]'(by omega)).head.i : Int) ≤ (ix : Int)) = decide (idxAt J'.segs 1 ≤ ix) := decide_eq_decide.2 (by rw [hix]; exact Int.ofNat_le)
    rw [ed]
    refine CondP.of (fun hc2 => ?_) (fun hc2 => ?_)
    · have hc2 : idxAt J'.segs 1 ≤ ix := of_decide_eq_true hc2
      rw [Jn.trimN, if_pos hc2] at he
      rw [← hd] at hs2
      refine drop_spec hs2 hf' (by omega) (by omega) fun h3 hs4 => ⟨_, rfl, CondP.of (fun hc3 => ?_) (fun hc3 => ?_)⟩
      · have hz : ¬ (J'.dropAt D' 0).1 = true := by simpa using hc3
        rw [if_neg hz] at he
        have := hK h3 (by rw [← he, ← hd]; exact hs4)
        rw [← he] at this; exact this
      · have hz : (J'.dropAt D' 0).1 = true := by simpa using hc3
        rw [if_pos hz] at he
        obtain ⟨f1, f2, f3, f4, f5⟩ := dropAt_facts J' D' 0 (by omega)
        have f6 := dropAt_len (by omega) hz
        have hel : (J'.segs.eraseIdx 0).length = J'.segs.length - 1 := List.length_eraseIdx_of_lt (by omega)
        obtain ⟨l1, l2, l3, l4, l5, l6, l7⟩ := lift_facts (J'.dropAt D' 0).2.2
        refine lift_spec hs4 (by rw [f6]; omega) (by rw [f6]; omega) (by rw [f5]; omega) fun h4 hs5 => ⟨rfl, ?_⟩
        have hn5 := segN_eq hs5
        rw [hd] at hs5
        refine ⟨⟨k, _, _, l1.trans (f1.trans hd), by rw [l2, f6]; omega, by omega, fun x hx => hf' x (f4 x (by rw [← l2]; exact hx)), by rw [f5] at l7; omega, he, hs5⟩, ?_⟩
        show segN jb h4 < segN jb h2
        rw [hn5, hn, l2, f6]; omega
    · have hc2 : ¬ idxAt J'.segs 1 ≤ ix := of_decide_eq_false hc2
      exact fin (by rw [Jn.trimN, if_neg hc2])
  · obtain rfl : k = 0 := by simp at hc; omega
    exact fin rfl
theorem start_cases (J : Jn) (D : Dk) (h : Hd) : (J.start D h).2.2.d = J.d ∧ (J.start D h).2.2.first = J.first ∧ (J.start D h).2.2.many = J.many ∧ (J.start D h).2.2.each = J.each ∧ (J.start D h).2.2.log = J.log ∧
    ((J.start D h).1 = false ∧ (J.start D h).2.2.segs = J.segs ∨ ∃ n, n ∈ J.free ∧ (J.start D h).1 = true ∧ (J.start D h).2.2.segs = J.segs ++ [⟨n, J.fix h⟩]) := by
  unfold Jn.start
  split
  · exact ⟨rfl, rfl, rfl, rfl, rfl, .inl ⟨rfl, rfl⟩⟩
  · rename_i n l hf
    obtain ⟨w1, w2, w3, w4, w5, w6⟩ := write_segs J D n (parcelB 1 (J.fix h).body)
    split
    · refine ⟨w2, w4, w5, w6, w3, .inr ⟨n, by rw [hf]; exact List.mem_cons_self, rfl, ?_⟩⟩
      show (J.write D n (parcelB 1 (J.fix h).body)).2.2.segs ++ _ = _
      rw [w1]
    · exact ⟨w2, w4, w5, w6, w3, .inl ⟨rfl, w1⟩⟩
theorem another_cases (J : Jn) (D : Dk) (h : Hd) : (J.another D h).2.2.d = J.d ∧ (J.another D h).2.2.first = J.first ∧ (J.another D h).2.2.many = J.many ∧ (J.another D h).2.2.each = J.each ∧ (J.another D h).2.2.log = J.log ∧
    ((J.another D h).1 ≠ 0 ∧ (J.another D h).2.2.segs = J.segs ∨ ∃ n, n ∈ J.free ∧ (J.another D h).1 = 0 ∧ (J.another D h).2.2.segs = J.segs ++ [⟨n, J.fix h⟩]) := by
  unfold Jn.another
  split
  · exact ⟨rfl, rfl, rfl, rfl, rfl, .inl ⟨by simp, rfl⟩⟩
  · obtain ⟨h1, h2, h3, h4, h5, h6⟩ := start_cases J D h
    refine ⟨h1, h2, h3, h4, h5, ?_⟩
    rcases h6 with ⟨g1, g2⟩ | ⟨n, g0, g1, g2⟩
    · exact .inl ⟨by simp [g1], g2⟩
    · exact .inr ⟨n, g0, by simp [g1], g2⟩
def Jn.beginJ (J : Jn) (D : Dk) (i t : Nat) : Nat × Dk × Jn :=
  if J.broken = true then (70, D, J) else if MaxI < i ∨ MaxI < t then (2, D, J) else
  if (J.another D ⟨0, true, i, t⟩).1 ≠ 0 then J.another D ⟨0, true, i, t⟩ else
  ((Jn.dropN ((J.another D ⟨0, true, i, t⟩).2.2.segs.length - 1) { (J.another D ⟨0, true, i, t⟩).2.2 with log := ⟨i, t, []⟩ } (J.another D ⟨0, true, i, t⟩).2.1).2.ans,
   Jn.dropN ((J.another D ⟨0, true, i, t⟩).2.2.segs.length - 1) { (J.another D ⟨0, true, i, t⟩).2.2 with log := ⟨i, t, []⟩ } (J.another D ⟨0, true, i, t⟩).2.1)
theorem begin_specJ {D : Dk} {i t : Nat} (hs : Sat H S (jA jb J :: dsk J.d D :: R)) (hb : J.first + J.many ≤ 32) (hfl : ∀ x ∈ J.segs, x.file < 32) (hsl : J.segs.length < 100000) (hi : i < 18446744073709551616) (ht : t < 18446744073709551616) (hok : i ≤ MaxI → t ≤ MaxI → J.free ≠ [] → (J.fix ⟨0, true, i, t⟩).ok)
    {K : Value → Heap → Prop} (hK : ∀ H' S', PH.le S S' → Sat H' S' (jA jb (J.beginJ D i t).2.2 :: dsk J.d (J.beginJ D i t).2.1 :: R) → K (.int .i64 ((J.beginJ D i t).1 : Int)) H') : CallsH Tryz.prog 46 #[.pointer (some ⟨jb, 0, none⟩), .int .u64 (i : Int), .int .u64 (t : Int)] H K := by
  apply vc46
  refine ready_spec hs ⟨_, rfl, CondP.of (fun hc => ?_) (fun hc => ?_)⟩
  · have hb : J.broken = true := by
      cases h : J.broken with
      | true => rfl
      | false => rw [h] at hc; simp at hc
    have e : J.beginJ D i t = (70, D, J) := by rw [Jn.beginJ, if_pos hb]
    have := hK H S (PH.le.refl _) (by rw [e]; exact hs)
    rw [e] at this
    rw [if_pos hb]; exact this
  have hbr : ¬ J.broken = true := by
    intro h; rw [h] at hc; simp at hc
  refine ⟨fun tt h => h = H ∧ tt = decide (MaxI < i ∨ MaxI < t), ?_, ?_⟩
  · rintro tt h1 ⟨rfl, rfl⟩ _
    refine CondP.of (fun hc => ?_) (fun hc => ?_)
    · have hc := of_decide_eq_true hc
      have e : J.beginJ D i t = (2, D, J) := by rw [Jn.beginJ, if_neg hbr, if_pos hc]
      have := hK h1 S (PH.le.refl _) (by rw [e]; exact hs)
      rw [e] at this; exact this
    have hc := of_decide_eq_false hc
    have hc' : i ≤ MaxI ∧ t ≤ MaxI := by omega
    refine another_spec (h := ⟨0, true, i, t⟩) hs hb (by omega) (hok hc'.1 hc'.2) fun h2 S1 hS1 hs2 => ⟨_, rfl, ?_⟩
    obtain ⟨a1, a2, a3, a4, a5, a6⟩ := another_cases J D ⟨0, true, i, t⟩
    have hbe : J.beginJ D i t = if (J.another D ⟨0, true, i, t⟩).1 ≠ 0 then J.another D ⟨0, true, i, t⟩ else
        ((Jn.dropN ((J.another D ⟨0, true, i, t⟩).2.2.segs.length - 1) { (J.another D ⟨0, true, i, t⟩).2.2 with log := ⟨i, t, []⟩ } (J.another D ⟨0, true, i, t⟩).2.1).2.ans,
         Jn.dropN ((J.another D ⟨0, true, i, t⟩).2.2.segs.length - 1) { (J.another D ⟨0, true, i, t⟩).2.2 with log := ⟨i, t, []⟩ } (J.another D ⟨0, true, i, t⟩).2.1) := by
      rw [Jn.beginJ, if_neg hbr, if_neg hc]
    generalize J.another D ⟨0, true, i, t⟩ = W at *
    refine CondP.of (fun hc2 => ?_) (fun hc2 => ?_)
    · have hz : W.1 ≠ 0 := by
        intro h; rw [h] at hc2; simp at hc2
      rw [if_pos hz] at hbe
      have := hK h2 S1 hS1 (by rw [hbe]; exact hs2)
      rw [hbe] at this; exact this
    have hz : W.1 = 0 := by
      have : (W.1 : Int) = 0 := by simpa using hc2
      omega
    rw [if_neg (by rw [hz]; simp)] at hbe
    rcases a6 with ⟨h, _⟩ | ⟨n, hn, _, hsg⟩
    · exact absurd hz h
    obtain ⟨ve, vs, hs3⟩ := jA_open hs2
    refine set_log (S := S1) (J := W.2.2) (ve := ve) (vs := vs) (vs' := ⟨none, 0, 0⟩) (g := ⟨i, t, []⟩) (R := ownE ve W.2.2.log.es :: dsk J.d W.2.1 :: R) ?_ fun h3 hs4 => ?_
    · exact ((own.new 85 3 hs3).sel [0, 0, 1])
    have hs4 := hs4.del 1
    have hs4 : Sat h3 S1 (jA jb { W.2.2 with log := ⟨i, t, []⟩ } :: dsk J.d W.2.1 :: R) := hs4
    have hlen : W.2.2.segs.length = J.segs.length + 1 := by rw [hsg]; simp
    have hfl2 : ∀ x ∈ W.2.2.segs, x.file < 32 := by
      intro x hx
      rw [hsg] at hx
      rcases List.mem_append.1 hx with h | h
      · exact hfl x h
      · simp only [List.mem_singleton] at h
        subst h; exact free_lt hb hn
    generalize hJ0 : ({ W.2.2 with log := ⟨i, t, []⟩ } : Jn) = J0 at *
    have hJ0s : J0.segs = W.2.2.segs := by rw [← hJ0]
    have hJ0d : J0.d = J.d := by rw [← hJ0]; exact a1
    refine ⟨fun h => ∃ (k : Nat) (J' : Jn) (D' : Dk), J'.d = J.d ∧ J'.segs.length = k + 1 ∧ k < 100000 ∧ (∀ x ∈ J'.segs, x.file < 32) ∧ J'.dropN k D' = J0.dropN (W.2.2.segs.length - 1) W.2.1 ∧ Sat h S1 (jA jb J' :: dsk J.d D' :: R), fun h => segN jb h, ⟨W.2.2.segs.length - 1, J0, W.2.1, hJ0d, by rw [hJ0s]; omega, by omega, (by rw [hJ0s]; exact hfl2), rfl, hs4⟩, ?_⟩
    rintro h5 ⟨k, J', D', hd, hk, hk2, hf', he, hs5⟩ _
    have hn5 := segN_eq hs5
    have fin : ∀ (h6 : Heap) (X : Dk × Jn), X = J0.dropN (W.2.2.segs.length - 1) W.2.1 → Sat h6 S1 (jA jb X.2 :: dsk J.d X.1 :: R) → CallsH Tryz.prog 91 #[.pointer (some ⟨jb, 0, none⟩)] h6 (fun r4 h5 => ∃ n3 : Int, r4 = .int .i64 n3 ∧ K (.int .i64 n3) h5) := by
      intro h6 X hX hs6
      refine answer_spec hs6 ⟨_, rfl, ?_⟩
      rw [← hX] at hbe
      have := hK h6 S1 hS1 (by rw [hbe]; exact hs6)
      rw [hbe] at this; exact this
    obtain ⟨ve, vs, hs6⟩ := jA_open hs5
    have hvl := (ownS.len (hs6.pick 2 rfl)).1
    refine ⟨vs, hs6.cell 8 rfl, CondP.of (fun hc => ?_) (fun hc => ?_)⟩
    · obtain ⟨k, rfl⟩ : ∃ m, k = m + 1 := ⟨k - 1, by simp at hc; omega⟩
      rw [Jn.dropN] at he
      have hs5 : Sat h5 S1 (jA jb J' :: dsk J'.d D' :: R) := by rw [hd]; exact hs5
      refine drop_spec hs5 hf' (by omega) (by omega) fun h7 hs7 => ⟨_, rfl, CondP.of (fun hc3 => ?_) (fun hc3 => ?_)⟩
      · rw [if_pos hc3] at he
        obtain ⟨f1, f2, f3, f4, f5⟩ := dropAt_facts J' D' 0 (by omega)
        have f6 := dropAt_len (by omega) hc3
        have hel : (J'.segs.eraseIdx 0).length = J'.segs.length - 1 := List.length_eraseIdx_of_lt (by omega)
        have hn7 := segN_eq hs7
        rw [hd] at hs7
        refine ⟨⟨k, _, _, f1.trans hd, by rw [f6]; omega, by omega, fun x hx => hf' x (f4 x hx), he, hs7⟩, ?_⟩
        show segN jb h7 < segN jb h5
        rw [hn7, hn5, f6]; omega
      · rw [if_neg (by rw [hc3]; simp)] at he
        rw [hd] at hs7
        exact fin h7 _ he hs7
    · obtain rfl : k = 0 := by simp at hc; omega
      exact fin h5 (D', J') he hs5
  · have e1 : decide ((i : Int) > 4611686018427387904) = decide (MaxI < i) := decide_eq_decide.2 (by unfold MaxI; omega)
    have e2 : decide ((t : Int) > 4611686018427387904) = decide (MaxI < t) := decide_eq_decide.2 (by unfold MaxI; omega)
    rw [e1, e2]
    refine CondP.of (fun hc => ⟨rfl, ?_⟩) (fun hc => ⟨rfl, ?_⟩)
    · rw [decide_eq_true (.inl (of_decide_eq_true hc))]
    · have := of_decide_eq_false hc
      exact decide_eq_decide.2 ⟨fun h => .inr h, fun h => h.resolve_left this⟩
end
end Go.Sx.Tryz
namespace Go.Sx.Tryz
open Go Go.Sx Go.Proofs
set_option maxRecDepth 100000
set_option linter.unusedVariables false
noncomputable def c152 : Code := (Tryz.f152.body).getD .skip
def a152 : Ann := (.seq .leaf (.seq .leaf (.seq .leaf (.seq .leaf (.seq .leaf (.seq .leaf (.seq .leaf (.seq (.reg (.q 0 (.q 1 (.q 2 (.q 3 (.q 4 (.q 5 (.q 6 (.m 7 (.q 8 (.q 9 (.q 10 (.q 11 (.m 12 (.q 13 (.fin)) (.nil)))))) (.nil)))))))))) .leaf))))))))
theorem ok152 : okC tab 35 true c152 a152 = true := by kernel_rfl
theorem vc152 (kind_ : Int) (body_ : Sl) (h : Heap) (R : Value → Heap → Prop)
  (hv : ∀ b1 h1, Fresh h (.cells #[.int .u64 0, .int .u64 0, .slice none 0 0] 35) b1 h1 →
   ∀ b2 h2, Fresh h1 (.cells #[.slice body_.a body_.l body_.c, .bool false] 219) b2 h2 →
   CallsH Tryz.prog 154 #[.pointer (some ⟨b2, 0, none⟩), .int .u64 4611686018427387904] h2 (fun r1 h3 => ∃ n1 : Int, r1 = .int .u64 n1 ∧
   CallsH Tryz.prog 175 #[.pointer (some ⟨b2, 0, none⟩)] h3 (fun r2 h4 => ∃ t1 : Bool, r2 = .bool t1 ∧
   ∀ b3 h5, Fresh h4 (.cells #[.int .u64 0, .int .u64 0, .slice none 0 0] 35) b3 h5 →
   CallsH Tryz.prog 154 #[.pointer (some ⟨b2, 0, none⟩), .int .u64 4611686018427387904] h5 (fun r3 h6 => ∃ n2 : Int, r3 = .int .u64 n2 ∧
   CanSt h6 b3 0 [.int .u64 n2] ∧ ∀ h7, Stored h6 b3 0 [.int .u64 n2] h7 →
   CallsH Tryz.prog 154 #[.pointer (some ⟨b2, 0, none⟩), .int .u64 4611686018427387904] h7 (fun r4 h8 => ∃ n3 : Int, r4 = .int .u64 n3 ∧
   CanSt h8 b3 1 [.int .u64 n3] ∧ ∀ h9, Stored h8 b3 1 [.int .u64 n3] h9 →
   ∃ n4 : Int, ∃ n5 : Int, ∃ x1 : Sl, CellsAt h9 b3 0 [.int .u64 n4, .int .u64 n5, .slice x1.a x1.l x1.c] ∧
   CondP ((kind_ : Int) == 1) (
   CallsH Tryz.prog 156 #[.pointer (some ⟨b2, 0, none⟩)] h9 (fun r5 h10 => ∃ n6 : Int, r5 = .int .i64 n6 ∧
   CellsAt h10 b3 0 [.int .u64 n4, .int .u64 n5, .slice x1.a x1.l x1.c] ∧
   CanSt h10 b1 0 [.int .u64 n4, .int .u64 n5, .slice x1.a x1.l x1.c] ∧ ∀ h11, Stored h10 b1 0 [.int .u64 n4, .int .u64 n5, .slice x1.a x1.l x1.c] h11 →
   ∃ n7 : Int, ∃ n8 : Int, ∃ x2 : Sl, CellsAt h11 b1 0 [.int .u64 n7, .int .u64 n8, .slice x2.a x2.l x2.c] ∧
   R (.tuple #[.int .u64 n1, .bool t1, .agg #[.int .u64 n7, .int .u64 n8, .slice x2.a x2.l x2.c], .bool ((n6 : Int) == 0)]) h11)) (
   CanSt h9 b1 0 [.int .u64 n4, .int .u64 n5, .slice x1.a x1.l x1.c] ∧ ∀ h12, Stored h9 b1 0 [.int .u64 n4, .int .u64 n5, .slice x1.a x1.l x1.c] h12 →
   ∃ n9 : Int, ∃ n10 : Int, ∃ x3 : Sl, CellsAt h12 b1 0 [.int .u64 n9, .int .u64 n10, .slice x3.a x3.l x3.c] ∧
   R (.tuple #[.int .u64 n1, .bool t1, .agg #[.int .u64 n9, .int .u64 n10, .slice x3.a x3.l x3.c], .bool false]) h12)))))) :
  CallsH Tryz.prog 152 #[.int .u8 kind_, .slice body_.a body_.l body_.c] h R :=
  calls_of_vc tabOk mixed Tryz.func152 (c := c152) (by kernel_rfl) (n := 35) rfl (rs := [.tmp 4, .tmp 5, .cell 6 35, .tmp 7]) (by kernel_rfl) ok152 (args := [.int .u8 kind_, .slice body_.a body_.l body_.c]) (Nat.le_of_ble_eq_true rfl) (Eq.mpr (by kernel_rfl) hv)
end Go.Sx.Tryz
namespace Go.Sx.Tryz
open Go Go.Sx Go.Proofs
set_option maxRecDepth 100000
set_option linter.unusedVariables false
noncomputable def c109 : Code := (Tryz.f109.body).getD .skip
def a109 : Ann := (.seq .leaf (.seq .leaf (.seq (.seq .leaf (.br (.seq .leaf .leaf) .leaf)) (.seq .leaf (.seq .leaf .leaf)))))
theorem ok109 : okC tab 31 true c109 a109 = true := by kernel_rfl
theorem vc109 (b_ : Sl) (h : Heap) (R : Value → Heap → Prop)
  (hv : CallsH Tryz.prog 151 #[.slice b_.a b_.l b_.c] h (fun r1 h1 => ∃ n1 : Int, ∃ x1 : Sl, ∃ n2 : Int, ∃ n3 : Int, r1 = .tuple #[.int .u8 n1, .slice x1.a x1.l x1.c, .int .i64 n2, .int .i64 n3] ∧
   CondP ((n3 : Int) != 0) (
   R (.tuple #[.int .u64 0, .bool false]) h1) (
   CallsH Tryz.prog 152 #[.int .u8 n1, .slice x1.a x1.l x1.c] h1 (fun r2 h2 => ∃ n4 : Int, ∃ t1 : Bool, ∃ n5 : Int, ∃ n6 : Int, ∃ x2 : Sl, ∃ t2 : Bool, r2 = .tuple #[.int .u64 n4, .bool t1, .agg #[.int .u64 n5, .int .u64 n6, .slice x2.a x2.l x2.c], .bool t2] ∧
   ∀ b1 h3, Fresh h2 (.cells #[.int .u64 0, .int .u64 0, .slice none 0 0] 35) b1 h3 →
   CanSt h3 b1 0 [.int .u64 n5, .int .u64 n6, .slice x2.a x2.l x2.c] ∧ ∀ h4, Stored h3 b1 0 [.int .u64 n5, .int .u64 n6, .slice x2.a x2.l x2.c] h4 →
   R (.tuple #[.int .u64 n4, .bool t2]) h4)))) :
  CallsH Tryz.prog 109 #[.slice b_.a b_.l b_.c] h R :=
  calls_of_vc tabOk mixed Tryz.func109 (c := c109) (by kernel_rfl) (n := 31) rfl (rs := [.tmp 2, .tmp 3]) (by kernel_rfl) ok109 (args := [.slice b_.a b_.l b_.c]) (Nat.le_of_ble_eq_true rfl) (Eq.mpr (by kernel_rfl) hv)
end Go.Sx.Tryz
namespace Go.Sx.Tryz
open Go Go.Sx Go.Proofs
set_option maxRecDepth 100000
set_option linter.unusedVariables false
noncomputable def c153 : Code := (Tryz.f153.body).getD .skip
def a153 : Ann := (.seq .leaf (.seq (.join [(20, .one (.b))] .leaf (.br (.seq .leaf (.seq .leaf .leaf)) .leaf)) (.seq (.seq .leaf (.inn (.loop [(6, .one (.i .i64))] (.seq (.seq .leaf (.br .leaf .leaf)) (.seq (.inn (.seq (.reg (.q 0 (.q 1 (.q 2 (.q 3 (.q 4 (.q 5 (.q 6 (.q 7 (.q 8 (.q 9 (.q 10 (.q 11 (.q 12 (.q 13 (.q 14 (.q 15 (.q 16 (.q 17 (.q 18 (.q 19 (.fin)))))))))))))))))))))) (.br (.seq .leaf (.seq .leaf .leaf)) .leaf))) .leaf))))) (.seq .leaf .leaf))))
theorem ok153 : okC tab 60 true c153 a153 = true := by kernel_rfl
theorem vc153 (s_0 : Int) (s_1 : Int) (s_2 : Sl) (s_3 : Sl) (s_4 : Int) (x_0 : Int) (x_1 : Int) (x_2 : Sl) (h : Heap) (R : Value → Heap → Prop)
  (hv : ∀ b1 h1, Fresh h (.cells #[.int .u64 s_0, .int .u64 s_1, .slice s_2.a s_2.l s_2.c, .slice s_3.a s_3.l s_3.c, .int .i64 s_4] 119) b1 h1 →
   ∀ b2 h2, Fresh h1 (.cells #[.int .u64 x_0, .int .u64 x_1, .slice x_2.a x_2.l x_2.c] 35) b2 h2 →
   ∀ b3 h3, Fresh h2 (.cells #[.int .u64 0, .int .u64 0, .slice none 0 0, .slice none 0 0, .int .i64 0] 119) b3 h3 →
   ∃ J1 : Bool → Heap → Prop, (∀ t1 : Bool, ∀ h4, J1 t1 h4 → ∀ _ : Env,
   CondP t1 (
   CanSt h4 b1 3 [.slice none 0 0] ∧ ∀ h5, Stored h4 b1 3 [.slice none 0 0] h5 →
   ∃ n1 : Int, ∃ n2 : Int, ∃ x1 : Sl, ∃ x2 : Sl, ∃ n3 : Int, CellsAt h5 b1 0 [.int .u64 n1, .int .u64 n2, .slice x1.a x1.l x1.c, .slice x2.a x2.l x2.c, .int .i64 n3] ∧
   CanSt h5 b3 0 [.int .u64 n1, .int .u64 n2, .slice x1.a x1.l x1.c, .slice x2.a x2.l x2.c, .int .i64 n3] ∧ ∀ h6, Stored h5 b3 0 [.int .u64 n1, .int .u64 n2, .slice x1.a x1.l x1.c, .slice x2.a x2.l x2.c, .int .i64 n3] h6 →
   ∃ n4 : Int, ∃ n5 : Int, ∃ x3 : Sl, ∃ x4 : Sl, ∃ n6 : Int, CellsAt h6 b3 0 [.int .u64 n4, .int .u64 n5, .slice x3.a x3.l x3.c, .slice x4.a x4.l x4.c, .int .i64 n6] ∧
   R (.tuple #[.agg #[.int .u64 n4, .int .u64 n5, .slice x3.a x3.l x3.c, .slice x4.a x4.l x4.c, .int .i64 n6], .bool true]) h6) (
   ∃ (I1 : Int → Heap → Prop) (mu1 : Int → Heap → Nat), I1 0 h4 ∧ (∀ n7 : Int, ∀ h7, I1 n7 h7 → ∀ _ : Env,
   ∃ x5 : Sl, cellH h7 b1 3 = some (.slice x5.a x5.l x5.c) ∧
   CondP (decide ((n7 : Int) < ((x5.l : Nat) : Int))) (
   ∃ x6 : Sl, cellH h7 b1 3 = some (.slice x6.a x6.l x6.c) ∧
   ((0 : Int) ≤ n7 ∧ (n7 : Int) < ((x6.l : Nat) : Int)) ∧
   NilP x6.a (fun b4 o1 =>
   ∃ n8 : Int, cellH h7 b4 (o1 + n7.toNat * 3) = some (.int .u64 n8) ∧
   ∃ n9 : Int, cellH h7 b2 0 = some (.int .u64 n9) ∧
   CondP ((n8 : Int) == n9) (
   ∃ x7 : Sl, cellH h7 b1 3 = some (.slice x7.a x7.l x7.c) ∧
   ((0 : Int) ≤ n7 ∧ (n7 : Int) < ((x7.l : Nat) : Int)) ∧
   NilP x7.a (fun b5 o2 =>
   ∃ n10 : Int, cellH h7 b5 (o2 + n7.toNat * 3 + 1) = some (.int .u64 n10) ∧
   ∃ n11 : Int, cellH h7 b2 1 = some (.int .u64 n11) ∧
   CondP ((n10 : Int) == n11) (
   ∀ b6 h8, Fresh h7 (.cells #[] 35) b6 h8 →
   ∃ x8 : Sl, cellH h8 b1 3 = some (.slice x8.a x8.l x8.c) ∧
   ((0 : Int) ≤ (0 : Int) ∧ (0 : Int) ≤ IntKind.i64.wrap (n7 + 1) ∧ IntKind.i64.wrap (n7 + 1) ≤ ((x8.c : Nat) : Int)) ∧
   RunK Tryz.prog (.sl) (Builtin.append_ #[36, 36] 36 #[.slice (some ⟨b6, 0, none⟩) 0 0, .slice (subA x8.a 0 x8.c 3) ((IntKind.i64.wrap (n7 + 1)).toNat) x8.c]) h8 (fun x9 h9 =>
   CanSt h9 b1 3 [.slice x9.a x9.l x9.c] ∧ ∀ h10, Stored h9 b1 3 [.slice x9.a x9.l x9.c] h10 →
   ∃ n12 : Int, ∃ n13 : Int, ∃ x10 : Sl, ∃ x11 : Sl, ∃ n14 : Int, CellsAt h10 b1 0 [.int .u64 n12, .int .u64 n13, .slice x10.a x10.l x10.c, .slice x11.a x11.l x11.c, .int .i64 n14] ∧
   CanSt h10 b3 0 [.int .u64 n12, .int .u64 n13, .slice x10.a x10.l x10.c, .slice x11.a x11.l x11.c, .int .i64 n14] ∧ ∀ h11, Stored h10 b3 0 [.int .u64 n12, .int .u64 n13, .slice x10.a x10.l x10.c, .slice x11.a x11.l x11.c, .int .i64 n14] h11 →
   ∃ n15 : Int, ∃ n16 : Int, ∃ x12 : Sl, ∃ x13 : Sl, ∃ n17 : Int, CellsAt h11 b3 0 [.int .u64 n15, .int .u64 n16, .slice x12.a x12.l x12.c, .slice x13.a x13.l x13.c, .int .i64 n17] ∧
   R (.tuple #[.agg #[.int .u64 n15, .int .u64 n16, .slice x12.a x12.l x12.c, .slice x13.a x13.l x13.c, .int .i64 n17], .bool true]) h11)) (
   I1 (IntKind.i64.wrap (n7 + 1)) h7 ∧ mu1 (IntKind.i64.wrap (n7 + 1)) h7 < mu1 n7 h7))) (
   I1 (IntKind.i64.wrap (n7 + 1)) h7 ∧ mu1 (IntKind.i64.wrap (n7 + 1)) h7 < mu1 n7 h7))) (
   ∃ n18 : Int, ∃ n19 : Int, ∃ x14 : Sl, ∃ x15 : Sl, ∃ n20 : Int, CellsAt h7 b1 0 [.int .u64 n18, .int .u64 n19, .slice x14.a x14.l x14.c, .slice x15.a x15.l x15.c, .int .i64 n20] ∧
   CanSt h7 b3 0 [.int .u64 n18, .int .u64 n19, .slice x14.a x14.l x14.c, .slice x15.a x15.l x15.c, .int .i64 n20] ∧ ∀ h12, Stored h7 b3 0 [.int .u64 n18, .int .u64 n19, .slice x14.a x14.l x14.c, .slice x15.a x15.l x15.c, .int .i64 n20] h12 →
   ∃ n21 : Int, ∃ n22 : Int, ∃ x16 : Sl, ∃ x17 : Sl, ∃ n23 : Int, CellsAt h12 b3 0 [.int .u64 n21, .int .u64 n22, .slice x16.a x16.l x16.c, .slice x17.a x17.l x17.c, .int .i64 n23] ∧
   R (.tuple #[.agg #[.int .u64 n21, .int .u64 n22, .slice x16.a x16.l x16.c, .slice x17.a x17.l x17.c, .int .i64 n23], .bool false]) h12)))) ∧
   ∃ n24 : Int, cellH h3 b2 0 = some (.int .u64 n24) ∧
   ∃ n25 : Int, cellH h3 b1 0 = some (.int .u64 n25) ∧
   CondP ((n24 : Int) == n25) (
   ∃ n26 : Int, cellH h3 b2 1 = some (.int .u64 n26) ∧
   ∃ n27 : Int, cellH h3 b1 1 = some (.int .u64 n27) ∧
   J1 ((n26 : Int) == n27) h3) (
   J1 false h3)) :
  CallsH Tryz.prog 153 #[.agg #[.int .u64 s_0, .int .u64 s_1, .slice s_2.a s_2.l s_2.c, .slice s_3.a s_3.l s_3.c, .int .i64 s_4], .agg #[.int .u64 x_0, .int .u64 x_1, .slice x_2.a x_2.l x_2.c]] h R :=
  calls_of_vc tabOk mixed Tryz.func153 (c := c153) (by kernel_rfl) (n := 60) rfl (rs := [.cell 4 119, .tmp 5]) (by kernel_rfl) ok153 (args := [.agg #[.int .u64 s_0, .int .u64 s_1, .slice s_2.a s_2.l s_2.c, .slice s_3.a s_3.l s_3.c, .int .i64 s_4], .agg #[.int .u64 x_0, .int .u64 x_1, .slice x_2.a x_2.l x_2.c]]) (Nat.le_of_ble_eq_true rfl) (Eq.mpr (by kernel_rfl) hv)
end Go.Sx.Tryz
namespace Go.Sx.Tryz
open Go Go.Sx Go.Proofs
set_option maxRecDepth 100000
set_option linter.unusedVariables false
noncomputable def c54 : Code := (Tryz.f54.body).getD .skip
def a54 : Ann := (.seq .leaf (.seq (.seq .leaf (.br (.seq .leaf .leaf) .leaf)) (.seq .leaf .leaf)))
theorem ok54 : okC tab 17 true c54 a54 = true := by kernel_rfl
theorem vc54 (s_0 : Int) (s_1 : Int) (s_2 : Sl) (s_3 : Sl) (s_4 : Int) (h : Heap) (R : Value → Heap → Prop)
  (hv : ∀ b1 h1, Fresh h (.cells #[.int .u64 s_0, .int .u64 s_1, .slice s_2.a s_2.l s_2.c, .slice s_3.a s_3.l s_3.c, .int .i64 s_4] 119) b1 h1 →
   ∀ b2 h2, Fresh h1 (.cells #[.int .u64 0, .int .u64 0, .slice none 0 0] 35) b2 h2 →
   ∃ x1 : Sl, cellH h2 b1 3 = some (.slice x1.a x1.l x1.c) ∧
   CondP ((((x1.l : Nat) : Int) : Int) == 0) (
   ∃ n1 : Int, ∃ n2 : Int, ∃ x2 : Sl, CellsAt h2 b1 0 [.int .u64 n1, .int .u64 n2, .slice x2.a x2.l x2.c] ∧
   CanSt h2 b2 0 [.int .u64 n1, .int .u64 n2, .slice x2.a x2.l x2.c] ∧ ∀ h3, Stored h2 b2 0 [.int .u64 n1, .int .u64 n2, .slice x2.a x2.l x2.c] h3 →
   ∃ n3 : Int, ∃ n4 : Int, ∃ x3 : Sl, CellsAt h3 b2 0 [.int .u64 n3, .int .u64 n4, .slice x3.a x3.l x3.c] ∧
   R (.agg #[.int .u64 n3, .int .u64 n4, .slice x3.a x3.l x3.c]) h3) (
   ∃ x4 : Sl, cellH h2 b1 3 = some (.slice x4.a x4.l x4.c) ∧
   ∃ x5 : Sl, cellH h2 b1 3 = some (.slice x5.a x5.l x5.c) ∧
   ((0 : Int) ≤ IntKind.i64.wrap (((x5.l : Nat) : Int) - 1) ∧ (IntKind.i64.wrap (((x5.l : Nat) : Int) - 1) : Int) < ((x4.l : Nat) : Int)) ∧
   NilP x4.a (fun b3 o1 =>
   ∃ n5 : Int, ∃ n6 : Int, ∃ x6 : Sl, CellsAt h2 b3 (o1 + ((IntKind.i64.wrap (((x5.l : Nat) : Int) - 1)).toNat) * 3) [.int .u64 n5, .int .u64 n6, .slice x6.a x6.l x6.c] ∧
   CanSt h2 b2 0 [.int .u64 n5, .int .u64 n6, .slice x6.a x6.l x6.c] ∧ ∀ h4, Stored h2 b2 0 [.int .u64 n5, .int .u64 n6, .slice x6.a x6.l x6.c] h4 →
   ∃ n7 : Int, ∃ n8 : Int, ∃ x7 : Sl, CellsAt h4 b2 0 [.int .u64 n7, .int .u64 n8, .slice x7.a x7.l x7.c] ∧
   R (.agg #[.int .u64 n7, .int .u64 n8, .slice x7.a x7.l x7.c]) h4))) :
  CallsH Tryz.prog 54 #[.agg #[.int .u64 s_0, .int .u64 s_1, .slice s_2.a s_2.l s_2.c, .slice s_3.a s_3.l s_3.c, .int .i64 s_4]] h R :=
  calls_of_vc tabOk mixed Tryz.func54 (c := c54) (by kernel_rfl) (n := 17) rfl (rs := [.cell 2 35]) (by kernel_rfl) ok54 (args := [.agg #[.int .u64 s_0, .int .u64 s_1, .slice s_2.a s_2.l s_2.c, .slice s_3.a s_3.l s_3.c, .int .i64 s_4]]) (Nat.le_of_ble_eq_true rfl) (Eq.mpr (by kernel_rfl) hv)
end Go.Sx.Tryz
namespace Go.Sx.Tryz
open Go Go.Sx Go.Proofs
set_option linter.unusedVariables false
set_option maxRecDepth 20000
section
variable {H H' : Heap} {S : PH} {R : List Asn}
theorem el36 : ElemOk Tryz.prog 36 35 3 40 := ElemOk.mk' (z := .agg #[.int .u64 0, .int .u64 0, .slice none 0 0]) Tryz.underlying36 (by kernel_rfl) rfl (by decide)
theorem Rd.spot3 {v : Sl} {sz : Nat} {xs : List Value} (h : Rd S v sz xs) (h0 : 0 < v.l) : ∀ a, v.a = some a → a.spot = none := by
  intro a ha
  obtain ⟨gb, go, _, _, _, g1, _⟩ := h.2.2.resolve_left (by omega)
  rw [ha] at g1; cases g1; rfl
theorem EL.take {x : Sl} {l : List Ent} (h : EL S x l) {k : Nat} (hk : k ≤ l.length) : EL S ⟨subA x.a 0 x.c 3, k, x.c⟩ (l.take k) := by
  obtain ⟨hl, hlc⟩ := EL.len h
  obtain ⟨xs, h1, h2, h3⟩ := h
  refine ⟨xs.take k, by rw [← h1, List.map_take], ?_, fun y hy => h3 y (List.mem_of_mem_take hy)⟩
  rcases Nat.eq_zero_or_pos k with h0 | h0
  · subst h0; exact ⟨by simp [entV], Nat.zero_le _, .inl rfl⟩
  · rw [subA_zero (Rd.spot3 h2 (by omega))]
    have := Rd.take h2 (k := k) (m := x.c) (by omega) (by omega)
    rw [entV, flat_take eV_len] at this
    exact this
theorem EL.drop {x : Sl} {l : List Ent} (h : EL S x l) {k : Nat} (hk : k ≤ l.length) : EL S ⟨subA x.a k x.c 3, x.l - k, x.c - k⟩ (l.drop k) := by
  obtain ⟨hl, hlc⟩ := EL.len h
  obtain ⟨xs, h1, h2, h3⟩ := h
  refine ⟨xs.drop k, by rw [← h1, List.map_drop], ?_, fun y hy => h3 y (List.mem_of_mem_drop hy)⟩
  have := Rd.drop h2 (k := k) (by omega)
  rw [entV, flat_drop eV_len] at this
  exact this
theorem EL.reads {x : Sl} {l : List Ent} (h : EL S x l) : ∃ ys : List EB, ys.map (·.1) = l ∧ (∀ y ∈ ys, RdB S y.2 y.1.b) ∧ (∀ {H : Heap} {L : List Asn}, Sat H S L → (x.l = 0 ∨ ∃ g o, x.a = some ⟨g, o, none⟩ ∧ CellsAt H g o (entV ys))) := by
  obtain ⟨xs, h1, h2, h3⟩ := h
  refine ⟨xs, h1, h3, fun {H L} hs => ?_⟩
  rcases Nat.eq_zero_or_pos x.l with h0 | h0
  · exact .inl h0
  · exact .inr (Rd.at h2 hs h0)
theorem appL {T t : TypeId} (he : ElemOk Tryz.prog t T 3 40) {v x : Sl} {us : List EB} {l : List Ent} (hs : Sat H S (own T 3 v (entV us) :: R)) (hx : EL S x l) (hb : us.length + l.length < 100000000)
    {K : Sl → Heap → Prop} (hk : ∀ v' H' ys, ys.map (·.1) = l → (∀ y ∈ ys, RdB S y.2 y.1.b) → Sat H' S (own T 3 v' (entV (us ++ ys)) :: R) → K v' H') :
    RunK Tryz.prog .sl (Builtin.append_ #[t, t] t #[.slice v.a v.l v.c, .slice x.a x.l x.c]) H K := by
  have hvl := (own.len hs).1
  rw [entV_len] at hvl
  obtain ⟨hl, hlc⟩ := EL.len hx
  obtain ⟨ys, h1, h2, h3⟩ := EL.reads hx
  have hyl : ys.length = l.length := by rw [← h1, List.length_map]
  refine append_own he hs (m := x.l) (c := x.c) (news := entV ys) (by rw [entV_len]; omega) (h3 hs) (entV_one ys) (by omega) (by unfold maxLen; omega) fun v' H' hv' hs' => hk v' H' ys h1 h2 ?_
  have e : entV us ++ entV ys = entV (us ++ ys) := by simp [entV]
  rw [e] at hs'; exact hs'
theorem newL {T b : Nat} {H1 : Heap} (hs : Sat H S R) (hf : Fresh H (.cells #[] T) b H1) : Sat H1 S (own T 3 ⟨some ⟨b, 0, none⟩, 0, 0⟩ (entV []) :: R) := by
  have h1 : Sat H1 S (lst b T [] :: R) := hs.fresh hf
  exact own.ofLst (sz := 3) (n := 0) (c := 0) (xs := entV []) h1 rfl (Nat.le_refl _) (by decide) rfl
theorem sealL {T : TypeId} {v : Sl} {us : List EB} (hs : Sat H S (own T 3 v (entV us) :: R)) (hu : ∀ y ∈ us, RdB S y.2 y.1.b) : ∃ S', PH.le S S' ∧ EL S' v (us.map (·.1)) ∧ Sat H S' R := by
  obtain ⟨S', q1, q2, q3⟩ := own.fixd hs
  exact ⟨S', q1, ⟨us, rfl, q2, fun y hy => (hu y hy).mono q1⟩, q3⟩
theorem onesL {v x : Sl} {us : List EB} {e : Ent} {b : Nat} {T t : TypeId} (he : ElemOk Tryz.prog t T 3 40) (hs : Sat H S (lst b T (eV (e, x)) :: own T 3 v (entV us) :: R)) (hb : us.length < 100000000)
    {K : Sl → Heap → Prop} (hk : ∀ v' H', Sat H' S (own T 3 v' (entV (us ++ [(e, x)])) :: R) → K v' H') :
    RunK Tryz.prog .sl (Builtin.append_ #[t, t] t #[.slice v.a v.l v.c, .slice (some ⟨b, 0, none⟩) 1 1]) H K := by
  have hvl := (own.len hs.swap).1
  rw [entV_len] at hvl
  refine append_one he (v := v) (xs := entV us) hs rfl (eV_one _) (by omega) (by unfold maxLen; omega) fun v' H' hv' hs' => hk v' H' ?_
  have e : entV us ++ eV (e, x) = entV (us ++ [(e, x)]) := by simp [entV]
  rw [e] at hs'; exact hs'
theorem rhead_ok {v : Sl} {hd : Hd} (hs : Sat H S R) (hv : RdB S v hd.body) (hk : hd.ok)
    {K : Value → Heap → Prop} (hK : ∀ H', Sat H' S R → K (.tuple #[.int .u64 (hd.serial : Int), .bool hd.anew, .agg #[.int .u64 (hd.i : Int), .int .u64 (hd.t : Int), .slice none 0 0], .bool true]) H') : CallsH Tryz.prog 152 #[.int .u8 1, .slice v.a v.l v.c] H K := by
  apply vc152
  obtain ⟨k1, k2, k3⟩ := hk
  have hbl := hd.body_len ⟨k1, k2, k3⟩
  unfold MaxI at k1 k2 k3
  intro b1 h1 f1 b2 h2 f2
  have hs1 : Sat h1 S (lst b1 35 [.int .u64 0, .int .u64 0, .slice none 0 0] :: R) := hs.fresh f1
  have hs2 : Sat h2 S (rdr2 b2 v false :: lst b1 35 [.int .u64 0, .int .u64 0, .slice none 0 0] :: R) := hs1.fresh f2
  have hbe : hd.body = natB hd.serial ++ (flagB hd.anew ++ (natB hd.i ++ natB hd.t)) := by simp [Hd.body]
  rw [hbe] at hv hbl
  simp only [List.length_append] at hbl
  refine rn_spec (most := 4611686018427387904) (n := hd.serial) hs2 hv (by omega) (by omega) (by simp only [List.length_append]; omega) fun v1 h3 hv1 hs3 => ⟨_, rfl, ?_⟩
  refine rf_spec hs3 hv1 (by simp only [List.length_append]; omega) fun v2 h4 hv2 hs4 => ⟨_, rfl, ?_⟩
  intro b3 h5 f5
  have hs5 : Sat h5 S (lst b3 35 [.int .u64 0, .int .u64 0, .slice none 0 0] :: rdr2 b2 v2 false :: lst b1 35 [.int .u64 0, .int .u64 0, .slice none 0 0] :: R) := hs4.fresh f5
  refine rn_spec (most := 4611686018427387904) (n := hd.i) hs5.swap hv2 (by omega) (by omega) (by omega) fun v3 h6 hv3 hs6 => ⟨_, rfl, ?_⟩
  refine hs6.swap.store (by simp) fun h7 hs7 => ?_
  have hv3' : RdB S v3 (natB hd.t ++ []) := by simpa using hv3
  refine rn_spec (most := 4611686018427387904) (n := hd.t) hs7.swap hv3' (by omega) (by omega) (by simp) fun v4 h8 hv4 hs8 => ⟨_, rfl, ?_⟩
  refine hs8.swap.store (by simp [putL]) fun h9 hs9 => ?_
  have hs9 : Sat h9 S (lst b3 35 [.int .u64 (hd.i : Int), .int .u64 (hd.t : Int), .slice none 0 0] :: rdr2 b2 v4 false :: lst b1 35 [.int .u64 0, .int .u64 0, .slice none 0 0] :: R) := hs9
  refine ⟨_, _, ⟨none, 0, 0⟩, hs9.cells 0 rfl, CondP.of (fun _ => ?_) fun hc => by simp at hc⟩
  refine re_spec hs9.swap (by have := RdB.len hv4; simpa using this) ⟨_, rfl, hs9.cells 0 rfl, ?_⟩
  refine (hs9.pick 2 rfl).store (by simp) fun h11 hs10 => ?_
  have hs10 : Sat h11 S (lst b1 35 [.int .u64 (hd.i : Int), .int .u64 (hd.t : Int), .slice none 0 0] :: lst b3 35 [.int .u64 (hd.i : Int), .int .u64 (hd.t : Int), .slice none 0 0] :: rdr2 b2 v4 false :: R) := hs10
  exact ⟨_, _, ⟨none, 0, 0⟩, hs10.cells 0 rfl, hK h11 hs10.drop.drop.drop⟩
theorem rfirst_ok {v : Sl} {hd : Hd} {rest : List UInt8} (hs : Sat H S R) (hv : RdB S v (parcelB 1 hd.body ++ rest)) (hk : hd.ok) (hlen : rest.length < 1000000000)
    {K : Value → Heap → Prop} (hK : ∀ H' S', PH.le S S' → Sat H' S' R → K (.tuple #[.int .u64 (hd.serial : Int), .bool true]) H') : CallsH Tryz.prog 109 #[.slice v.a v.l v.c] H K := by
  apply vc109
  have hbl := hd.body_len hk
  refine rtake_ok hs hv (by decide) (by omega) hlen fun v' h1 S1 hS1 hv' hs1 => ⟨_, v', _, _, rfl, CondP.of (fun hc => by cases hc) fun _ => ?_⟩
  refine rhead_ok hs1 hv' hk fun h2 hs2 => ⟨_, _, _, _, ⟨none, 0, 0⟩, _, rfl, ?_⟩
  intro b1 h3 f3
  have hs3 : Sat h3 S1 (lst b1 35 [.int .u64 0, .int .u64 0, .slice none 0 0] :: R) := hs2.fresh f3
  exact hs3.store (by simp) fun h4 hs4 => hK h4 S1 hS1 hs4.drop
theorem rfirst_torn {v : Sl} {t : List UInt8} (hs : Sat H S R) (hv : RdB S v t) (ht : Tail t)
    {K : Value → Heap → Prop} (hK : ∀ H', Sat H' S R → K (.tuple #[.int .u64 0, .bool false]) H') : CallsH Tryz.prog 109 #[.slice v.a v.l v.c] H K := by
  apply vc109
  obtain ⟨kind, body, q, h0, hb, hp, hq⟩ := ht
  exact rtake_torn hs hv hp hq h0 hb fun h1 hs1 => ⟨_, ⟨none, 0, 0⟩, _, _, rfl, CondP.of (fun _ => hK h1 hs1) fun hc => by cases hc⟩
def rfV (g : PL) (x : Sl) (n : Nat) : List Value := [.int .u64 (g.fi : Int), .int .u64 (g.ft : Int), .slice none 0 0, .slice x.a x.l x.c, .int .i64 (n : Int)]
theorem PL.last_at {g : PL} (h : 0 < g.es.length) : g.last = ((g.es[g.es.length - 1]'(by omega)).i, (g.es[g.es.length - 1]'(by omega)).t) := by
  unfold PL.last
  rw [List.getLast?_eq_getElem?, List.getElem?_eq_getElem (by omega)]
theorem PL.last_nil {g : PL} (h : g.es = []) : g.last = (g.fi, g.ft) := by
  unfold PL.last; rw [h]; rfl
theorem rlast_spec {g : PL} {x : Sl} {n : Nat} (hs : Sat H S R) (hx : EL S x g.es) (hlen : g.es.length < 100000000)
    {K : Value → Heap → Prop} (hK : ∀ (y : Sl) H', Sat H' S R → K (.agg #[.int .u64 (g.last.1 : Int), .int .u64 (g.last.2 : Int), .slice y.a y.l y.c]) H') : CallsH Tryz.prog 54 #[.agg (rfV g x n).toArray] H K := by
  refine vc54 (g.fi : Int) (g.ft : Int) ⟨none, 0, 0⟩ x (n : Int) H K ?_
  intro b1 h1 f1 b2 h2 f2
  have hs1 : Sat h1 S (lst b1 119 (rfV g x n) :: R) := hs.fresh f1
  have hs2 : Sat h2 S (lst b2 35 [.int .u64 0, .int .u64 0, .slice none 0 0] :: lst b1 119 (rfV g x n) :: R) := hs1.fresh f2
  have hc3 := hs2.swap.cell 3 (v := .slice x.a x.l x.c) rfl
  obtain ⟨hl, hlc⟩ := EL.len hx
  refine ⟨x, hc3, CondP.of (fun hc => ?_) (fun hc => ⟨x, hc3, x, hc3, ?_⟩)⟩
  · have h0 : g.es = [] := List.eq_nil_of_length_eq_zero (by simp at hc; omega)
    refine ⟨_, _, ⟨none, 0, 0⟩, hs2.swap.cells 0 rfl, ?_⟩
    refine hs2.store (by simp) fun h3 hs3 => ?_
    have hs3 : Sat h3 S (lst b2 35 [.int .u64 (g.fi : Int), .int .u64 (g.ft : Int), .slice none 0 0] :: lst b1 119 (rfV g x n) :: R) := hs3
    refine ⟨_, _, ⟨none, 0, 0⟩, hs3.cells 0 rfl, ?_⟩
    have := hK ⟨none, 0, 0⟩ h3 hs3.drop.drop
    rw [PL.last_nil h0] at this; exact this
  · have h0 : 0 < g.es.length := by simp at hc; omega
    have e : IntKind.i64.wrap (((x.l : Nat) : Int) - 1) = ((g.es.length - 1 : Nat) : Int) := by rw [i64_in (by omega) (by omega)]; omega
    rw [e]
    simp only [Int.toNat_natCast]
    obtain ⟨gb, go, y, ga, gc, _⟩ := hx.at hs2 (k := g.es.length - 1) (by omega)
    refine ⟨⟨by omega, by omega⟩, NilP.of ga ⟨_, _, y, gc, ?_⟩⟩
    refine hs2.store (by simp) fun h3 hs3 => ?_
    have hs3 : Sat h3 S (lst b2 35 (eV (g.es[g.es.length - 1], y)) :: lst b1 119 (rfV g x n) :: R) := hs3
    refine ⟨_, _, y, hs3.cells 0 rfl, ?_⟩
    have := hK y h3 hs3.drop.drop
    rw [PL.last_at h0] at this; exact this
theorem rto_spec {g g' : PL} {x z : Sl} {n i t : Nat} (hs : Sat H S R) (hx : EL S x g.es) (hlen : g.es.length < 100000000) (hto : g.to i t = some g')
    {K : Value → Heap → Prop} (hK : ∀ (y : Sl) H' S', PH.le S S' → EL S' y g'.es → Sat H' S' R → K (.tuple #[.agg (rfV g' y n).toArray, .bool true]) H') :
    CallsH Tryz.prog 153 #[.agg (rfV g x n).toArray, .agg #[.int .u64 (i : Int), .int .u64 (t : Int), .slice z.a z.l z.c]] H K := by
  refine vc153 (g.fi : Int) (g.ft : Int) ⟨none, 0, 0⟩ x (n : Int) (i : Int) (t : Int) z H K ?_
  intro b1 h1 f1 b2 h2 f2 b3 h3 f3
  have hs1 : Sat h1 S (lst b1 119 (rfV g x n) :: R) := hs.fresh f1
  have hs2 : Sat h2 S (lst b2 35 [.int .u64 (i : Int), .int .u64 (t : Int), .slice z.a z.l z.c] :: lst b1 119 (rfV g x n) :: R) := hs1.fresh f2
  have hs3 : Sat h3 S (lst b3 119 (rfV ⟨0, 0, []⟩ ⟨none, 0, 0⟩ 0) :: lst b2 35 [.int .u64 (i : Int), .int .u64 (t : Int), .slice z.a z.l z.c] :: lst b1 119 (rfV g x n) :: R) := hs2.fresh f3
  obtain ⟨hl, hlc⟩ := EL.len hx
  refine ⟨fun tt h => h = h3 ∧ tt = decide (i = g.fi ∧ t = g.ft), ?_, ?_⟩
  · rintro tt h4 ⟨rfl, rfl⟩ _
    refine CondP.of (fun hc => ?_) (fun hc => ?_)
    · have hc := of_decide_eq_true hc
      have hg' : g' = ⟨g.fi, g.ft, []⟩ := by
        unfold PL.to at hto
        rw [if_pos hc] at hto; cases hto; rfl
      refine (hs3.pick 2 rfl).store (by simp [rfV]) fun h5 hs4 => ?_
      have hs4 : Sat h5 S (lst b1 119 (rfV g' ⟨none, 0, 0⟩ n) :: lst b3 119 (rfV ⟨0, 0, []⟩ ⟨none, 0, 0⟩ 0) :: lst b2 35 [.int .u64 (i : Int), .int .u64 (t : Int), .slice z.a z.l z.c] :: R) := by rw [hg']; exact hs4
      refine ⟨_, _, ⟨none, 0, 0⟩, ⟨none, 0, 0⟩, _, hs4.cells 0 rfl, ?_⟩
      refine hs4.swap.store (by simp [rfV]) fun h6 hs5 => ?_
      have hs5 : Sat h6 S (lst b3 119 (rfV g' ⟨none, 0, 0⟩ n) :: lst b1 119 (rfV g' ⟨none, 0, 0⟩ n) :: lst b2 35 [.int .u64 (i : Int), .int .u64 (t : Int), .slice z.a z.l z.c] :: R) := hs5
      refine ⟨_, _, ⟨none, 0, 0⟩, ⟨none, 0, 0⟩, _, hs5.cells 0 rfl, ?_⟩
      exact hK ⟨none, 0, 0⟩ h6 S (PH.le.refl _) (by rw [hg']; exact EL.nil S) hs5.drop.drop.drop
    · have hc := of_decide_eq_false hc
      unfold PL.to at hto
      rw [if_neg hc] at hto
      cases hf : g.es.findIdx? (fun e => e.i == i && e.t == t) with
      | none => rw [hf] at hto; cases hto
      | some k =>
      rw [hf] at hto
      have hg' : g' = ⟨g.fi, g.ft, g.es.take (k + 1)⟩ := by cases hto; rfl
      obtain ⟨hk, hp, hn⟩ := List.findIdx?_eq_some_iff_getElem.1 hf
      refine ⟨fun m h => ∃ j : Nat, m = j ∧ j ≤ k ∧ h = h4, fun m _ => k + 1 - m.toNat, ⟨0, rfl, Nat.zero_le _, rfl⟩, ?_⟩
      rintro m h7 ⟨j, rfl, hj, rfl⟩ _
      have hb1 := hs3.pick 2 rfl
      have hc3 := hb1.cell 3 (v := .slice x.a x.l x.c) rfl
      refine ⟨x, hc3, CondP.of (fun _ => ⟨x, hc3, ⟨by omega, by omega⟩, ?_⟩) (fun hc => by simp at hc; omega)⟩
      obtain ⟨gb, go, y, ga, gc, _⟩ := hx.at hs3 (k := j) (by omega)
      have g0 := gc.get 0 _ rfl
      have g1 := gc.get 1 _ rfl
      rw [i64_succ (by omega)]
      simp only [Int.toNat_natCast]
      refine NilP.of ga ⟨_, g0, _, (hs3.pick 1 rfl).cell 0 rfl, ?_⟩
      rw [beq_nat_int]
      have hnext : ¬ ((g.es[j]).i == i && (g.es[j]).t == t) = true → (∃ j' : Nat, ((j + 1 : Nat) : Int) = j' ∧ j' ≤ k ∧ True) ∧ k + 1 - (j + 1) < k + 1 - j := by
        intro hne
        refine ⟨⟨j + 1, rfl, ?_, trivial⟩, by omega⟩
        rcases Nat.lt_or_ge j k with h | h
        · exact h
        · exfalso
          have : j = k := by omega
          subst this; exact hne hp
      refine CondP.of (fun hc1 => ⟨x, hc3, ⟨by omega, by omega⟩, NilP.of ga ⟨_, g1, _, (hs3.pick 1 rfl).cell 1 rfl, ?_⟩⟩) (fun hc1 => hnext (by rw [hc1]; simp))
      rw [beq_nat_int]
      refine CondP.of (fun hc2 => ?_) (fun hc2 => hnext (by rw [hc2]; simp))
      have hjk : j = k := by
        rcases Nat.lt_or_ge j k with h | h
        · exfalso
          have := hn j h
          simp only [hc1, hc2] at this; simp at this
        · omega
      subst hjk
      intro b6 h8 f8
      have hs6 := newL hs3 f8
      refine ⟨x, (hs6.pick 3 rfl).cell 3 rfl, ⟨by omega, by omega, by omega⟩, ?_⟩
      refine appL el36 hs6 (hx.take (k := j + 1) hk) (by rw [List.length_take]; simp; omega) fun v' h9 ys hy1 hy2 hs7 => ?_
      obtain ⟨S1, q1, q2, q3⟩ := sealL (us := ys) hs7 hy2
      rw [hy1] at q2
      refine (q3.pick 2 rfl).store (by simp [rfV]) fun h10 hs8 => ?_
      have hs8 : Sat h10 S1 (lst b1 119 (rfV g' v' n) :: lst b3 119 (rfV ⟨0, 0, []⟩ ⟨none, 0, 0⟩ 0) :: lst b2 35 [.int .u64 (i : Int), .int .u64 (t : Int), .slice z.a z.l z.c] :: R) := by rw [hg']; exact hs8
      refine ⟨_, _, ⟨none, 0, 0⟩, v', _, hs8.cells 0 rfl, ?_⟩
      refine hs8.swap.store (by simp [rfV]) fun h11 hs9 => ?_
      have hs9 : Sat h11 S1 (lst b3 119 (rfV g' v' n) :: lst b1 119 (rfV g' v' n) :: lst b2 35 [.int .u64 (i : Int), .int .u64 (t : Int), .slice z.a z.l z.c] :: R) := hs9
      refine ⟨_, _, ⟨none, 0, 0⟩, v', _, hs9.cells 0 rfl, ?_⟩
      exact hK v' h11 S1 q1 (by rw [hg']; exact q2) hs9.drop.drop.drop
  · refine ⟨_, (hs3.pick 1 rfl).cell 0 rfl, _, (hs3.pick 2 rfl).cell 0 rfl, ?_⟩
    rw [beq_nat_int]
    refine CondP.of (fun hc => ⟨_, (hs3.pick 1 rfl).cell 1 rfl, _, (hs3.pick 2 rfl).cell 1 rfl, ?_⟩) (fun hc => ?_)
    · rw [beq_nat_int]
      refine ⟨rfl, ?_⟩
      have hc : i = g.fi := by simpa using hc
      simp [hc, Bool.beq_eq_decide_eq]
    · have hc : ¬ i = g.fi := by simpa using hc
      exact ⟨rfl, by simp [hc]⟩
end
end Go.Sx.Tryz
namespace Go.Sx.Tryz
open Go Go.Sx Go.Proofs
set_option maxRecDepth 100000
set_option linter.unusedVariables false
noncomputable def c110 : Code := (Tryz.f110.body).getD .skip
def a110 : Ann := (.seq .leaf (.seq .leaf (.seq .leaf (.seq (.inn (.loop [(1, .one (.sl)), (10, .one (.b)), (11, .one (.i .u64))] (.seq (.seq .leaf (.br .leaf .leaf)) (.inn (.seq .leaf (.seq (.join [(40, .one (.b))] .leaf (.br (.seq .leaf .leaf) .leaf)) (.seq (.seq .leaf (.br (.seq .leaf .leaf) .leaf)) (.seq .leaf (.seq .leaf (.seq .leaf (.inn (.seq .leaf (.br (.seq .leaf (.seq (.join [(67, .one (.b))] .leaf (.br (.seq .leaf .leaf) .leaf)) (.seq .leaf (.seq .leaf (.seq (.join [(74, .one (.b))] .leaf (.br (.seq .leaf (.seq .leaf .leaf)) .leaf)) (.seq .leaf (.seq (.seq .leaf (.br (.seq .leaf .leaf) .leaf)) .leaf))))))) (.seq .leaf (.br (.seq .leaf (.seq .leaf (.seq .leaf (.seq .leaf (.seq .leaf (.seq (.join [(124, .one (.b))] .leaf (.br (.seq .leaf .leaf) .leaf)) (.reg (.q 1 (.q 2 (.q 4 (.m 0 (.m 3 (.m 5 (.m 6 (.q 7 (.m 8 (.fin) (.nil))) (.nil)) (.nil)) (.m 5 (.m 3 (.m 6 (.q 7 (.m 8 (.fin) (.nil))) (.nil)) (.nil)) (.nil))) (.m 5 (.m 0 (.m 3 (.m 6 (.q 7 (.m 8 (.fin) (.nil))) (.nil)) (.nil)) (.nil)) (.nil))))))))))))) (.seq .leaf (.br (.seq .leaf (.seq (.join [(153, .one (.b))] .leaf (.br (.seq .leaf .leaf) .leaf)) .leaf)) (.seq .leaf .leaf)))))))))))))))))) (.seq .leaf .leaf)))))
theorem ok110 : okC tab 168 true c110 a110 = true := by kernel_rfl
theorem vc110 (s_0 : Int) (s_1 : Int) (s_2 : Sl) (s_3 : Sl) (s_4 : Int) (b_ : Sl) (oldest_ : Bool) (newest_ : Bool) (h : Heap) (R : Value → Heap → Prop)
  (hv : ∀ b1 h1, Fresh h (.cells #[.int .u64 s_0, .int .u64 s_1, .slice s_2.a s_2.l s_2.c, .slice s_3.a s_3.l s_3.c, .int .i64 s_4] 119) b1 h1 →
   ∀ b2 h2, Fresh h1 (.cells #[.int .u64 0, .int .u64 0, .slice none 0 0, .slice none 0 0, .int .i64 0] 119) b2 h2 →
   ∃ (I1 : Sl → Bool → Int → Heap → Prop) (mu1 : Sl → Bool → Int → Heap → Nat), I1 b_ false 0 h2 ∧ (∀ x1 : Sl, ∀ t1 : Bool, ∀ n1 : Int, ∀ h3, I1 x1 t1 n1 h3 → ∀ _ : Env,
   CondP (decide ((((x1.l : Nat) : Int) : Int) > 0)) (
   CallsH Tryz.prog 151 #[.slice x1.a x1.l x1.c] h3 (fun r1 h4 => ∃ n2 : Int, ∃ x2 : Sl, ∃ n3 : Int, ∃ n4 : Int, r1 = .tuple #[.int .u8 n2, .slice x2.a x2.l x2.c, .int .i64 n3, .int .i64 n4] ∧
   ∃ J1 : Bool → Heap → Prop, (∀ t2 : Bool, ∀ h5, J1 t2 h5 → ∀ _ : Env,
   CondP t2 (
   ∃ n5 : Int, ∃ n6 : Int, ∃ x3 : Sl, ∃ x4 : Sl, ∃ n7 : Int, CellsAt h5 b1 0 [.int .u64 n5, .int .u64 n6, .slice x3.a x3.l x3.c, .slice x4.a x4.l x4.c, .int .i64 n7] ∧
   CanSt h5 b2 0 [.int .u64 n5, .int .u64 n6, .slice x3.a x3.l x3.c, .slice x4.a x4.l x4.c, .int .i64 n7] ∧ ∀ h6, Stored h5 b2 0 [.int .u64 n5, .int .u64 n6, .slice x3.a x3.l x3.c, .slice x4.a x4.l x4.c, .int .i64 n7] h6 →
   ∃ n8 : Int, ∃ n9 : Int, ∃ x5 : Sl, ∃ x6 : Sl, ∃ n10 : Int, CellsAt h6 b2 0 [.int .u64 n8, .int .u64 n9, .slice x5.a x5.l x5.c, .slice x6.a x6.l x6.c, .int .i64 n10] ∧
   R (.tuple #[.agg #[.int .u64 n8, .int .u64 n9, .slice x5.a x5.l x5.c, .slice x6.a x6.l x6.c, .int .i64 n10], .int .i64 0]) h6) (
   CondP ((n4 : Int) != 0) (
   ∃ n11 : Int, ∃ n12 : Int, ∃ x7 : Sl, ∃ x8 : Sl, ∃ n13 : Int, CellsAt h5 b1 0 [.int .u64 n11, .int .u64 n12, .slice x7.a x7.l x7.c, .slice x8.a x8.l x8.c, .int .i64 n13] ∧
   CanSt h5 b2 0 [.int .u64 n11, .int .u64 n12, .slice x7.a x7.l x7.c, .slice x8.a x8.l x8.c, .int .i64 n13] ∧ ∀ h7, Stored h5 b2 0 [.int .u64 n11, .int .u64 n12, .slice x7.a x7.l x7.c, .slice x8.a x8.l x8.c, .int .i64 n13] h7 →
   ∃ n14 : Int, ∃ n15 : Int, ∃ x9 : Sl, ∃ x10 : Sl, ∃ n16 : Int, CellsAt h7 b2 0 [.int .u64 n14, .int .u64 n15, .slice x9.a x9.l x9.c, .slice x10.a x10.l x10.c, .int .i64 n16] ∧
   R (.tuple #[.agg #[.int .u64 n14, .int .u64 n15, .slice x9.a x9.l x9.c, .slice x10.a x10.l x10.c, .int .i64 n16], .int .i64 20]) h7) (
   ((0 : Int) ≤ n3 ∧ n3 ≤ ((x1.l : Nat) : Int)) ∧
   ∀ b3 h8, Fresh h5 (.cells #[.slice x2.a x2.l x2.c, .bool false] 219) b3 h8 →
   CondP ((n2 : Int) == 1) (
   CallsH Tryz.prog 152 #[.int .u8 n2, .slice x2.a x2.l x2.c] h8 (fun r2 h9 => ∃ n17 : Int, ∃ t3 : Bool, ∃ n18 : Int, ∃ n19 : Int, ∃ x11 : Sl, ∃ t4 : Bool, r2 = .tuple #[.int .u64 n17, .bool t3, .agg #[.int .u64 n18, .int .u64 n19, .slice x11.a x11.l x11.c], .bool t4] ∧
   ∀ b4 h10, Fresh h9 (.cells #[.int .u64 0, .int .u64 0, .slice none 0 0] 35) b4 h10 →
   CanSt h10 b4 0 [.int .u64 n18, .int .u64 n19, .slice x11.a x11.l x11.c] ∧ ∀ h11, Stored h10 b4 0 [.int .u64 n18, .int .u64 n19, .slice x11.a x11.l x11.c] h11 →
   ∃ J2 : Bool → Heap → Prop, (∀ t5 : Bool, ∀ h12, J2 t5 h12 → ∀ _ : Env,
   CondP t5 (
   ∃ n20 : Int, ∃ n21 : Int, ∃ x12 : Sl, ∃ x13 : Sl, ∃ n22 : Int, CellsAt h12 b1 0 [.int .u64 n20, .int .u64 n21, .slice x12.a x12.l x12.c, .slice x13.a x13.l x13.c, .int .i64 n22] ∧
   CanSt h12 b2 0 [.int .u64 n20, .int .u64 n21, .slice x12.a x12.l x12.c, .slice x13.a x13.l x13.c, .int .i64 n22] ∧ ∀ h13, Stored h12 b2 0 [.int .u64 n20, .int .u64 n21, .slice x12.a x12.l x12.c, .slice x13.a x13.l x13.c, .int .i64 n22] h13 →
   ∃ n23 : Int, ∃ n24 : Int, ∃ x14 : Sl, ∃ x15 : Sl, ∃ n25 : Int, CellsAt h13 b2 0 [.int .u64 n23, .int .u64 n24, .slice x14.a x14.l x14.c, .slice x15.a x15.l x15.c, .int .i64 n25] ∧
   R (.tuple #[.agg #[.int .u64 n23, .int .u64 n24, .slice x14.a x14.l x14.c, .slice x15.a x15.l x15.c, .int .i64 n25], .int .i64 20]) h13) (
   ∃ n26 : Int, cellH h12 b4 0 = some (.int .u64 n26) ∧
   ∃ J3 : Bool → Heap → Prop, (∀ t6 : Bool, ∀ h14, J3 t6 h14 → ∀ _ : Env,
   CondP t6 (
   ∃ n27 : Int, ∃ n28 : Int, ∃ x16 : Sl, CellsAt h14 b4 0 [.int .u64 n27, .int .u64 n28, .slice x16.a x16.l x16.c] ∧
   CanSt h14 b1 0 [.int .u64 n27, .int .u64 n28, .slice x16.a x16.l x16.c] ∧ ∀ h15, Stored h14 b1 0 [.int .u64 n27, .int .u64 n28, .slice x16.a x16.l x16.c] h15 →
   CanSt h15 b1 3 [.slice none 0 0] ∧ ∀ h16, Stored h15 b1 3 [.slice none 0 0] h16 →
   I1 ⟨subA x1.a n3.toNat x1.c 1, x1.l - n3.toNat, x1.c - n3.toNat⟩ true n26 h16 ∧ mu1 ⟨subA x1.a n3.toNat x1.c 1, x1.l - n3.toNat, x1.c - n3.toNat⟩ true n26 h16 < mu1 x1 t1 n1 h3) (
   ∃ n29 : Int, ∃ n30 : Int, ∃ x17 : Sl, ∃ x18 : Sl, ∃ n31 : Int, CellsAt h14 b1 0 [.int .u64 n29, .int .u64 n30, .slice x17.a x17.l x17.c, .slice x18.a x18.l x18.c, .int .i64 n31] ∧
   ∃ n32 : Int, ∃ n33 : Int, ∃ x19 : Sl, CellsAt h14 b4 0 [.int .u64 n32, .int .u64 n33, .slice x19.a x19.l x19.c] ∧
   CallsH Tryz.prog 153 #[.agg #[.int .u64 n29, .int .u64 n30, .slice x17.a x17.l x17.c, .slice x18.a x18.l x18.c, .int .i64 n31], .agg #[.int .u64 n32, .int .u64 n33, .slice x19.a x19.l x19.c]] h14 (fun r3 h17 => ∃ n34 : Int, ∃ n35 : Int, ∃ x20 : Sl, ∃ x21 : Sl, ∃ n36 : Int, ∃ t7 : Bool, r3 = .tuple #[.agg #[.int .u64 n34, .int .u64 n35, .slice x20.a x20.l x20.c, .slice x21.a x21.l x21.c, .int .i64 n36], .bool t7] ∧
   ∀ b5 h18, Fresh h17 (.cells #[.int .u64 0, .int .u64 0, .slice none 0 0, .slice none 0 0, .int .i64 0] 119) b5 h18 →
   CanSt h18 b5 0 [.int .u64 n34, .int .u64 n35, .slice x20.a x20.l x20.c, .slice x21.a x21.l x21.c, .int .i64 n36] ∧ ∀ h19, Stored h18 b5 0 [.int .u64 n34, .int .u64 n35, .slice x20.a x20.l x20.c, .slice x21.a x21.l x21.c, .int .i64 n36] h19 →
   CondP (!t7) (
   ∃ n37 : Int, ∃ n38 : Int, ∃ x22 : Sl, ∃ x23 : Sl, ∃ n39 : Int, CellsAt h19 b1 0 [.int .u64 n37, .int .u64 n38, .slice x22.a x22.l x22.c, .slice x23.a x23.l x23.c, .int .i64 n39] ∧
   CanSt h19 b2 0 [.int .u64 n37, .int .u64 n38, .slice x22.a x22.l x22.c, .slice x23.a x23.l x23.c, .int .i64 n39] ∧ ∀ h20, Stored h19 b2 0 [.int .u64 n37, .int .u64 n38, .slice x22.a x22.l x22.c, .slice x23.a x23.l x23.c, .int .i64 n39] h20 →
   ∃ n40 : Int, ∃ n41 : Int, ∃ x24 : Sl, ∃ x25 : Sl, ∃ n42 : Int, CellsAt h20 b2 0 [.int .u64 n40, .int .u64 n41, .slice x24.a x24.l x24.c, .slice x25.a x25.l x25.c, .int .i64 n42] ∧
   R (.tuple #[.agg #[.int .u64 n40, .int .u64 n41, .slice x24.a x24.l x24.c, .slice x25.a x25.l x25.c, .int .i64 n42], .int .i64 20]) h20) (
   ∃ n43 : Int, ∃ n44 : Int, ∃ x26 : Sl, ∃ x27 : Sl, ∃ n45 : Int, CellsAt h19 b5 0 [.int .u64 n43, .int .u64 n44, .slice x26.a x26.l x26.c, .slice x27.a x27.l x27.c, .int .i64 n45] ∧
   CanSt h19 b1 0 [.int .u64 n43, .int .u64 n44, .slice x26.a x26.l x26.c, .slice x27.a x27.l x27.c, .int .i64 n45] ∧ ∀ h21, Stored h19 b1 0 [.int .u64 n43, .int .u64 n44, .slice x26.a x26.l x26.c, .slice x27.a x27.l x27.c, .int .i64 n45] h21 →
   I1 ⟨subA x1.a n3.toNat x1.c 1, x1.l - n3.toNat, x1.c - n3.toNat⟩ true n26 h21 ∧ mu1 ⟨subA x1.a n3.toNat x1.c 1, x1.l - n3.toNat, x1.c - n3.toNat⟩ true n26 h21 < mu1 x1 t1 n1 h3)))) ∧
   CondP oldest_ (
   J3 true h12) (
   J3 t3 h12))) ∧
   CondP (!t4) (
   J2 true h11) (
   J2 t1 h11))) (
   CondP ((n2 : Int) == 2) (
   ∀ b6 h22, Fresh h8 (.cells #[.int .u64 0, .int .u64 0, .slice none 0 0] 35) b6 h22 →
   CallsH Tryz.prog 154 #[.pointer (some ⟨b3, 0, none⟩), .int .u64 4611686018427387904] h22 (fun r4 h23 => ∃ n46 : Int, r4 = .int .u64 n46 ∧
   CanSt h23 b6 0 [.int .u64 n46] ∧ ∀ h24, Stored h23 b6 0 [.int .u64 n46] h24 →
   CallsH Tryz.prog 154 #[.pointer (some ⟨b3, 0, none⟩), .int .u64 4611686018427387904] h24 (fun r5 h25 => ∃ n47 : Int, r5 = .int .u64 n47 ∧
   CanSt h25 b6 1 [.int .u64 n47] ∧ ∀ h26, Stored h25 b6 1 [.int .u64 n47] h26 →
   CallsH Tryz.prog 155 #[.pointer (some ⟨b3, 0, none⟩), .int .i64 512] h26 (fun r6 h27 => ∃ s1 : ByteArray, r6 = .string s1 ∧
   RunK Tryz.prog (.sl) (convert 9 33 (.string s1)) h27 (fun x28 h28 =>
   CanSt h28 b6 2 [.slice x28.a x28.l x28.c] ∧ ∀ h29, Stored h28 b6 2 [.slice x28.a x28.l x28.c] h29 →
   ∃ n48 : Int, ∃ n49 : Int, ∃ x29 : Sl, ∃ x30 : Sl, ∃ n50 : Int, CellsAt h29 b1 0 [.int .u64 n48, .int .u64 n49, .slice x29.a x29.l x29.c, .slice x30.a x30.l x30.c, .int .i64 n50] ∧
   CallsH Tryz.prog 54 #[.agg #[.int .u64 n48, .int .u64 n49, .slice x29.a x29.l x29.c, .slice x30.a x30.l x30.c, .int .i64 n50]] h29 (fun r7 h30 => ∃ n51 : Int, ∃ n52 : Int, ∃ x31 : Sl, r7 = .agg #[.int .u64 n51, .int .u64 n52, .slice x31.a x31.l x31.c] ∧
   ∀ b7 h31, Fresh h30 (.cells #[.int .u64 0, .int .u64 0, .slice none 0 0] 35) b7 h31 →
   CanSt h31 b7 0 [.int .u64 n51, .int .u64 n52, .slice x31.a x31.l x31.c] ∧ ∀ h32, Stored h31 b7 0 [.int .u64 n51, .int .u64 n52, .slice x31.a x31.l x31.c] h32 →
   ∃ J4 : Bool → Heap → Prop, (∀ t8 : Bool, ∀ h33, J4 t8 h33 → ∀ _ : Env,
   CondP t8 (
   ∃ n53 : Int, ∃ n54 : Int, ∃ x32 : Sl, ∃ x33 : Sl, ∃ n55 : Int, CellsAt h33 b1 0 [.int .u64 n53, .int .u64 n54, .slice x32.a x32.l x32.c, .slice x33.a x33.l x33.c, .int .i64 n55] ∧
   CanSt h33 b2 0 [.int .u64 n53, .int .u64 n54, .slice x32.a x32.l x32.c, .slice x33.a x33.l x33.c, .int .i64 n55] ∧ ∀ h34, Stored h33 b2 0 [.int .u64 n53, .int .u64 n54, .slice x32.a x32.l x32.c, .slice x33.a x33.l x33.c, .int .i64 n55] h34 →
   ∃ n56 : Int, ∃ n57 : Int, ∃ x34 : Sl, ∃ x35 : Sl, ∃ n58 : Int, CellsAt h34 b2 0 [.int .u64 n56, .int .u64 n57, .slice x34.a x34.l x34.c, .slice x35.a x35.l x35.c, .int .i64 n58] ∧
   R (.tuple #[.agg #[.int .u64 n56, .int .u64 n57, .slice x34.a x34.l x34.c, .slice x35.a x35.l x35.c, .int .i64 n58], .int .i64 20]) h34) (
   ∃ x36 : Sl, cellH h33 b1 3 = some (.slice x36.a x36.l x36.c) ∧
   ∃ n59 : Int, ∃ n60 : Int, ∃ x37 : Sl, CellsAt h33 b6 0 [.int .u64 n59, .int .u64 n60, .slice x37.a x37.l x37.c] ∧
   (∀ b8 h35, Fresh h33 (.cells #[] 35) b8 h35 →
   CellsAt h35 b6 0 [.int .u64 n59, .int .u64 n60, .slice x37.a x37.l x37.c] ∧
   cellH h35 b1 3 = some (.slice x36.a x36.l x36.c) ∧
   (RunK Tryz.prog (.sl) (Builtin.append_ #[36, 36] 36 #[.slice (some ⟨b8, 0, none⟩) 0 0, .slice x36.a x36.l x36.c]) h35 (fun x38 h36 =>
   CellsAt h36 b6 0 [.int .u64 n59, .int .u64 n60, .slice x37.a x37.l x37.c] ∧
   ∀ b9 h37, Fresh h36 (.cells #[.int .u64 n59, .int .u64 n60, .slice x37.a x37.l x37.c] 35) b9 h37 →
   RunK Tryz.prog (.sl) (Builtin.append_ #[36, 36] 36 #[.slice x38.a x38.l x38.c, .slice (some ⟨b9, 0, none⟩) 1 1]) h37 (fun x39 h38 =>
   CanSt h38 b1 3 [.slice x39.a x39.l x39.c] ∧ ∀ h39, Stored h38 b1 3 [.slice x39.a x39.l x39.c] h39 →
   I1 ⟨subA x1.a n3.toNat x1.c 1, x1.l - n3.toNat, x1.c - n3.toNat⟩ t1 n1 h39 ∧ mu1 ⟨subA x1.a n3.toNat x1.c 1, x1.l - n3.toNat, x1.c - n3.toNat⟩ t1 n1 h39 < mu1 x1 t1 n1 h3))) ∧
   (∀ b10 h40, Fresh h35 (.cells #[.int .u64 n59, .int .u64 n60, .slice x37.a x37.l x37.c] 35) b10 h40 →
   cellH h40 b1 3 = some (.slice x36.a x36.l x36.c) ∧
   RunK Tryz.prog (.sl) (Builtin.append_ #[36, 36] 36 #[.slice (some ⟨b8, 0, none⟩) 0 0, .slice x36.a x36.l x36.c]) h40 (fun x40 h41 =>
   RunK Tryz.prog (.sl) (Builtin.append_ #[36, 36] 36 #[.slice x40.a x40.l x40.c, .slice (some ⟨b10, 0, none⟩) 1 1]) h41 (fun x41 h42 =>
   CanSt h42 b1 3 [.slice x41.a x41.l x41.c] ∧ ∀ h43, Stored h42 b1 3 [.slice x41.a x41.l x41.c] h43 →
   I1 ⟨subA x1.a n3.toNat x1.c 1, x1.l - n3.toNat, x1.c - n3.toNat⟩ t1 n1 h43 ∧ mu1 ⟨subA x1.a n3.toNat x1.c 1, x1.l - n3.toNat, x1.c - n3.toNat⟩ t1 n1 h43 < mu1 x1 t1 n1 h3)))) ∧
   (∀ b11 h44, Fresh h33 (.cells #[.int .u64 n59, .int .u64 n60, .slice x37.a x37.l x37.c] 35) b11 h44 →
   cellH h44 b1 3 = some (.slice x36.a x36.l x36.c) ∧
   ∀ b12 h45, Fresh h44 (.cells #[] 35) b12 h45 →
   cellH h45 b1 3 = some (.slice x36.a x36.l x36.c) ∧
   RunK Tryz.prog (.sl) (Builtin.append_ #[36, 36] 36 #[.slice (some ⟨b12, 0, none⟩) 0 0, .slice x36.a x36.l x36.c]) h45 (fun x42 h46 =>
   RunK Tryz.prog (.sl) (Builtin.append_ #[36, 36] 36 #[.slice x42.a x42.l x42.c, .slice (some ⟨b11, 0, none⟩) 1 1]) h46 (fun x43 h47 =>
   CanSt h47 b1 3 [.slice x43.a x43.l x43.c] ∧ ∀ h48, Stored h47 b1 3 [.slice x43.a x43.l x43.c] h48 →
   I1 ⟨subA x1.a n3.toNat x1.c 1, x1.l - n3.toNat, x1.c - n3.toNat⟩ t1 n1 h48 ∧ mu1 ⟨subA x1.a n3.toNat x1.c 1, x1.l - n3.toNat, x1.c - n3.toNat⟩ t1 n1 h48 < mu1 x1 t1 n1 h3))))) ∧
   CallsH Tryz.prog 156 #[.pointer (some ⟨b3, 0, none⟩)] h32 (fun r8 h49 => ∃ n61 : Int, r8 = .int .i64 n61 ∧
   CondP ((n61 : Int) != 0) (
   J4 true h49) (
   ∃ n62 : Int, cellH h49 b6 0 = some (.int .u64 n62) ∧
   CondP ((n62 : Int) == 0) (
   J4 true h49) (
   ∃ n63 : Int, cellH h49 b6 0 = some (.int .u64 n63) ∧
   ∃ n64 : Int, cellH h49 b7 0 = some (.int .u64 n64) ∧
   CondP ((IntKind.u64.wrap (n63 - 1) : Int) != n64) (
   J4 true h49) (
   ∃ n65 : Int, cellH h49 b6 1 = some (.int .u64 n65) ∧
   ∃ n66 : Int, cellH h49 b7 1 = some (.int .u64 n66) ∧
   J4 (decide ((n65 : Int) < n66)) h49)))))))))) (
   CondP ((n2 : Int) == 3) (
   CallsH Tryz.prog 154 #[.pointer (some ⟨b3, 0, none⟩), .int .u64 18446744073709551615] h8 (fun r9 h50 => ∃ n67 : Int, r9 = .int .u64 n67 ∧
   ∃ J5 : Bool → Heap → Prop, (∀ t9 : Bool, ∀ h51, J5 t9 h51 → ∀ _ : Env,
   CondP t9 (
   ∃ n68 : Int, ∃ n69 : Int, ∃ x44 : Sl, ∃ x45 : Sl, ∃ n70 : Int, CellsAt h51 b1 0 [.int .u64 n68, .int .u64 n69, .slice x44.a x44.l x44.c, .slice x45.a x45.l x45.c, .int .i64 n70] ∧
   CanSt h51 b2 0 [.int .u64 n68, .int .u64 n69, .slice x44.a x44.l x44.c, .slice x45.a x45.l x45.c, .int .i64 n70] ∧ ∀ h52, Stored h51 b2 0 [.int .u64 n68, .int .u64 n69, .slice x44.a x44.l x44.c, .slice x45.a x45.l x45.c, .int .i64 n70] h52 →
   ∃ n71 : Int, ∃ n72 : Int, ∃ x46 : Sl, ∃ x47 : Sl, ∃ n73 : Int, CellsAt h52 b2 0 [.int .u64 n71, .int .u64 n72, .slice x46.a x46.l x46.c, .slice x47.a x47.l x47.c, .int .i64 n73] ∧
   R (.tuple #[.agg #[.int .u64 n71, .int .u64 n72, .slice x46.a x46.l x46.c, .slice x47.a x47.l x47.c, .int .i64 n73], .int .i64 20]) h52) (
   ∀ b13 h53, Fresh h51 (.cells #[] 35) b13 h53 →
   ∃ x48 : Sl, cellH h53 b1 3 = some (.slice x48.a x48.l x48.c) ∧
   ∃ n74 : Int, cellH h53 b1 0 = some (.int .u64 n74) ∧
   ((0 : Int) ≤ (0 : Int) ∧ (0 : Int) ≤ IntKind.u64.wrap ((IntKind.u64.wrap (n67 - 1)) - n74) ∧ IntKind.u64.wrap ((IntKind.u64.wrap (n67 - 1)) - n74) ≤ ((x48.c : Nat) : Int)) ∧
   RunK Tryz.prog (.sl) (Builtin.append_ #[36, 36] 36 #[.slice (some ⟨b13, 0, none⟩) 0 0, .slice (subA x48.a 0 x48.c 3) ((IntKind.u64.wrap ((IntKind.u64.wrap (n67 - 1)) - n74)).toNat) x48.c]) h53 (fun x49 h54 =>
   CanSt h54 b1 3 [.slice x49.a x49.l x49.c] ∧ ∀ h55, Stored h54 b1 3 [.slice x49.a x49.l x49.c] h55 →
   I1 ⟨subA x1.a n3.toNat x1.c 1, x1.l - n3.toNat, x1.c - n3.toNat⟩ t1 n1 h55 ∧ mu1 ⟨subA x1.a n3.toNat x1.c 1, x1.l - n3.toNat, x1.c - n3.toNat⟩ t1 n1 h55 < mu1 x1 t1 n1 h3))) ∧
   CallsH Tryz.prog 156 #[.pointer (some ⟨b3, 0, none⟩)] h50 (fun r10 h56 => ∃ n75 : Int, r10 = .int .i64 n75 ∧
   CondP ((n75 : Int) != 0) (
   J5 true h56) (
   CondP (decide ((n67 : Int) ≤ n1)) (
   J5 true h56) (
   ∃ n76 : Int, ∃ n77 : Int, ∃ x50 : Sl, ∃ x51 : Sl, ∃ n78 : Int, CellsAt h56 b1 0 [.int .u64 n76, .int .u64 n77, .slice x50.a x50.l x50.c, .slice x51.a x51.l x51.c, .int .i64 n78] ∧
   CallsH Tryz.prog 54 #[.agg #[.int .u64 n76, .int .u64 n77, .slice x50.a x50.l x50.c, .slice x51.a x51.l x51.c, .int .i64 n78]] h56 (fun r11 h57 => ∃ n79 : Int, ∃ n80 : Int, ∃ x52 : Sl, r11 = .agg #[.int .u64 n79, .int .u64 n80, .slice x52.a x52.l x52.c] ∧
   J5 (decide ((IntKind.u64.wrap (n67 - 1) : Int) > n79)) h57)))))) (
   ∃ n81 : Int, ∃ n82 : Int, ∃ x53 : Sl, ∃ x54 : Sl, ∃ n83 : Int, CellsAt h8 b1 0 [.int .u64 n81, .int .u64 n82, .slice x53.a x53.l x53.c, .slice x54.a x54.l x54.c, .int .i64 n83] ∧
   CanSt h8 b2 0 [.int .u64 n81, .int .u64 n82, .slice x53.a x53.l x53.c, .slice x54.a x54.l x54.c, .int .i64 n83] ∧ ∀ h58, Stored h8 b2 0 [.int .u64 n81, .int .u64 n82, .slice x53.a x53.l x53.c, .slice x54.a x54.l x54.c, .int .i64 n83] h58 →
   ∃ n84 : Int, ∃ n85 : Int, ∃ x55 : Sl, ∃ x56 : Sl, ∃ n86 : Int, CellsAt h58 b2 0 [.int .u64 n84, .int .u64 n85, .slice x55.a x55.l x55.c, .slice x56.a x56.l x56.c, .int .i64 n86] ∧
   R (.tuple #[.agg #[.int .u64 n84, .int .u64 n85, .slice x55.a x55.l x55.c, .slice x56.a x56.l x56.c, .int .i64 n86], .int .i64 20]) h58)))))) ∧
   CondP ((n4 : Int) == 31) (
   J1 newest_ h4) (
   J1 false h4))) (
   ∃ n87 : Int, ∃ n88 : Int, ∃ x57 : Sl, ∃ x58 : Sl, ∃ n89 : Int, CellsAt h3 b1 0 [.int .u64 n87, .int .u64 n88, .slice x57.a x57.l x57.c, .slice x58.a x58.l x58.c, .int .i64 n89] ∧
   CanSt h3 b2 0 [.int .u64 n87, .int .u64 n88, .slice x57.a x57.l x57.c, .slice x58.a x58.l x58.c, .int .i64 n89] ∧ ∀ h59, Stored h3 b2 0 [.int .u64 n87, .int .u64 n88, .slice x57.a x57.l x57.c, .slice x58.a x58.l x58.c, .int .i64 n89] h59 →
   ∃ n90 : Int, ∃ n91 : Int, ∃ x59 : Sl, ∃ x60 : Sl, ∃ n92 : Int, CellsAt h59 b2 0 [.int .u64 n90, .int .u64 n91, .slice x59.a x59.l x59.c, .slice x60.a x60.l x60.c, .int .i64 n92] ∧
   R (.tuple #[.agg #[.int .u64 n90, .int .u64 n91, .slice x59.a x59.l x59.c, .slice x60.a x60.l x60.c, .int .i64 n92], .int .i64 0]) h59))) :
  CallsH Tryz.prog 110 #[.agg #[.int .u64 s_0, .int .u64 s_1, .slice s_2.a s_2.l s_2.c, .slice s_3.a s_3.l s_3.c, .int .i64 s_4], .slice b_.a b_.l b_.c, .bool oldest_, .bool newest_] h R :=
  calls_of_vc tabOk mixed Tryz.func110 (c := c110) (by kernel_rfl) (n := 168) rfl (rs := [.cell 8 119, .tmp 9]) (by kernel_rfl) ok110 (args := [.agg #[.int .u64 s_0, .int .u64 s_1, .slice s_2.a s_2.l s_2.c, .slice s_3.a s_3.l s_3.c, .int .i64 s_4], .slice b_.a b_.l b_.c, .bool oldest_, .bool newest_]) (Nat.le_of_ble_eq_true rfl) (Eq.mpr (by kernel_rfl) hv)
end Go.Sx.Tryz
namespace Go.Sx.Tryz
open Go Go.Sx Go.Proofs
set_option linter.unusedVariables false
set_option maxRecDepth 20000
section
variable {H H' : Heap} {S : PH} {R : List Asn}
def zrV : List Value := [.int .u64 0, .int .u64 0, .slice none 0 0, .slice none 0 0, .int .i64 0]
theorem left_parcel {rs : List Rec} {t : List UInt8} {i : Nat} (h : i < rs.length) : pbs ((rs.drop i).map Rec.par) ++ t = parcelB (rs[i].par).1 (rs[i].par).2 ++ (pbs ((rs.drop (i + 1)).map Rec.par) ++ t) := by
  rw [List.drop_eq_getElem_cons h, List.map_cons, pbs_cons, List.append_assoc]
theorem Rec.par_ok {r : Rec} (h : r.ok) : (r.par).1 ≠ 0 ∧ (r.par).2.length ≤ 65536 := Rec.pok h
theorem rtell {b1 b2 : Nat} {g : PL} {y : Sl} {n : Nat} {e : Int} {z : List Value} (hz : z.length = 5) (hs : Sat H S (lst b1 119 (rfV g y n) :: lst b2 119 z :: R)) {K : Value → Heap → Prop}
    (hK : ∀ H', Sat H' S R → K (.tuple #[.agg (rfV g y n).toArray, .int .i64 e]) H') :
    ∃ n5 : Int, ∃ n6 : Int, ∃ x3 : Sl, ∃ x4 : Sl, ∃ n7 : Int, CellsAt H b1 0 [.int .u64 n5, .int .u64 n6, .slice x3.a x3.l x3.c, .slice x4.a x4.l x4.c, .int .i64 n7] ∧
     CanSt H b2 0 [.int .u64 n5, .int .u64 n6, .slice x3.a x3.l x3.c, .slice x4.a x4.l x4.c, .int .i64 n7] ∧ ∀ h6, Stored H b2 0 [.int .u64 n5, .int .u64 n6, .slice x3.a x3.l x3.c, .slice x4.a x4.l x4.c, .int .i64 n7] h6 →
     ∃ n8 : Int, ∃ n9 : Int, ∃ x5 : Sl, ∃ x6 : Sl, ∃ n10 : Int, CellsAt h6 b2 0 [.int .u64 n8, .int .u64 n9, .slice x5.a x5.l x5.c, .slice x6.a x6.l x6.c, .int .i64 n10] ∧
     K (.tuple #[.agg #[.int .u64 n8, .int .u64 n9, .slice x5.a x5.l x5.c, .slice x6.a x6.l x6.c, .int .i64 n10], .int .i64 e]) h6 := by
  refine ⟨_, _, ⟨none, 0, 0⟩, y, _, hs.cells 0 rfl, ?_⟩
  refine hs.swap.store (by simp [hz]) fun h6 hs1 => ?_
  have hp : putL z 0 (rfV g y n) = rfV g y n := by
    unfold putL
    rw [List.take_zero, List.nil_append, List.drop_of_length_le (by rw [hz]; simp [rfV]), List.append_nil]
  have hs1 : Sat h6 S (lst b2 119 (putL z 0 (rfV g y n)) :: lst b1 119 (rfV g y n) :: R) := hs1
  rw [hp] at hs1
  exact ⟨_, _, ⟨none, 0, 0⟩, y, _, hs1.cells 0 rfl, hK h6 hs1.drop.drop⟩
theorem rfile_ok {g : PL} {n : Nat} {x v : Sl} {rs : List Rec} {t : List UInt8} {oldest newest : Bool} {s' : Rd1} (hs : Sat H S R) (hx : EL S x g.es) (hv : RdB S v (pbs (rs.map Rec.par) ++ t)) (hok : ∀ r ∈ rs, r.ok) (ht : Tail t) (hn : t = [] ∨ newest = true)
    (hrun : rs.foldlM (Rd1.step oldest) ⟨g, false, 0⟩ = some s') (hcon : g.Con) (hlen : g.es.length + rs.length < 1000000) (hvl : v.l < 100000000)
    {K : Value → Heap → Prop} (hK : ∀ (y : Sl) H' S', PH.le S S' → EL S' y s'.g.es → Sat H' S' R → K (.tuple #[.agg (rfV s'.g y n).toArray, .int .i64 0]) H') :
    CallsH Tryz.prog 110 #[.agg (rfV g x n).toArray, .slice v.a v.l v.c, .bool oldest, .bool newest] H K := by
  refine vc110 (g.fi : Int) (g.ft : Int) ⟨none, 0, 0⟩ x (n : Int) v oldest newest H K ?_
  obtain ⟨st, st0, stn, sts⟩ := foldM_path hrun
  have hstc : ∀ i, i ≤ rs.length → (st i).g.Con ∧ (st i).g.es.length ≤ g.es.length + i := by
    intro i
    induction i with
    | zero => intro _; rw [st0]; exact ⟨hcon, by simp⟩
    | succ i ih =>
      intro hi
      obtain ⟨h1, h2⟩ := ih (by omega)
      have := sts i (by omega)
      exact ⟨Rd1.step_con h1 this, by have := Rd1.step_len this; omega⟩
  intro b1 h1 f1 b2 h2 f2
  have hs1 : Sat h1 S (lst b1 119 (rfV g x n) :: R) := hs.fresh f1
  have hs2 : Sat h2 S (lst b1 119 (rfV g x n) :: lst b2 119 zrV :: R) := (hs1.fresh f2).swap
  refine ⟨fun z tt m h => ∃ (i : Nat) (S' : PH) (y : Sl), i ≤ rs.length ∧ PH.le S S' ∧ RdB S' z (pbs ((rs.drop i).map Rec.par) ++ t) ∧ z.l ≤ v.l ∧ tt = (st i).begun ∧ m = ((st i).own : Nat) ∧ EL S' y (st i).g.es ∧ Sat h S' (lst b1 119 (rfV (st i).g y n) :: lst b2 119 zrV :: R), fun z _ _ _ => z.l, ⟨0, S, x, Nat.zero_le _, PH.le.refl _, hv, Nat.le_refl _, by rw [st0], by rw [st0]; rfl, by rw [st0]; exact hx, by rw [st0]; exact hs2⟩, ?_⟩
  rintro z tt m h3 ⟨i, S1, y, hi, hS1, hz, hzl, rfl, rfl, hy, hs3⟩ _
  have hzll := RdB.len hz
  have fin : i = rs.length → ∀ (h : Heap), Sat h S1 (lst b1 119 (rfV (st i).g y n) :: lst b2 119 zrV :: R) → ∀ H', Sat H' S1 R → K (.tuple #[.agg (rfV (st i).g y n).toArray, .int .i64 0]) H' := by
    intro hi h hh H' hs'
    subst hi
    rw [stn] at hy ⊢
    exact hK y H' S1 hS1 hy hs'
  refine CondP.of (fun hc => ?_) (fun hc => ?_)
  rotate_left
  · have hz0 : z.l = 0 := by simp at hc; omega
    have hin : i = rs.length := by
      rcases Nat.lt_or_ge i rs.length with h | h
      · exfalso
        rw [left_parcel h, List.length_append, parcelB_len] at hzll; omega
      · omega
    exact rtell rfl hs3 (fin hin _ hs3)
  rcases Nat.lt_or_ge i rs.length with hil | hil
  rotate_left
  ·
    have hin : i = rs.length := by omega
    have hz2 := hz
    rw [hin, List.drop_length, List.map_nil, show pbs [] = [] from rfl, List.nil_append] at hz2
    have hne : t ≠ [] := by
      intro h
      have := RdB.len hz2
      rw [h] at this; simp at this; simp [this] at hc
    have hnew := hn.resolve_left hne
    obtain ⟨kind, body, q, k0, kb, kp, kq⟩ := ht
    refine rtake_torn hs3 hz2 kp kq k0 kb fun h4 hs4 => ⟨_, ⟨none, 0, 0⟩, _, _, rfl, ?_⟩
    refine ⟨fun t2 h => t2 = newest ∧ h = h4, ?_, CondP.of (fun _ => ⟨rfl, rfl⟩) fun hc => by simp at hc⟩
    rintro t2 h5 ⟨rfl, rfl⟩ _
    exact CondP.of (fun _ => rtell rfl hs4 (fin hin _ hs4)) fun hc => by rw [hnew] at hc; cases hc
  have hz2 := hz
  rw [left_parcel hil] at hz2
  have hokr := hok _ (List.getElem_mem hil)
  obtain ⟨k0, kb⟩ := Rec.par_ok hokr
  have hst := sts i hil
  obtain ⟨hci, hli⟩ := hstc i (by omega)
  have hzl2 := RdB.len hz2
  rw [List.length_append] at hzl2
  refine rtake_ok hs3 hz2 k0 kb (by omega) fun xb h4 S2 hS2 hxb hs4 => ⟨_, xb, _, _, rfl, ?_⟩
  have hy := hy.mono hS2
  have hplen := parcelB_len (rs[i].par).1 (rs[i].par).2
  refine ⟨fun t2 h => t2 = false ∧ h = h4, ?_, CondP.of (fun hc => by simp at hc) fun _ => ⟨rfl, rfl⟩⟩
  rintro t2 h5 ⟨rfl, rfl⟩ _
  refine CondP.of (fun hc => by cases hc) fun _ => CondP.of (fun hc => by simp at hc) fun _ => ⟨⟨by omega, by omega⟩, ?_⟩
  simp only [Int.toNat_natCast]
  have hnz : RdB S2 ⟨subA z.a (parcelB (rs[i].par).1 (rs[i].par).2).length z.c 1, z.l - (parcelB (rs[i].par).1 (rs[i].par).2).length, z.c - (parcelB (rs[i].par).1 (rs[i].par).2).length⟩ (pbs ((rs.drop (i + 1)).map Rec.par) ++ t) := by
    have := (hz2.mono hS2).drop (k := (parcelB (rs[i].par).1 (rs[i].par).2).length) (by omega)
    rw [List.drop_left] at this; exact this
  generalize hW : (parcelB (rs[i].par).1 (rs[i].par).2).length = W at *
  have next : ∀ (S3 : PH) (h : Heap) (y' : Sl) (tt : Bool) (m : Int), PH.le S2 S3 → tt = (st (i + 1)).begun → m = ((st (i + 1)).own : Nat) → EL S3 y' (st (i + 1)).g.es → Sat h S3 (lst b1 119 (rfV (st (i + 1)).g y' n) :: lst b2 119 zrV :: R) →
      (∃ (i' : Nat) (S' : PH) (y : Sl), i' ≤ rs.length ∧ PH.le S S' ∧ RdB S' ⟨subA z.a W z.c 1, z.l - W, z.c - W⟩ (pbs ((rs.drop i').map Rec.par) ++ t) ∧ (⟨subA z.a W z.c 1, z.l - W, z.c - W⟩ : Sl).l ≤ v.l ∧ tt = (st i').begun ∧ m = ((st i').own : Nat) ∧ EL S' y (st i').g.es ∧ Sat h S' (lst b1 119 (rfV (st i').g y n) :: lst b2 119 zrV :: R)) ∧ (⟨subA z.a W z.c 1, z.l - W, z.c - W⟩ : Sl).l < z.l := by
    intro S3 h y' tt m hS3 htt hm hy' hh
    refine ⟨⟨i + 1, S3, y', hil, (hS1.trans hS2).trans hS3, hnz.mono hS3, by show z.l - W ≤ v.l; omega, htt, hm, hy', hh⟩, by show z.l - W < z.l; omega⟩
  intro b3 h8 f8
  have hs5 : Sat h8 S2 (rdr2 b3 xb false :: lst b1 119 (rfV (st i).g y n) :: lst b2 119 zrV :: R) := hs4.fresh f8
  cases hr : rs[i] with
  | hd hh =>
    rw [hr] at hxb hokr hst
    have hnb : (st i).begun = false ∧ ∃ p, (st i).g.begin hh oldest = some p ∧ st (i + 1) = ⟨p, true, hh.i⟩ := by
      simp only [Rd1.step] at hst
      split at hst
      · cases hst
      · rename_i hnb
        obtain ⟨p, h1, h2⟩ := Option.map_eq_some_iff.1 hst
        exact ⟨by simpa using hnb, p, h1, h2.symm⟩
    obtain ⟨hnb, p, hp, hst1⟩ := hnb
    refine CondP.of (fun _ => ?_) fun hc => by simp [Rec.par] at hc
    refine rhead_ok hs5 hxb hokr fun h9 hs6 => ⟨_, _, _, _, ⟨none, 0, 0⟩, _, rfl, ?_⟩
    intro b4 h10 f10
    have hs7 := hs6.fresh f10
    refine Sat.store (T := 35) (l := [.int .u64 0, .int .u64 0, .slice none 0 0]) hs7 (Nat.le_refl _) fun h11 hs8 => ?_
    have hs8 : Sat h11 S2 (lst b4 35 [.int .u64 (hh.i : Int), .int .u64 (hh.t : Int), .slice none 0 0] :: rdr2 b3 xb false :: lst b1 119 (rfV (st i).g y n) :: lst b2 119 zrV :: R) := hs8
    refine ⟨fun t5 h => t5 = false ∧ h = h11, ?_, CondP.of (fun hc => by cases hc) fun _ => ⟨hnb, rfl⟩⟩
    rintro t5 h12 ⟨rfl, rfl⟩ _
    refine CondP.of (fun hc => by cases hc) fun _ => ⟨_, hs8.cell 0 rfl, ?_⟩
    refine ⟨fun t6 h => t6 = (oldest || hh.anew) ∧ h = h12, ?_, CondP.of (fun hc => ⟨by rw [hc]; rfl, rfl⟩) fun hc => ⟨by rw [hc]; rfl, rfl⟩⟩
    rintro t6 h14 ⟨rfl, rfl⟩ _
    unfold PL.begin at hp
    refine CondP.of (fun hc => ?_) (fun hc => ?_)
    · rw [if_pos hc] at hp
      have hp : p = ⟨hh.i, hh.t, []⟩ := by cases hp; rfl
      refine ⟨_, _, ⟨none, 0, 0⟩, hs8.cells 0 rfl, ?_⟩
      refine (hs8.pick 2 rfl).store (by simp [rfV]) fun h15 hs9 => ?_
      refine hs9.store (by simp [rfV, putL]) fun h16 hs10 => ?_
      have hs10 : Sat h16 S2 (lst b1 119 (rfV (st (i + 1)).g ⟨none, 0, 0⟩ n) :: lst b4 35 [.int .u64 (hh.i : Int), .int .u64 (hh.t : Int), .slice none 0 0] :: rdr2 b3 xb false :: lst b2 119 zrV :: R) := by
        rw [hst1, hp]; exact hs10
      exact next S2 h16 ⟨none, 0, 0⟩ true _ (PH.le.refl _) (by rw [hst1]) (by rw [hst1]) (by rw [hst1, hp]; exact EL.nil _) ((hs10.del 1).del 1)
    · rw [if_neg (by rw [hc]; simp)] at hp
      refine ⟨_, _, ⟨none, 0, 0⟩, y, _, (hs8.pick 2 rfl).cells 0 rfl, _, _, ⟨none, 0, 0⟩, hs8.cells 0 rfl, ?_⟩
      refine rto_spec (z := ⟨none, 0, 0⟩) hs8 hy (by omega) hp fun y' h17 S3 hS3 hy' hs9 => ⟨_, _, ⟨none, 0, 0⟩, y', _, _, rfl, ?_⟩
      intro b5 h18 f18
      have hs10 := hs9.fresh f18
      refine Sat.store (T := 119) (l := zrV) hs10 (by simp [zrV]) fun h19 hs11 => CondP.of (fun hc => by cases hc) fun _ => ?_
      have hs11 : Sat h19 S3 (lst b5 119 (rfV p y' n) :: lst b4 35 [.int .u64 (hh.i : Int), .int .u64 (hh.t : Int), .slice none 0 0] :: rdr2 b3 xb false :: lst b1 119 (rfV (st i).g y n) :: lst b2 119 zrV :: R) := hs11
      refine ⟨_, _, ⟨none, 0, 0⟩, y', _, hs11.cells 0 rfl, ?_⟩
      refine (hs11.pick 3 rfl).store (by simp [rfV]) fun h21 hs12 => ?_
      have hs12 : Sat h21 S3 (lst b1 119 (rfV (st (i + 1)).g y' n) :: lst b5 119 (rfV p y' n) :: lst b4 35 [.int .u64 (hh.i : Int), .int .u64 (hh.t : Int), .slice none 0 0] :: rdr2 b3 xb false :: lst b2 119 zrV :: R) := by
        rw [hst1]; exact hs12
      exact next S3 h21 y' true _ hS3 (by rw [hst1]) (by rw [hst1]) (by rw [hst1]; exact hy') (((hs12.del 1).del 1).del 1)
  | en e =>
    rw [hr] at hxb hokr hst
    have hnx : (e.i = (st i).g.last.1 + 1 ∧ (st i).g.last.2 ≤ e.t) ∧ st (i + 1) = { st i with g := { (st i).g with es := (st i).g.es ++ [e] } } := by
      simp only [Rd1.step] at hst
      split at hst
      · rename_i hx; injection hst with hst; exact ⟨hx, hst.symm⟩
      · cases hst
    obtain ⟨⟨n1, n2⟩, hst1⟩ := hnx
    obtain ⟨o1, o2, o3⟩ := hokr
    have hbl := e.body_len ⟨o1, o2, o3⟩
    unfold MaxI at o1 o2
    refine CondP.of (fun hc => by simp [Rec.par] at hc) fun _ => CondP.of (fun _ => ?_) fun hc => by simp [Rec.par] at hc
    intro b6 h22 f22
    have hs6 : Sat h22 S2 (lst b6 35 [.int .u64 0, .int .u64 0, .slice none 0 0] :: rdr2 b3 xb false :: lst b1 119 (rfV (st i).g y n) :: lst b2 119 zrV :: R) := hs5.fresh f22
    have hxb : RdB S2 xb (natB e.i ++ (natB e.t ++ (textB e.b ++ []))) := by
      have e1 : natB e.i ++ (natB e.t ++ (textB e.b ++ [])) = e.body := by simp [Ent.body]
      rw [e1]; exact hxb
    have htl : (textB e.b).length ≤ 522 := by
      have := natB_le (n := e.b.length) (by omega)
      simp only [textB, List.length_append]; omega
    have htl2 := natB_le (n := e.t) (by omega)
    refine rn_spec (most := 4611686018427387904) (n := e.i) hs6.swap hxb (by omega) (by omega) (by simp only [List.length_append, List.length_nil]; omega) fun v1 h23 hv1 hs7 => ⟨_, rfl, ?_⟩
    refine hs7.swap.store (by simp) fun h24 hs8 => ?_
    refine rn_spec (most := 4611686018427387904) (n := e.t) hs8.swap hv1 (by omega) (by omega) (by simp only [List.length_append, List.length_nil]; omega) fun v2 h25 hv2 hs9 => ⟨_, rfl, ?_⟩
    refine hs9.swap.store (by simp [putL]) fun h26 hs10 => ?_
    refine rt_spec (most := 512) (s := e.b) hs10.swap hv2 (by omega) (by omega) (by simp; omega) fun v3 h27 hv3 hs11 => ⟨_, rfl, ?_⟩
    refine conv_bytes hs11 (by show e.b.toArray.size < _; simp; omega) fun xz h28 S3 hS3 hxz hs12 => ?_
    refine hs12.swap.store (by simp [putL]) fun h29 hs13 => ?_
    have hs13 : Sat h29 S3 (lst b6 35 (eV (e, xz)) :: rdr2 b3 v3 false :: lst b1 119 (rfV (st i).g y n) :: lst b2 119 zrV :: R) := hs13
    have hxz : RdB S3 xz e.b := by
      have : (ByteArray.mk e.b.toArray).data.toList = e.b := List.toList_toArray
      rw [this] at hxz; exact hxz
    have hy3 := hy.mono hS3
    refine ⟨_, _, ⟨none, 0, 0⟩, y, _, (hs13.pick 2 rfl).cells 0 rfl, ?_⟩
    refine rlast_spec hs13 hy3 (by omega) fun w h30 hs14 => ⟨_, _, w, rfl, ?_⟩
    intro b7 h31 f31
    have hs15 := hs14.fresh f31
    refine Sat.store (T := 35) (l := [.int .u64 0, .int .u64 0, .slice none 0 0]) hs15 (Nat.le_refl _) fun h32 hs16 => ?_
    have hs16 : Sat h32 S3 (lst b7 35 [.int .u64 ((st i).g.last.1 : Int), .int .u64 ((st i).g.last.2 : Int), .slice w.a w.l w.c] :: lst b6 35 (eV (e, xz)) :: rdr2 b3 v3 false :: lst b1 119 (rfV (st i).g y n) :: lst b2 119 zrV :: R) := hs16
    refine ⟨fun t8 h => t8 = false ∧ h = h32, ?_, ?_⟩
    · rintro t8 h33 ⟨rfl, rfl⟩ _
      refine CondP.of (fun hc => by cases hc) fun _ => ?_
      have hb1 := hs16.pick 3 rfl
      have hb6 := hs16.pick 1 rfl
      have tail : ∀ (h42 : Heap) (S4 : PH) (z2 : Sl) (us : List EB), PH.le S3 S4 → us.map (·.1) = (st i).g.es → (∀ q ∈ us, RdB S4 q.2 q.1.b) → Sat h42 S4 (own 35 3 z2 (entV (us ++ [(e, xz)])) :: lst b7 35 [.int .u64 ((st i).g.last.1 : Int), .int .u64 ((st i).g.last.2 : Int), .slice w.a w.l w.c] :: lst b6 35 (eV (e, xz)) :: rdr2 b3 v3 false :: lst b1 119 (rfV (st i).g y n) :: lst b2 119 zrV :: R) →
          CanSt h42 b1 3 [.slice z2.a z2.l z2.c] ∧ ∀ h43, Stored h42 b1 3 [.slice z2.a z2.l z2.c] h43 → (∃ (i' : Nat) (S' : PH) (y : Sl), i' ≤ rs.length ∧ PH.le S S' ∧ RdB S' ⟨subA z.a W z.c 1, z.l - W, z.c - W⟩ (pbs ((rs.drop i').map Rec.par) ++ t) ∧ (⟨subA z.a W z.c 1, z.l - W, z.c - W⟩ : Sl).l ≤ v.l ∧ (st i).begun = (st i').begun ∧ (((st i).own : Nat) : Int) = ((st i').own : Nat) ∧ EL S' y (st i').g.es ∧ Sat h43 S' (lst b1 119 (rfV (st i').g y n) :: lst b2 119 zrV :: R)) ∧ (⟨subA z.a W z.c 1, z.l - W, z.c - W⟩ : Sl).l < z.l := by
        intro h42 S4 z2 us hS4 hus hub hh
        obtain ⟨S5, q1, q2, q3⟩ := sealL (us := us ++ [(e, xz)]) hh (by
          intro q hq
          rcases List.mem_append.1 hq with h | h
          · exact hub q h
          · simp only [List.mem_singleton] at h
            subst h; exact hxz.mono hS4)
        refine (q3.pick 3 rfl).store (by simp [rfV]) fun h43 hs17 => ?_
        have hs17 : Sat h43 S5 (lst b1 119 (rfV (st (i + 1)).g z2 n) :: lst b7 35 [.int .u64 ((st i).g.last.1 : Int), .int .u64 ((st i).g.last.2 : Int), .slice w.a w.l w.c] :: lst b6 35 (eV (e, xz)) :: rdr2 b3 v3 false :: lst b2 119 zrV :: R) := by
          rw [hst1]; exact hs17
        exact next S5 h43 z2 _ _ ((hS3.trans hS4).trans q1) (by rw [hst1]) (by rw [hst1]) (by rw [hst1]; rw [List.map_append, hus] at q2; exact q2) (((hs17.del 1).del 1).del 1)
      refine ⟨y, hb1.cell 3 rfl, _, _, xz, hb6.cells 0 rfl, ⟨fun b8 h35 f35 => ?_, fun b11 h44 f44 => ?_⟩⟩
      · have c1 := newL hs16 f35
        have c1b6 := c1.pick 2 rfl
        have c1b1 := c1.pick 4 rfl
        refine ⟨c1b6.cells 0 rfl, c1b1.cell 3 rfl, ?_, fun b10 h40 f40 => ?_⟩
        · refine appL el36 c1 hy3 (by simp; omega) fun v' h36 ys hy1 hy2 c2 => ⟨(c2.pick 2 rfl).cells 0 rfl, ?_⟩
          intro b9 h37 f37
          have c3 : Sat h37 S3 (lst b9 35 (eV (e, xz)) :: own 35 3 v' (entV ys) :: lst b7 35 [.int .u64 ((st i).g.last.1 : Int), .int .u64 ((st i).g.last.2 : Int), .slice w.a w.l w.c] :: lst b6 35 (eV (e, xz)) :: rdr2 b3 v3 false :: lst b1 119 (rfV (st i).g y n) :: lst b2 119 zrV :: R) := c2.fresh f37
          have hyl : ys.length = (st i).g.es.length := by rw [← hy1, List.length_map]
          exact onesL el36 c3 (by omega) fun v'' h38 c4 => tail h38 S3 v'' ys (PH.le.refl _) hy1 hy2 c4
        · have c2 : Sat h40 S3 (lst b10 35 (eV (e, xz)) :: own 35 3 ⟨some ⟨b8, 0, none⟩, 0, 0⟩ (entV []) :: lst b7 35 [.int .u64 ((st i).g.last.1 : Int), .int .u64 ((st i).g.last.2 : Int), .slice w.a w.l w.c] :: lst b6 35 (eV (e, xz)) :: rdr2 b3 v3 false :: lst b1 119 (rfV (st i).g y n) :: lst b2 119 zrV :: R) := c1.fresh f40
          refine ⟨(c2.pick 5 rfl).cell 3 rfl, ?_⟩
          refine appL el36 c2.swap hy3 (by simp; omega) fun v' h41 ys hy1 hy2 c3 => ?_
          have hyl : ys.length = (st i).g.es.length := by rw [← hy1, List.length_map]
          exact onesL (us := ys) el36 c3.swap (by omega) fun v'' h42 c4 => tail h42 S3 v'' ys (PH.le.refl _) hy1 hy2 c4
      · have c1 : Sat h44 S3 (lst b11 35 (eV (e, xz)) :: lst b7 35 [.int .u64 ((st i).g.last.1 : Int), .int .u64 ((st i).g.last.2 : Int), .slice w.a w.l w.c] :: lst b6 35 (eV (e, xz)) :: rdr2 b3 v3 false :: lst b1 119 (rfV (st i).g y n) :: lst b2 119 zrV :: R) := hs16.fresh f44
        refine ⟨(c1.pick 4 rfl).cell 3 rfl, fun b12 h45 f45 => ?_⟩
        have c2 := newL c1 f45
        refine ⟨(c2.pick 5 rfl).cell 3 rfl, ?_⟩
        refine appL el36 c2 hy3 (by simp; omega) fun v' h46 ys hy1 hy2 c3 => ?_
        have hyl : ys.length = (st i).g.es.length := by rw [← hy1, List.length_map]
        exact onesL (us := ys) el36 c3.swap (by omega) fun v'' h47 c4 => tail h47 S3 v'' ys (PH.le.refl _) hy1 hy2 c4
    · refine re_spec (hs16.pick 2 rfl) (by have := RdB.len hv3; simpa using this) ⟨_, rfl, CondP.of (fun hc => by simp at hc) fun _ => ?_⟩
      have hb6 := hs16.pick 1 rfl
      refine ⟨_, hb6.cell 0 rfl, CondP.of (fun hc => by simp at hc; omega) fun _ => ⟨_, hb6.cell 0 rfl, _, hs16.cell 0 rfl, ?_⟩⟩
      have e1 : IntKind.u64.wrap ((e.i : Int) - 1) = ((st i).g.last.1 : Int) := by rw [u64_in (by omega) (by omega)]; omega
      rw [e1]
      refine CondP.of (fun hc => by simp at hc) fun _ => ⟨_, hb6.cell 1 rfl, _, hs16.cell 1 rfl, ?_, rfl⟩
      show decide ((e.t : Int) < ((st i).g.last.2 : Int)) = false
      exact decide_eq_false (by omega)
  | ct f =>
    rw [hr] at hxb hokr hst
    have hnx : ((st i).own < f ∧ mayB (st i).g.fi (st i).g.last.1 f = true) ∧ st (i + 1) = { st i with g := { (st i).g with es := (st i).g.es.take (f - 1 - (st i).g.fi) } } := by
      simp only [Rd1.step] at hst
      split at hst
      · rename_i hx; injection hst with hst; exact ⟨hx, hst.symm⟩
      · cases hst
    obtain ⟨⟨n1, n2⟩, hst1⟩ := hnx
    have hmm : (st i).g.fi < f ∧ f - 1 ≤ (st i).g.last.1 := by
      unfold mayB at n2
      rw [Bool.and_eq_true] at n2
      exact ⟨of_decide_eq_true n2.1, of_decide_eq_true n2.2⟩
    have hcl := hci.last
    have hf64 : f < 18446744073709551616 := hokr
    refine CondP.of (fun hc => by simp [Rec.par] at hc) fun _ => CondP.of (fun hc => by simp [Rec.par] at hc) fun _ => CondP.of (fun _ => ?_) fun hc => by simp [Rec.par] at hc
    have hxb : RdB S2 xb (natB f ++ []) := by rw [List.append_nil]; exact hxb
    refine rn_spec (most := 18446744073709551615) (n := f) hs5 hxb hf64 (by omega) (by simp) fun v1 h50 hv1 hs6 => ⟨_, rfl, ?_⟩
    refine ⟨fun t9 h => t9 = false ∧ Sat h S2 (rdr2 b3 v1 false :: lst b1 119 (rfV (st i).g y n) :: lst b2 119 zrV :: R), ?_, ?_⟩
    · rintro t9 h51 ⟨rfl, hs7⟩ _
      refine CondP.of (fun hc => by cases hc) fun _ => ?_
      intro b13 h53 f53
      have c1 := newL hs7 f53
      have hb1 := c1.pick 2 rfl
      have e1 : IntKind.u64.wrap (IntKind.u64.wrap ((f : Int) - 1) - ((st i).g.fi : Int)) = ((f - 1 - (st i).g.fi : Nat) : Int) := by
        rw [u64_in (n := (f : Int) - 1) (by omega) (by omega), u64_in (by omega) (by omega)]; omega
      obtain ⟨hyl, hyc⟩ := EL.len hy
      refine ⟨y, hb1.cell 3 rfl, _, hb1.cell 0 rfl, ?_⟩
      rw [e1]
      simp only [Int.toNat_natCast]
      refine ⟨⟨by omega, by omega, by omega⟩, ?_⟩
      refine appL el36 c1 (hy.take (k := f - 1 - (st i).g.fi) (by omega)) (by rw [List.length_take]; simp; omega) fun v' h54 ys hy1 hy2 c2 => ?_
      obtain ⟨S3, q1, q2, q3⟩ := sealL (us := ys) c2 hy2
      rw [hy1] at q2
      refine (q3.pick 1 rfl).store (by simp [rfV]) fun h55 hs8 => ?_
      have hs8 : Sat h55 S3 (lst b1 119 (rfV (st (i + 1)).g v' n) :: rdr2 b3 v1 false :: lst b2 119 zrV :: R) := by rw [hst1]; exact hs8
      exact next S3 h55 v' _ _ q1 (by rw [hst1]) (by rw [hst1]) (by rw [hst1]; exact q2) (hs8.del 1)
    · refine re_spec hs6 (by have := RdB.len hv1; simpa using this) ⟨_, rfl, CondP.of (fun hc => by simp at hc) fun _ => CondP.of (fun hc => by simp at hc; omega) fun _ => ?_⟩
      refine ⟨_, _, ⟨none, 0, 0⟩, y, _, (hs6.pick 1 rfl).cells 0 rfl, ?_⟩
      refine rlast_spec hs6 hy (by omega) fun w h57 hs7 => ⟨_, _, w, rfl, ?_, hs7⟩
      rw [u64_in (n := (f : Int) - 1) (by omega) (by omega)]
      exact decide_eq_false (by omega)
end
end Go.Sx.Tryz
