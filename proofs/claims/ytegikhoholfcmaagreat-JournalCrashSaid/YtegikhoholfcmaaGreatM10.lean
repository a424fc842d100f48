/-
  Part 10 of the proof: K32, V18, V44, V45, V31, V30, V34, V52, V17, L01, V48, V8, L02.
-/
import Derived.Test.YtegikhoholfcmaaGreatM09
namespace Go.Sx.Tryz
open Go Go.Sx Go.Proofs
set_option linter.unusedVariables false
section
variable {H H' : Heap} {S : PH} {R : List Asn} {jb d : Nat} {J : Jn} {D : Dk}
theorem dsk_len (hs : Sat H S (dsk d D :: R)) : ∀ i, i < 32 → (D.f i).b.length ≤ 1048576 := by
  obtain ⟨cs, vs, hd, _⟩ := dsk_open hs
  exact hd.fit
theorem idle_any (hs : Sat H S (jA jb J :: dsk J.d D :: R)) (hfl : ∀ x ∈ J.segs, x.file < 32) (hsl : J.segs.length < 1000000)
    {K : Value → Heap → Prop} (hK : ∀ H', Sat H' S (jA jb (J.idle D).2 :: dsk J.d (J.idle D).1 :: R) → K (.tuple #[]) H') : CallsH Tryz.prog 43 #[.pointer (some ⟨jb, 0, none⟩)] H K := by
  rcases Nat.eq_zero_or_pos J.segs.length with h0 | h0
  · have hb : J.begun D = (D, J) := by rw [Jn.begun, h0]; rfl
    have e : J.idle D = (D, J) := by
      rw [Jn.idle, hb]
      split
      · rfl
      · show Jn.idleN (J.segs.length - 1) J D = _; rw [h0]; rfl
    rw [e] at hK
    obtain ⟨ve, vs, hs1⟩ := jA_open hs
    have hvl := (ownS.len (hs1.pick 2 rfl)).1
    have hc8 := hs1.cell 8 (v := .slice vs.a vs.l vs.c) rfl
    have e1 : IntKind.i64.wrap (((vs.l : Nat) : Int) - 1) = -1 := by rw [i64_in (by omega) (by omega)]; omega
    have e2 : IntKind.i64.wrap (((vs.l : Nat) : Int) - 2) = -2 := by rw [i64_in (by omega) (by omega)]; omega
    apply vc43
    apply vc105
    refine ⟨vs, hc8, fun n h => n = -1 ∧ h = H, ?_, ?_⟩
    · rintro n h1 ⟨rfl, rfl⟩ _
      refine ⟨fun n h => n = -1 ∧ h = h1, fun _ _ => 0, ⟨rfl, rfl⟩, ?_⟩
      rintro n h2 ⟨rfl, rfl⟩ _
      refine CondP.of (fun hc => by simp at hc) fun _ => ⟨rfl, _, hs1.cell 9 rfl, CondP.of (fun _ => hK _ hs) fun hc => ⟨vs, hc8, ?_⟩⟩
      rw [e2]
      refine ⟨fun n h => n = -2 ∧ h = h2, fun _ _ => 0, ⟨rfl, rfl⟩, ?_⟩
      rintro n h3 ⟨rfl, rfl⟩ _
      refine ⟨fun t h => t = false ∧ h = h3, ?_, ?_⟩
      · rintro t h4 ⟨rfl, rfl⟩ _
        exact CondP.of (fun hc => by cases hc) fun _ => hK _ hs
      · exact CondP.of (fun hc => by simp at hc) fun _ => ⟨rfl, rfl⟩
    · rw [e1]
      refine ⟨fun n h => n = -1 ∧ h = H, fun _ _ => 0, ⟨rfl, rfl⟩, ?_⟩
      rintro n h2 ⟨rfl, rfl⟩ _
      exact CondP.of (fun hc => by simp at hc) fun _ => ⟨rfl, rfl⟩
  · exact idle_spec hs hfl hsl h0 hK
def HOk (b : List UInt8) : Option Hd → Prop
  | some hd => hd.ok ∧ ∃ rest, b = parcelB 1 hd.body ++ rest
  | none => Tail b
def hdAt (hds : List (Option Hd)) (n : Nat) : Hd := ((hds[n]?).getD none).getD ⟨0, false, 0, 0⟩
def segsOf (first : Nat) (hds : List (Option Hd)) (Ls : List Nat) : List Seg := Ls.map fun n => ⟨first + n, hdAt hds n⟩
def tidyK (first : Nat) (pn ln : Nat → Nat) (us : Nat → Bool) : Nat → Dk × Jn → Dk × Jn
  | 0, X => X
  | k + 1, X => (tidyK first pn ln us k X).2.tidy (tidyK first pn ln us k X).1 (first + k) (pn k) (ln k) (us k)
def openedR (Y : Dk × Jn) (e : Bool) : Dk × Jn := if e = true then (Y.2.start Y.1 ⟨0, false, 0, 0⟩).2.2.idle (Y.2.start Y.1 ⟨0, false, 0, 0⟩).2.1 else Y.2.idle Y.1
def pnOf (Ls : List Nat) (rsf : Nat → List Rec) (n : Nat) : Nat := if n ∈ Ls then (pbs ((rsf n).map Rec.par)).length else 0
theorem tidy_facts (J : Jn) (D : Dk) (f n len : Nat) (used : Bool) : (J.tidy D f n len used).2.d = J.d ∧ (J.tidy D f n len used).2.segs = J.segs ∧ (J.tidy D f n len used).2.log = J.log ∧ (J.tidy D f n len used).2.first = J.first ∧ (J.tidy D f n len used).2.many = J.many ∧ (J.tidy D f n len used).2.each = J.each := by
  unfold Jn.tidy
  split
  · exact ⟨rfl, rfl, rfl, rfl, rfl, rfl⟩
  · split
    · exact ⟨rfl, rfl, rfl, rfl, rfl, rfl⟩
    · split
      · split
        · exact ⟨rfl, rfl, rfl, rfl, rfl, rfl⟩
        · exact ⟨rfl, rfl, rfl, rfl, rfl, rfl⟩
      · exact ⟨rfl, rfl, rfl, rfl, rfl, rfl⟩
theorem tidyK_facts (first : Nat) (pn ln : Nat → Nat) (us : Nat → Bool) (X : Dk × Jn) : ∀ k, (tidyK first pn ln us k X).2.d = X.2.d ∧ (tidyK first pn ln us k X).2.segs = X.2.segs ∧ (tidyK first pn ln us k X).2.log = X.2.log ∧ (tidyK first pn ln us k X).2.first = X.2.first ∧ (tidyK first pn ln us k X).2.many = X.2.many ∧ (tidyK first pn ln us k X).2.each = X.2.each
  | 0 => ⟨rfl, rfl, rfl, rfl, rfl, rfl⟩
  | k + 1 => by
    obtain ⟨h1, h2, h3, h4, h5, h6⟩ := tidyK_facts first pn ln us X k
    obtain ⟨g1, g2, g3, g4, g5, g6⟩ := tidy_facts (tidyK first pn ln us k X).2 (tidyK first pn ln us k X).1 (first + k) (pn k) (ln k) (us k)
    exact ⟨g1.trans h1, g2.trans h2, g3.trans h3, g4.trans h4, g5.trans h5, g6.trans h6⟩
theorem el98 : ElemOk Tryz.prog 98 33 1 24 := ElemOk.mk' (z := .slice none 0 0) Tryz.underlying98 (by kernel_rfl) rfl (by decide)
theorem fV_one (l : List Sl) : ∀ u ∈ fV l, u.oneCell' = true := by
  intro u hu
  obtain ⟨c, _, rfl⟩ := List.mem_map.1 hu
  rfl
theorem open_specJ {first many each : Nat} {hds : List (Option Hd)} {Ls : List Nat} {rsf : Nat → List Rec} {tl : Nat → List UInt8} {pl : PL}
    (hs : Sat H S (dsk d D :: R)) (hdn : D.down = false) (hm : 2 ≤ many) (hm2 : first + many ≤ 32) (hm3 : many < 20) (he : 64 ≤ each) (he2 : each ≤ 1048576) (hl : hds.length = many)
    (hok : ∀ i, i < many → HOk (D.f (first + i)).b ((hds[i]?).getD none)) (hperm : (ixs hds many).Perm Ls) (hstr : Ls.Pairwise fun a b => serOf hds a < serOf hds b)
    (hseg : ∀ k (h : k < Ls.length), ((D.f (first + Ls[k])).b = pbs ((rsf Ls[k]).map Rec.par) ++ tl Ls[k] ∧ (∀ r ∈ rsf Ls[k], r.ok) ∧ Tail (tl Ls[k]) ∧ (rsf Ls[k]).length < 30000) ∧ (tl Ls[k] = [] ∨ k + 1 = Ls.length))
    (hrun : readAll true ⟨0, 0, []⟩ (Ls.map rsf) = some pl)
    {K : Value → Heap → Prop} (hK : ∀ jb g H' S' X, PH.le S S' → g.pure = pl → eok S' g.es → X = openedR (tidyK first (pnOf Ls rsf) (fun n => (D.f (first + n)).b.length) (fun n => decide (n ∈ Ls)) many (D, ⟨d, first, many, each, g, segsOf first hds Ls, false⟩)) (decide (Ls = [])) →
      Sat H' S' (jA jb X.2 :: dsk d X.1 :: R) → K (if X.2.broken = true then .tuple #[.pointer none, .int .i64 70] else .tuple #[.pointer (some ⟨jb, 0, none⟩), .int .i64 0]) H') :
    CallsH Tryz.prog 11 #[.pointer (some ⟨d, 0, none⟩), .int .i64 (first : Int), .int .i64 (many : Int), .int .i64 (each : Int)] H K := by
  apply vc11
  have hfit := dsk_len hs
  refine down_spec hs ⟨_, rfl, ?_⟩
  rw [hdn]
  refine CondP.of (fun hc => by cases hc) fun _ => ?_
  refine ⟨fun t h => t = false ∧ h = H, ?_, ?_⟩
  rotate_left
  · have e1 : IntKind.i64.wrap (32 - (many : Int)) = ((32 - many : Nat) : Int) := by rw [i64_in (by omega) (by omega)]; omega
    rw [e1]
    refine CondP.of (fun hc => by simp at hc; omega) fun _ => CondP.of (fun hc => by simp at hc; omega) fun _ => CondP.of (fun hc => by simp at hc; omega) fun _ => CondP.of (fun hc => by simp at hc; omega) fun _ => CondP.of (fun hc => by simp at hc; omega) fun _ => ⟨?_, rfl⟩
    simp; omega
  rintro t h2 ⟨rfl, rfl⟩ _
  refine CondP.of (fun hc => by cases hc) fun _ => ?_
  intro b1 h3 f3 b2 h4 f4
  obtain ⟨J00, hJ00⟩ : ∃ J00 : Jn, J00 = ⟨d, first, many, each, ⟨0, 0, []⟩, [], false⟩ := ⟨_, rfl⟩
  have hs3 : Sat h3 S (lst b1 97 (jcs J00 ⟨none, 0, 0⟩ ⟨none, 0, 0⟩) :: dsk d D :: R) := by rw [hJ00]; exact hs.fresh f3
  have hs3 : Sat h3 S (jA b1 J00 :: dsk d D :: R) := by
    have h1 := own.new 107 5 (own.new 85 3 hs3)
    have h2 := h1.sel [2, 1, 0]
    refine jA_shut (ve := ⟨none, 0, 0⟩) (vs := ⟨none, 0, 0⟩) ?_
    rw [hJ00] at h2 ⊢; exact h2
  have hs4 : Sat h4 S (lst b2 33 [] :: jA b1 J00 :: dsk d D :: R) := hs3.fresh f4
  have hs4 := own.ofLst (sz := 1) (n := 0) (c := 0) (xs := []) hs4 rfl (Nat.le_refl _) (by decide) rfl
  refine ⟨fun x n h => ∃ k : Nat, n = k ∧ k ≤ many ∧ ∃ (S' : PH) (vs : List Sl), PH.le S S' ∧ vs.length = k ∧ (∀ i (h : i < vs.length), RdB S' vs[i] (D.f (first + i)).b) ∧ Sat h S' (own 33 1 x (fV vs) :: jA b1 J00 :: dsk d D :: R), fun _ n _ => many - n.toNat, ⟨0, rfl, Nat.zero_le _, S, [], PH.le.refl _, rfl, (fun i h => by simp at h), hs4⟩, ?_⟩
  rintro x n h5 ⟨k, rfl, hk, S1, vs, hS1, hvl, hvs, hs5⟩ _
  have hxl := (own.len hs5).1
  simp only [fV, List.length_map, Nat.mul_one] at hxl
  refine CondP.of (fun hc => ?_) (fun hc => ?_)
  · have hc : k < many := by simp at hc; omega
    rw [i64_add (by omega)]
    refine read_spec (i := first + k) (by omega) (hs5.sel [2]) fun x2 h6 S2 hS2 hx2 hs6 => ⟨x2, rfl, ?_⟩
    intro b3 h7 f7
    have hs7 : Sat h7 S2 (lst b3 33 (fV [x2]) :: dsk d D :: own 33 1 x (fV vs) :: jA b1 J00 :: R) := hs6.fresh f7
    refine append_one el98 (v := x) (xs := fV vs) (hs7.sel [0, 1]) rfl (fV_one _) (by omega) (by unfold maxLen; omega) fun v' h8 hv' hs8 => ?_
    rw [i64_succ (by omega)]
    refine ⟨⟨k + 1, rfl, hc, S2, vs ++ [x2], hS1.trans hS2, by simp [hvl], fun i h => ?_, ?_⟩, ?_⟩
    · rcases Nat.lt_or_ge i vs.length with h1 | h1
      · rw [List.getElem_append_left h1]; exact (hvs i h1).mono hS2
      · have : i = vs.length := by simp at h; omega
        subst this
        rw [List.getElem_append_right (Nat.le_refl _)]
        simp only [Nat.sub_self, List.getElem_cons_zero]
        rw [hvl]; exact hx2
    · have e : fV vs ++ fV [x2] = fV (vs ++ [x2]) := by simp [fV]
      rw [e] at hs8
      exact hs8.sel [0, 1]
    · show many - (k + 1) < many - k; omega
  have hc : k = many := by simp at hc; omega
  subst hc
  obtain ⟨S2, q1, q2, hs6⟩ := own.fixd hs5
  have hS2 := hS1.trans q1
  have hvs2 : ∀ i (h : i < vs.length), RdB S2 vs[i] (D.f (first + i)).b := fun i h => (hvs i h).mono q1
  have hLs : ∀ n ∈ Ls, n < k ∧ isSeg hds n = true := fun n hn => mem_ixs.1 (hperm.symm.subset hn)
  have hLl : Ls.length ≤ k := by rw [← hperm.length_eq]; exact ixs_len hds k
  have hpo : ∀ n, n ∈ Ls → (pnOf Ls rsf n) = (pbs ((rsf n).map Rec.par)).length := fun n hn => by rw [pnOf, if_pos hn]
  refine scan_spec (vs := vs) (hds := hds) (Ls := Ls) (rsf := rsf) (tl := tl) (pl := pl) hs6 q2 (by omega) (by omega) (fun i hi => ?_) (by rw [hvl]; exact hperm) hstr (fun i hi h2 => ?_) hrun fun y z g h9 S3 hS3 hg hge hs7 => ⟨_, _, ⟨none, 0, 0⟩, z, y, _, rfl, ?_⟩
  · have h1 := hok i (by omega)
    have h2 := hvs2 i hi
    have h3 := hfit (first + i) (by omega)
    cases hh : (hds[i]?).getD none with
    | none => rw [hh] at h1; exact ⟨_, h2, h1⟩
    | some hd =>
      rw [hh] at h1
      obtain ⟨h4, rest, h5⟩ := h1
      rw [h5] at h2 h3
      refine ⟨h4, rest, h2, ?_⟩
      rw [List.length_append] at h3; omega
  · obtain ⟨⟨g1, g2, g3, g4⟩, g5⟩ := hseg i hi
    have h3 := hvs2 _ h2
    have h4 := hfit (first + Ls[i]) (by omega)
    have h5 := RdB.len h3
    rw [g1] at h3
    exact ⟨⟨h3, g2, g3, by omega, g4⟩, g5⟩
  intro b4 h10 f10
  have hs8 := hs7.fresh f10
  refine Sat.store (T := 94) (l := [.int .u64 0, .int .u64 0, .slice none 0 0, .slice none 0 0]) hs8 (Nat.le_refl _) fun h11 hs9 => ?_
  have hs9 : Sat h11 S3 (lst b4 94 (lgV g.fi g.ft z) :: ownE z g.es :: ownI y Ls :: jA b1 J00 :: dsk d D :: R) := hs9
  refine CondP.of (fun hc => by simp at hc) fun _ => ⟨_, _, ⟨none, 0, 0⟩, z, hs9.cells 0 rfl, ?_⟩
  obtain ⟨ve, vs', hs10⟩ := jA_open (hs9.sel [3])
  refine set_log (S := S3) (J := J00) (ve := ve) (vs := vs') (vs' := z) (g := g) (R := ownE ve J00.log.es :: lst b4 94 (lgV g.fi g.ft z) :: ownI y Ls :: dsk d D :: R) (hs10.sel [4, 0, 1]) fun h12 hs11 => ?_
  have hs11 : Sat h12 S3 (jA b1 ⟨d, first, k, each, g, segsOf first hds (Ls.take 0), false⟩ :: ownI y Ls :: dsk d D :: R) := by
    have := (hs11.del 1).del 1
    rw [hJ00] at this; exact this
  have hyl : y.l = Ls.length := (ownI.len (hs11.pick 1 rfl)).1
  have hfvl : x.l = k := by omega
  refine ⟨fun n h => ∃ m : Nat, n = m ∧ m ≤ Ls.length ∧ ∃ S', PH.le S3 S' ∧ Sat h S' (jA b1 ⟨d, first, k, each, g, segsOf first hds (Ls.take m), false⟩ :: ownI y Ls :: dsk d D :: R), fun n _ => Ls.length - n.toNat, ⟨0, rfl, Nat.zero_le _, S3, PH.le.refl _, hs11⟩, ?_⟩
  rintro n h13 ⟨m, rfl, hm', S4, hS4, hs12⟩ _
  refine CondP.of (fun hc => ?_) (fun hc => ?_)
  · have hc : m < Ls.length := by simp at hc; omega
    obtain ⟨gb, ga, gc⟩ := ownI.at (hs12.pick 1 rfl) hc
    obtain ⟨hln, hsg⟩ := hLs _ (List.getElem_mem hc)
    refine ⟨⟨by omega, by omega⟩, NilP.of ga ⟨_, gc m hc, ⟨by omega, by omega⟩, ?_⟩⟩
    obtain ⟨fb, fo, fa, fc⟩ := Rd.at (q2.mono (hS3.trans hS4)) hs12 (by omega)
    have hln' : Ls[m] < vs.length := by omega
    refine NilP.of fa ⟨vs[Ls[m]], by have := fc.get Ls[m] (.slice vs[Ls[m]].a vs[Ls[m]].l vs[Ls[m]].c) (by simp [fV, hln']); simpa using this, ?_⟩
    have h1 := hok _ hln
    have h2 := (hvs2 _ hln').mono (hS3.trans hS4)
    have h3 := hfit (first + Ls[m]) (by omega)
    cases hh : (hds[Ls[m]]?).getD none with
    | none => rw [isSeg, hh] at hsg; cases hsg
    | some hd =>
      rw [hh] at h1
      obtain ⟨k1, rest, k2⟩ := h1
      rw [k2] at h2 h3
      rw [List.length_append] at h3
      refine headOf_ok hs12 h2 k1 (by omega) fun h14 S5 hS5 hs13 => ⟨_, _, _, _, _, rfl, ?_⟩
      intro b7 h15 f15
      have hs14 := hs13.fresh f15
      refine Sat.store (T := 103) (l := [.int .u64 0, .bool false, .int .u64 0, .int .u64 0]) hs14 (Nat.le_refl _) fun h16 hs15 => ?_
      have hs15 : Sat h16 S5 (lst b7 103 (hdV hd) :: jA b1 ⟨d, first, k, each, g, segsOf first hds (Ls.take m), false⟩ :: ownI y Ls :: dsk d D :: R) := hs15
      obtain ⟨ve2, vs2, hs16⟩ := jA_open (hs15.sel [1])
      refine ⟨vs2, hs16.cell 8 rfl, _, _, _, _, (hs16.pick 3 rfl).cells 0 rfl, ?_⟩
      rw [i64_add (by omega)]
      intro b8 h17 f17
      have hs17 := hs16.fresh f17
      have hs17 : Sat h17 S5 (lst b8 107 (segV1 ⟨first + Ls[m], hd⟩) :: lst b1 97 (jcs ⟨d, first, k, each, g, segsOf first hds (Ls.take m), false⟩ ve2 vs2) :: ownE ve2 g.es :: ownS vs2 (segsOf first hds (Ls.take m)) :: lst b7 103 (hdV hd) :: ownI y Ls :: dsk d D :: R) := hs17
      refine ⟨hs17.swap.cell 8 rfl, ?_⟩
      have hvl2 := (ownS.len (hs17.pick 3 rfl)).1
      have hsl2 : (segsOf first hds (Ls.take m)).length = m := by simp [segsOf]; omega
      refine append_one el95 (v := vs2) (xs := segV (segsOf first hds (Ls.take m))) (hs17.sel [0, 2]) rfl (by intro u hu; simp [segV1, hdV] at hu; rcases hu with rfl | rfl | rfl | rfl | rfl <;> rfl) (by omega) (by unfold maxLen; omega) fun v' h18 hv' hs18 => ?_
      have e3 : segV (segsOf first hds (Ls.take m)) ++ segV1 ⟨first + Ls[m], hd⟩ = segV (segsOf first hds (Ls.take (m + 1))) := by
        have : hdAt hds Ls[m] = hd := by rw [hdAt, hh]; rfl
        rw [List.take_succ_eq_append_getElem hc, segsOf, segsOf, List.map_append, List.map_cons, List.map_nil, this]; simp [segV]
      rw [e3] at hs18
      refine set_segs (S := S5) (J := ⟨d, first, k, each, g, segsOf first hds (Ls.take m), false⟩) (ve := ve2) (vs := vs2) (vs' := v') (l := segsOf first hds (Ls.take (m + 1))) hs18 fun h19 hs19 => ?_
      rw [i64_succ (by omega)]
      refine ⟨⟨m + 1, rfl, hc, S5, hS4.trans hS5, hs19.del 1⟩, ?_⟩
      show Ls.length - (m + 1) < Ls.length - m; omega
  have hc : m = Ls.length := by simp at hc; omega
  subst hc
  rw [List.take_length] at hs12
  obtain ⟨J0, hJ0⟩ : ∃ J0 : Jn, J0 = ⟨d, first, k, each, g, segsOf first hds Ls, false⟩ := ⟨_, rfl⟩
  have hK := fun jb' H' S' X => hK jb' g H' S' X
  rw [← hJ0] at hs12
  simp only [← hJ0] at hK
  obtain ⟨tk, htk⟩ : ∃ tk : Nat → Dk × Jn, tk = fun i => tidyK first (pnOf Ls rsf) (fun n => (D.f (first + n)).b.length) (fun n => decide (n ∈ Ls)) i (D, J0) := ⟨_, rfl⟩
  have htf : ∀ i, (tk i).2.d = d ∧ (tk i).2.segs = segsOf first hds Ls ∧ (tk i).2.first = first ∧ (tk i).2.many = k := fun i => by
    obtain ⟨h1, h2, h3, h4, h5, h6⟩ := tidyK_facts first (pnOf Ls rsf) (fun n => (D.f (first + n)).b.length) (fun n => decide (n ∈ Ls)) (D, J0) i
    rw [htk]
    exact ⟨by rw [h1, hJ0], by rw [h2, hJ0], by rw [h4, hJ0], by rw [h5, hJ0]⟩
  have hSall : PH.le S S4 := (hS2.trans hS3).trans hS4
  refine ⟨fun n h => ∃ i : Nat, n = i ∧ i ≤ k ∧ ∃ S', PH.le S4 S' ∧ Sat h S' (jA b1 (tk i).2 :: dsk d (tk i).1 :: ownI y Ls :: R), fun n _ => k - n.toNat, ⟨0, rfl, Nat.zero_le _, S4, PH.le.refl _, by rw [htk]; exact hs12.sel [0, 1]⟩, ?_⟩
  rintro n h20 ⟨i, rfl, hi, S5, hS5, hs13⟩ _
  refine CondP.of (fun hc => ?_) (fun hc => ?_)
  · have hc : i < k := by simp at hc; omega
    refine ⟨⟨by omega, by omega⟩, ?_⟩
    obtain ⟨fb, fo, fa, fc⟩ := Rd.at (q2.mono ((hS3.trans hS4).trans hS5)) hs13 (by omega)
    have hi' : i < vs.length := by omega
    have hcell : cellH h20 fb (fo + (i : Int).toNat) = some (.slice vs[i].a vs[i].l vs[i].c) := by
      have := fc.get i (.slice vs[i].a vs[i].l vs[i].c) (by simp [fV, hi']); simpa using this
    refine NilP.of fa ⟨vs[i], hcell, contains_spec (hs13.sel [2]) (by omega) ⟨_, rfl, hcell, ?_⟩⟩
    rw [i64_add (by omega)]
    have hvi := (hvs2 _ hi').mono ((hS3.trans hS4).trans hS5)
    have hvil := RdB.len hvi
    have hfi := hfit (first + i) (by omega)
    have hs14 : Sat h20 S5 (jA b1 (tk i).2 :: dsk (tk i).2.d (tk i).1 :: ownI y Ls :: R) := by rw [(htf i).1]; exact hs13
    have hnext : ∀ (h22 : Heap) (S6 : PH), PH.le S5 S6 → Sat h22 S6 (jA b1 (tk (i + 1)).2 :: dsk (tk i).2.d (tk (i + 1)).1 :: ownI y Ls :: R) →
        (∃ i' : Nat, IntKind.i64.wrap ((i : Int) + 1) = i' ∧ i' ≤ k ∧ ∃ S', PH.le S4 S' ∧ Sat h22 S' (jA b1 (tk i').2 :: dsk d (tk i').1 :: ownI y Ls :: R)) ∧ k - (IntKind.i64.wrap ((i : Int) + 1)).toNat < k - (i : Int).toNat := by
      intro h22 S6 hS6 hs15
      rw [i64_succ (by omega)]
      rw [(htf i).1] at hs15
      refine ⟨⟨i + 1, rfl, hc, S6, hS5.trans hS6, hs15⟩, ?_⟩
      show k - (i + 1) < k - i; omega
    have hstep : tk (i + 1) = (tk i).2.tidy (tk i).1 (first + i) (pnOf Ls rsf i) (D.f (first + i)).b.length (decide (i ∈ Ls)) := by rw [htk]; rfl
    by_cases hin : i ∈ Ls
    · obtain ⟨kk, hkk, hke⟩ := List.getElem_of_mem hin
      obtain ⟨⟨g1, g2, g3, g4⟩, g5⟩ := hseg kk hkk
      rw [hke] at g1 g2 g3 g4
      rw [g1] at hvi
      refine tidy_spec (ps := (rsf i).map Rec.par) (t := tl i) hs14 (by omega) hvi (fun _ p hp => by obtain ⟨r, hr, rfl⟩ := List.mem_map.1 hp; exact Rec.pok (g2 r hr)) (fun _ => g3) (by omega) fun h22 S6 hS6 hs15 => ⟨rfl, hnext h22 S6 hS6 ?_⟩
      rw [hstep, hpo i hin, ← hvil]; exact hs15
    · refine tidy_spec (ps := []) (t := (D.f (first + i)).b) hs14 (by omega) hvi (fun h => absurd (of_decide_eq_true h) hin) (fun h => absurd (of_decide_eq_true h) hin) (by omega) fun h22 S6 hS6 hs15 => ⟨rfl, hnext h22 S6 hS6 ?_⟩
      have hp0 : pnOf Ls rsf i = 0 := by rw [pnOf, if_neg hin]
      rw [hstep, hp0, ← hvil]; exact hs15
  have hc : i = k := by simp at hc; omega
  subst hc
  obtain ⟨t1, t2, t3, t4⟩ := htf i
  have hs14 : Sat h20 S5 (jA b1 (tk i).2 :: dsk (tk i).2.d (tk i).1 :: ownI y Ls :: R) := by rw [t1]; exact hs13
  have hKK := fun X H' S' (h1 : PH.le S5 S') h2 h3 => hK b1 H' S' X ((hSall.trans hS5).trans h1) hg (hge.mono ((hS4.trans hS5).trans h1)) h2 h3
  have htk' : tidyK first (pnOf Ls rsf) (fun n => (D.f (first + n)).b.length) (fun n => decide (n ∈ Ls)) i (D, J0) = tk i := by rw [htk]
  rw [htk'] at hKK
  have hfl : ∀ z ∈ segsOf first hds Ls, z.file < 32 := by
    intro z hz
    obtain ⟨n, hn, rfl⟩ := List.mem_map.1 hz
    have := (hLs n hn).1
    show first + n < 32; omega
  have hsl : (segsOf first hds Ls).length = Ls.length := by simp [segsOf]
  have fin : ∀ (X : Dk × Jn) (h24 : Heap) (S6 : PH), PH.le S5 S6 → X = openedR (tk i) (decide (Ls = [])) → Sat h24 S6 (jA b1 X.2 :: dsk d X.1 :: ownI y Ls :: R) →
      ∃ t8 : Bool, cellH h24 b1 9 = some (.bool t8) ∧ CondP t8 (K (.tuple #[.pointer none, .int .i64 70]) h24) (K (.tuple #[.pointer (some ⟨b1, 0, none⟩), .int .i64 0]) h24) := by
    intro X h24 S6 hS6 hX hs15
    have h1 := hKK X h24 S6 hS6 hX (hs15.del 2)
    obtain ⟨ve, vs, hs16⟩ := jA_open hs15
    refine ⟨_, hs16.cell 9 rfl, CondP.of (fun hc => ?_) (fun hc => ?_)⟩
    · rw [if_pos hc] at h1; exact h1
    · rw [if_neg (by rw [hc]; simp)] at h1; exact h1
  refine CondP.of (fun hc => ?_) (fun hc => ?_)
  · have hnil : Ls = [] := List.eq_nil_of_length_eq_zero (by simp at hc; omega)
    have hX : openedR (tk i) (decide (Ls = [])) = ((tk i).2.start (tk i).1 ⟨0, false, 0, 0⟩).2.2.idle ((tk i).2.start (tk i).1 ⟨0, false, 0, 0⟩).2.1 := by
      rw [openedR, if_pos (decide_eq_true hnil)]
    have hfx : (tk i).2.fix ⟨0, false, 0, 0⟩ = ⟨0, false, 0, 0⟩ := by rw [Jn.fix, t2, hnil]; rfl
    refine start_spec (h := ⟨0, false, 0, 0⟩) hs14 (by rw [t3, t4]; omega) (by rw [t2, hsl]; omega) (by rw [hfx]; exact ⟨Nat.zero_le _, Nat.zero_le _, Nat.zero_le _⟩) fun h23 S6 hS6 hs15 => ⟨_, rfl, ?_⟩
    obtain ⟨c1, c2, c3, c4, c5, c6⟩ := start_cases (tk i).2 (tk i).1 ⟨0, false, 0, 0⟩
    rw [← c1] at hs15
    refine idle_any hs15 ?_ ?_ fun h24 hs16 => ⟨rfl, ?_⟩
    · intro z hz
      rcases c6 with ⟨_, h⟩ | ⟨n, hn, _, h⟩
      · rw [h, t2] at hz; exact hfl z hz
      · rw [h, t2] at hz
        rcases List.mem_append.1 hz with h | h
        · exact hfl z h
        · simp only [List.mem_singleton] at h
          subst h; exact free_lt (by rw [t3, t4]; omega) hn
    · rcases c6 with ⟨_, h⟩ | ⟨n, hn, _, h⟩
      · rw [h, t2, hsl]; omega
      · rw [h, List.length_append, t2, hsl]; simp; omega
    · exact fin _ h24 S6 hS6 hX.symm (by rw [c1, t1] at hs16; exact hs16)
  · have hnil : ¬ Ls = [] := by intro h; rw [h] at hyl; simp [hyl] at hc
    have hX : openedR (tk i) (decide (Ls = [])) = (tk i).2.idle (tk i).1 := by
      rw [openedR, if_neg (by rw [decide_eq_false hnil]; simp)]
    refine idle_any hs14 (by rw [t2]; exact hfl) (by rw [t2, hsl]; omega) fun h25 hs15 => ⟨rfl, ?_⟩
    exact fin _ h25 S5 (PH.le.refl _) hX.symm (by rw [t1] at hs15; exact hs15)
end
end Go.Sx.Tryz
namespace Go.Sx.Tryz
open Go Go.Sx Go.Proofs
set_option maxRecDepth 100000
set_option linter.unusedVariables false
noncomputable def c18 : Code := (Tryz.f18.body).getD .skip
def a18 : Ann := (.seq .leaf (.seq .leaf .leaf))
theorem ok18 : okC tab 9 true c18 a18 = true := by kernel_rfl
theorem vc18 (s_0 : Int) (s_1 : Int) (s_2 : Sl) (s_3 : Sl) (h : Heap) (R : Value → Heap → Prop)
  (hv : ∀ b1 h1, Fresh h (.cells #[.int .u64 s_0, .int .u64 s_1, .slice s_2.a s_2.l s_2.c, .slice s_3.a s_3.l s_3.c] 38) b1 h1 →
   ∀ b2 h2, Fresh h1 (.cells #[.int .u64 0, .int .u64 0, .slice none 0 0] 35) b2 h2 →
   ∃ n1 : Int, ∃ n2 : Int, ∃ x1 : Sl, CellsAt h2 b1 0 [.int .u64 n1, .int .u64 n2, .slice x1.a x1.l x1.c] ∧
   ∃ x2 : Sl, cellH h2 b1 3 = some (.slice x2.a x2.l x2.c) ∧
   CallsH Tryz.prog 54 #[.agg #[.int .u64 n1, .int .u64 n2, .slice x1.a x1.l x1.c, .slice x2.a x2.l x2.c, .int .i64 0]] h2 (fun r1 h3 => ∃ n3 : Int, ∃ n4 : Int, ∃ x3 : Sl, r1 = .agg #[.int .u64 n3, .int .u64 n4, .slice x3.a x3.l x3.c] ∧
   CanSt h3 b2 0 [.int .u64 n3, .int .u64 n4, .slice x3.a x3.l x3.c] ∧ ∀ h4, Stored h3 b2 0 [.int .u64 n3, .int .u64 n4, .slice x3.a x3.l x3.c] h4 →
   ∃ n5 : Int, ∃ n6 : Int, ∃ x4 : Sl, CellsAt h4 b2 0 [.int .u64 n5, .int .u64 n6, .slice x4.a x4.l x4.c] ∧
   R (.agg #[.int .u64 n5, .int .u64 n6, .slice x4.a x4.l x4.c]) h4)) :
  CallsH Tryz.prog 18 #[.agg #[.int .u64 s_0, .int .u64 s_1, .slice s_2.a s_2.l s_2.c, .slice s_3.a s_3.l s_3.c]] h R :=
  calls_of_vc tabOk mixed Tryz.func18 (c := c18) (by kernel_rfl) (n := 9) rfl (rs := [.cell 2 35]) (by kernel_rfl) ok18 (args := [.agg #[.int .u64 s_0, .int .u64 s_1, .slice s_2.a s_2.l s_2.c, .slice s_3.a s_3.l s_3.c]]) (Nat.le_of_ble_eq_true rfl) (Eq.mpr (by kernel_rfl) hv)
end Go.Sx.Tryz
namespace Go.Sx.Tryz
open Go Go.Sx Go.Proofs
set_option maxRecDepth 100000
set_option linter.unusedVariables false
noncomputable def c44 : Code := (Tryz.f44.body).getD .skip
def a44 : Ann := (.seq .leaf (.seq (.reg (.q 0 (.q 4 (.q 5 (.q 6 (.q 7 (.m 1 (.q 2 (.q 3 (.m 8 (.q 9 (.q 10 (.q 11 (.q 12 (.q 13 (.fin)))))) (.nil)))) (.nil)))))))) .leaf))
theorem ok44 : okC tab 18 true c44 a44 = true := by kernel_rfl
theorem vc44 (s_0 : Int) (s_1 : Int) (s_2 : Sl) (s_3 : Sl) (o_0 : Int) (o_1 : Int) (o_2 : Int) (o_3 : Int) (o_4 : Int) (o_5 : Sl) (h : Heap) (R : Value → Heap → Prop)
  (hv : ∀ b1 h1, Fresh h (.cells #[.int .u64 s_0, .int .u64 s_1, .slice s_2.a s_2.l s_2.c, .slice s_3.a s_3.l s_3.c] 38) b1 h1 →
   ∀ b2 h2, Fresh h1 (.cells #[.int .i64 o_0, .int .i64 o_1, .int .i64 o_2, .int .u64 o_3, .int .u64 o_4, .slice o_5.a o_5.l o_5.c] 40) b2 h2 →
   ∃ n1 : Int, ∃ n2 : Int, ∃ x1 : Sl, ∃ x2 : Sl, CellsAt h2 b1 0 [.int .u64 n1, .int .u64 n2, .slice x1.a x1.l x1.c, .slice x2.a x2.l x2.c] ∧
   ∃ n3 : Int, cellH h2 b2 3 = some (.int .u64 n3) ∧
   (20 : Int) ≠ 0 ∧
   ∃ n4 : Int, ∃ n5 : Int, ∃ x3 : Sl, ∃ x4 : Sl, CellsAt h2 b1 0 [.int .u64 n4, .int .u64 n5, .slice x3.a x3.l x3.c, .slice x4.a x4.l x4.c] ∧
   CallsH Tryz.prog 18 #[.agg #[.int .u64 n1, .int .u64 n2, .slice x1.a x1.l x1.c, .slice x2.a x2.l x2.c]] h2 (fun r1 h3 => ∃ n6 : Int, ∃ n7 : Int, ∃ x5 : Sl, r1 = .agg #[.int .u64 n6, .int .u64 n7, .slice x5.a x5.l x5.c] ∧
   CellsAt h3 b1 0 [.int .u64 n4, .int .u64 n5, .slice x3.a x3.l x3.c, .slice x4.a x4.l x4.c] ∧
   cellH h3 b2 3 = some (.int .u64 n3) ∧
   CallsH Tryz.prog 18 #[.agg #[.int .u64 n4, .int .u64 n5, .slice x3.a x3.l x3.c, .slice x4.a x4.l x4.c]] h3 (fun r2 h4 => ∃ n8 : Int, ∃ n9 : Int, ∃ x6 : Sl, r2 = .agg #[.int .u64 n8, .int .u64 n9, .slice x6.a x6.l x6.c] ∧
   cellH h4 b2 3 = some (.int .u64 n3) ∧
   R (.int .u64 (IntKind.u64.wrap ((IntKind.u64.wrap (n6 + 1)) - (if (IntKind.u64.wrap (n8 + 1)) < (Int.tmod n3 20) then (IntKind.u64.wrap (n8 + 1)) else (Int.tmod n3 20))))) h4))) :
  CallsH Tryz.prog 44 #[.agg #[.int .u64 s_0, .int .u64 s_1, .slice s_2.a s_2.l s_2.c, .slice s_3.a s_3.l s_3.c], .agg #[.int .i64 o_0, .int .i64 o_1, .int .i64 o_2, .int .u64 o_3, .int .u64 o_4, .slice o_5.a o_5.l o_5.c]] h R :=
  calls_of_vc tabOk mixed Tryz.func44 (c := c44) (by kernel_rfl) (n := 18) rfl (rs := [.tmp 4]) (by kernel_rfl) ok44 (args := [.agg #[.int .u64 s_0, .int .u64 s_1, .slice s_2.a s_2.l s_2.c, .slice s_3.a s_3.l s_3.c], .agg #[.int .i64 o_0, .int .i64 o_1, .int .i64 o_2, .int .u64 o_3, .int .u64 o_4, .slice o_5.a o_5.l o_5.c]]) (Nat.le_of_ble_eq_true rfl) (Eq.mpr (by kernel_rfl) hv)
end Go.Sx.Tryz
namespace Go.Sx.Tryz
open Go Go.Sx Go.Proofs
set_option maxRecDepth 100000
set_option linter.unusedVariables false
noncomputable def c45 : Code := (Tryz.f45.body).getD .skip
def a45 : Ann := (.seq .leaf (.seq .leaf (.seq .leaf .leaf)))
theorem ok45 : okC tab 18 true c45 a45 = true := by kernel_rfl
theorem vc45 (s_0 : Int) (s_1 : Int) (s_2 : Sl) (s_3 : Sl) (from_ : Int) (h : Heap) (R : Value → Heap → Prop)
  (hv : ∀ b1 h1, Fresh h (.cells #[.int .u64 s_0, .int .u64 s_1, .slice s_2.a s_2.l s_2.c, .slice s_3.a s_3.l s_3.c] 38) b1 h1 →
   ∀ b2 h2, Fresh h1 (.cells #[.int .u64 0, .int .u64 0, .slice none 0 0, .slice none 0 0] 38) b2 h2 →
   ∀ b3 h3, Fresh h2 (.cells #[] 35) b3 h3 →
   ∃ x1 : Sl, cellH h3 b1 3 = some (.slice x1.a x1.l x1.c) ∧
   ∃ n1 : Int, cellH h3 b1 0 = some (.int .u64 n1) ∧
   ((0 : Int) ≤ (0 : Int) ∧ (0 : Int) ≤ IntKind.u64.wrap ((IntKind.u64.wrap (from_ - 1)) - n1) ∧ IntKind.u64.wrap ((IntKind.u64.wrap (from_ - 1)) - n1) ≤ ((x1.c : Nat) : Int)) ∧
   RunK Tryz.prog (.sl) (Builtin.append_ #[36, 36] 36 #[.slice (some ⟨b3, 0, none⟩) 0 0, .slice (subA x1.a 0 x1.c 3) ((IntKind.u64.wrap ((IntKind.u64.wrap (from_ - 1)) - n1)).toNat) x1.c]) h3 (fun x2 h4 =>
   CanSt h4 b1 3 [.slice x2.a x2.l x2.c] ∧ ∀ h5, Stored h4 b1 3 [.slice x2.a x2.l x2.c] h5 →
   ∃ n2 : Int, ∃ n3 : Int, ∃ x3 : Sl, ∃ x4 : Sl, CellsAt h5 b1 0 [.int .u64 n2, .int .u64 n3, .slice x3.a x3.l x3.c, .slice x4.a x4.l x4.c] ∧
   CanSt h5 b2 0 [.int .u64 n2, .int .u64 n3, .slice x3.a x3.l x3.c, .slice x4.a x4.l x4.c] ∧ ∀ h6, Stored h5 b2 0 [.int .u64 n2, .int .u64 n3, .slice x3.a x3.l x3.c, .slice x4.a x4.l x4.c] h6 →
   ∃ n4 : Int, ∃ n5 : Int, ∃ x5 : Sl, ∃ x6 : Sl, CellsAt h6 b2 0 [.int .u64 n4, .int .u64 n5, .slice x5.a x5.l x5.c, .slice x6.a x6.l x6.c] ∧
   R (.agg #[.int .u64 n4, .int .u64 n5, .slice x5.a x5.l x5.c, .slice x6.a x6.l x6.c]) h6)) :
  CallsH Tryz.prog 45 #[.agg #[.int .u64 s_0, .int .u64 s_1, .slice s_2.a s_2.l s_2.c, .slice s_3.a s_3.l s_3.c], .int .u64 from_] h R :=
  calls_of_vc tabOk mixed Tryz.func45 (c := c45) (by kernel_rfl) (n := 18) rfl (rs := [.cell 4 38]) (by kernel_rfl) ok45 (args := [.agg #[.int .u64 s_0, .int .u64 s_1, .slice s_2.a s_2.l s_2.c, .slice s_3.a s_3.l s_3.c], .int .u64 from_]) (Nat.le_of_ble_eq_true rfl) (Eq.mpr (by kernel_rfl) hv)
end Go.Sx.Tryz
namespace Go.Sx.Tryz
open Go Go.Sx Go.Proofs
set_option maxRecDepth 100000
set_option linter.unusedVariables false
noncomputable def c31 : Code := (Tryz.f31.body).getD .skip
def a31 : Ann := (.seq .leaf (.seq .leaf (.seq (.seq .leaf (.inn (.loop [(3, .one (.sl)), (8, .one (.i .i64))] (.seq .leaf (.seq (.br .leaf .leaf) (.seq (.inn (.seq .leaf .leaf)) .leaf)))))) (.seq .leaf .leaf))))
theorem ok31 : okC tab 18 true c31 a31 = true := by kernel_rfl
theorem vc31 (l_ : Sl) (h : Heap) (R : Value → Heap → Prop)
  (hv : ∃ (I1 : Sl → Int → Heap → Prop) (mu1 : Sl → Int → Heap → Nat), I1 ⟨none, 0, 0⟩ 0 h ∧ (∀ x1 : Sl, ∀ n1 : Int, ∀ h1, I1 x1 n1 h1 → ∀ _ : Env,
   CondP (decide ((n1 : Int) < ((l_.l : Nat) : Int))) (
   ((0 : Int) ≤ n1 ∧ (n1 : Int) < ((l_.l : Nat) : Int)) ∧
   NilP l_.a (fun b1 o1 =>
   ∃ n2 : Int, ∃ n3 : Int, ∃ x2 : Sl, CellsAt h1 b1 (o1 + n1.toNat * 3) [.int .u64 n2, .int .u64 n3, .slice x2.a x2.l x2.c] ∧
   ∀ b2 h2, Fresh h1 (.cells #[.int .u64 0, .int .u64 0, .slice none 0 0] 85) b2 h2 →
   CanSt h2 b2 0 [.int .u64 n2, .int .u64 n3, .slice x2.a x2.l x2.c] ∧ ∀ h3, Stored h2 b2 0 [.int .u64 n2, .int .u64 n3, .slice x2.a x2.l x2.c] h3 →
   ∃ n4 : Int, ∃ n5 : Int, ∃ x3 : Sl, CellsAt h3 b2 0 [.int .u64 n4, .int .u64 n5, .slice x3.a x3.l x3.c] ∧
   ∀ b3 h4, Fresh h3 (.cells #[.int .u64 n4, .int .u64 n5, .slice x3.a x3.l x3.c] 35) b3 h4 →
   RunK Tryz.prog (.sl) (Builtin.append_ #[36, 36] 36 #[.slice x1.a x1.l x1.c, .slice (some ⟨b3, 0, none⟩) 1 1]) h4 (fun x4 h5 =>
   I1 x4 (IntKind.i64.wrap (n1 + 1)) h5 ∧ mu1 x4 (IntKind.i64.wrap (n1 + 1)) h5 < mu1 x1 n1 h1))) (
   R (.slice x1.a x1.l x1.c) h1))) :
  CallsH Tryz.prog 31 #[.slice l_.a l_.l l_.c] h R :=
  calls_of_vc tabOk mixed Tryz.func31 (c := c31) (by kernel_rfl) (n := 18) rfl (rs := [.tmp 2]) (by kernel_rfl) ok31 (args := [.slice l_.a l_.l l_.c]) (Nat.le_of_ble_eq_true rfl) (Eq.mpr (by kernel_rfl) hv)
end Go.Sx.Tryz
namespace Go.Sx.Tryz
open Go Go.Sx Go.Proofs
set_option maxRecDepth 100000
set_option linter.unusedVariables false
noncomputable def c30 : Code := (Tryz.f30.body).getD .skip
def a30 : Ann := (.seq .leaf (.seq (.seq .leaf (.br (.seq .leaf .leaf) .leaf)) (.seq (.seq .leaf (.inn (.loop [(13, .one (.i .i64))] (.seq .leaf (.seq (.br .leaf .leaf) (.seq (.inn (.seq .leaf (.seq (.reg (.q 0 (.q 1 (.q 2 (.q 3 (.q 4 (.q 5 (.q 6 (.q 7 (.q 8 (.q 9 (.q 10 (.q 11 (.q 12 (.q 13 (.q 14 (.q 15 (.q 16 (.q 17 (.q 18 (.q 19 (.q 20 (.q 21 (.q 22 (.q 23 (.q 24 (.q 25 (.q 26 (.q 27 (.q 28 (.q 29 (.q 30 (.q 31 (.q 32 (.q 33 (.q 34 (.q 35 (.q 36 (.q 37 (.q 38 (.fin))))))))))))))))))))))))))))))))))))))))) (.br (.seq .leaf .leaf) .leaf)))) .leaf)))))) (.seq .leaf .leaf))))
theorem ok30 : okC tab 56 true c30 a30 = true := by kernel_rfl
theorem vc30 (a_ : Sl) (b_ : Sl) (h : Heap) (R : Value → Heap → Prop)
  (hv : CondP ((((a_.l : Nat) : Int) : Int) != ((b_.l : Nat) : Int)) (
   R (.bool false) h) (
   ∃ (I1 : Int → Heap → Prop) (mu1 : Int → Heap → Nat), I1 0 h ∧ (∀ n1 : Int, ∀ h1, I1 n1 h1 → ∀ _ : Env,
   CondP (decide ((n1 : Int) < ((a_.l : Nat) : Int))) (
   ((0 : Int) ≤ n1 ∧ (n1 : Int) < ((a_.l : Nat) : Int)) ∧
   NilP a_.a (fun b1 o1 =>
   ∃ n2 : Int, cellH h1 b1 (o1 + n1.toNat * 3) = some (.int .u64 n2) ∧
   ((0 : Int) ≤ n1 ∧ (n1 : Int) < ((b_.l : Nat) : Int)) ∧
   NilP b_.a (fun b2 o2 =>
   ∃ n3 : Int, cellH h1 b2 (o2 + n1.toNat * 3) = some (.int .u64 n3) ∧
   CondP ((n2 : Int) != n3) (
   R (.bool false) h1) (
   ((0 : Int) ≤ n1 ∧ (n1 : Int) < ((a_.l : Nat) : Int)) ∧
   NilP a_.a (fun b3 o3 =>
   ∃ n4 : Int, cellH h1 b3 (o3 + n1.toNat * 3 + 1) = some (.int .u64 n4) ∧
   ((0 : Int) ≤ n1 ∧ (n1 : Int) < ((b_.l : Nat) : Int)) ∧
   NilP b_.a (fun b4 o4 =>
   ∃ n5 : Int, cellH h1 b4 (o4 + n1.toNat * 3 + 1) = some (.int .u64 n5) ∧
   CondP ((n4 : Int) != n5) (
   R (.bool false) h1) (
   ((0 : Int) ≤ n1 ∧ (n1 : Int) < ((a_.l : Nat) : Int)) ∧
   NilP a_.a (fun b5 o5 =>
   ∃ x1 : Sl, cellH h1 b5 (o5 + n1.toNat * 3 + 2) = some (.slice x1.a x1.l x1.c) ∧
   ∃ s1 : ByteArray, StrOf h1 x1.a x1.l s1 ∧
   ((0 : Int) ≤ n1 ∧ (n1 : Int) < ((b_.l : Nat) : Int)) ∧
   NilP b_.a (fun b6 o6 =>
   ∃ x2 : Sl, cellH h1 b6 (o6 + n1.toNat * 3 + 2) = some (.slice x2.a x2.l x2.c) ∧
   ∃ s2 : ByteArray, StrOf h1 x2.a x2.l s2 ∧
   CondP (!((s1 : ByteArray).toList == (s2 : ByteArray).toList)) (
   R (.bool false) h1) (
   I1 (IntKind.i64.wrap (n1 + 1)) h1 ∧ mu1 (IntKind.i64.wrap (n1 + 1)) h1 < mu1 n1 h1)))))))))) (
   R (.bool true) h1)))) :
  CallsH Tryz.prog 30 #[.slice a_.a a_.l a_.c, .slice b_.a b_.l b_.c] h R :=
  calls_of_vc tabOk mixed Tryz.func30 (c := c30) (by kernel_rfl) (n := 56) rfl (rs := [.tmp 4]) (by kernel_rfl) ok30 (args := [.slice a_.a a_.l a_.c, .slice b_.a b_.l b_.c]) (Nat.le_of_ble_eq_true rfl) (Eq.mpr (by kernel_rfl) hv)
end Go.Sx.Tryz
namespace Go.Sx.Tryz
open Go Go.Sx Go.Proofs
set_option maxRecDepth 100000
set_option linter.unusedVariables false
noncomputable def c34 : Code := (Tryz.f34.body).getD .skip
def a34 : Ann := (.seq .leaf (.seq .leaf .leaf))
theorem ok34 : okC tab 10 true c34 a34 = true := by kernel_rfl
theorem vc34 (index_ : Int) (term_ : Int) (h : Heap) (R : Value → Heap → Prop)
  (hv : ∀ b1 h1, Fresh h (.cells #[.int .u64 0, .int .u64 0, .slice none 0 0] 85) b1 h1 →
   ∀ b2 h2, Fresh h1 (.cells #[.int .u8 120] 5) b2 h2 →
   RunK Tryz.prog (.sl) (convert 33 33 (.slice (some ⟨b2, 0, none⟩) 1 1)) h2 (fun x1 h3 =>
   CanSt h3 b1 0 [.int .u64 index_, .int .u64 term_, .slice x1.a x1.l x1.c] ∧ ∀ h4, Stored h3 b1 0 [.int .u64 index_, .int .u64 term_, .slice x1.a x1.l x1.c] h4 →
   ∃ n1 : Int, ∃ n2 : Int, ∃ x2 : Sl, CellsAt h4 b1 0 [.int .u64 n1, .int .u64 n2, .slice x2.a x2.l x2.c] ∧
   R (.agg #[.int .u64 n1, .int .u64 n2, .slice x2.a x2.l x2.c]) h4)) :
  CallsH Tryz.prog 34 #[.int .u64 index_, .int .u64 term_] h R :=
  calls_of_vc tabOk mixed Tryz.func34 (c := c34) (by kernel_rfl) (n := 10) rfl (rs := [.cell 4 85]) (by kernel_rfl) ok34 (args := [.int .u64 index_, .int .u64 term_]) (Nat.le_of_ble_eq_true rfl) (Eq.mpr (by kernel_rfl) hv)
end Go.Sx.Tryz
namespace Go.Sx.Tryz
open Go Go.Sx Go.Proofs
set_option maxRecDepth 100000
set_option linter.unusedVariables false
noncomputable def c52 : Code := (Tryz.f52.body).getD .skip
def a52 : Ann := (.seq .leaf (.seq .leaf (.seq (.seq .leaf (.inn (.loop [(7, .one (.sl)), (10, .one (.i .i64))] (.seq .leaf (.seq (.br .leaf .leaf) (.seq (.inn (.seq .leaf .leaf)) .leaf)))))) (.seq .leaf .leaf))))
theorem ok52 : okC tab 23 true c52 a52 = true := by kernel_rfl
theorem vc52 (d_b d_o : Nat) (first_ : Int) (many_ : Int) (h : Heap) (R : Value → Heap → Prop)
  (hv : ∃ (I1 : Sl → Int → Heap → Prop) (mu1 : Sl → Int → Heap → Nat), I1 ⟨none, 0, 0⟩ 0 h ∧ (∀ x1 : Sl, ∀ n1 : Int, ∀ h1, I1 x1 n1 h1 → ∀ _ : Env,
   CondP (decide ((n1 : Int) < many_)) (
   CallsH Tryz.prog 37 #[.pointer (some ⟨d_b, d_o, none⟩), .int .i64 (IntKind.i64.wrap (first_ + n1))] h1 (fun r1 h2 => ∃ x2 : Sl, r1 = .slice x2.a x2.l x2.c ∧
   ∀ b1 h3, Fresh h2 (.cells #[.slice x2.a x2.l x2.c] 33) b1 h3 →
   RunK Tryz.prog (.sl) (Builtin.append_ #[98, 98] 98 #[.slice x1.a x1.l x1.c, .slice (some ⟨b1, 0, none⟩) 1 1]) h3 (fun x3 h4 =>
   I1 x3 (IntKind.i64.wrap (n1 + 1)) h4 ∧ mu1 x3 (IntKind.i64.wrap (n1 + 1)) h4 < mu1 x1 n1 h1))) (
   R (.slice x1.a x1.l x1.c) h1))) :
  CallsH Tryz.prog 52 #[.pointer (some ⟨d_b, d_o, none⟩), .int .i64 first_, .int .i64 many_] h R :=
  calls_of_vc tabOk mixed Tryz.func52 (c := c52) (by kernel_rfl) (n := 23) rfl (rs := [.tmp 6]) (by kernel_rfl) ok52 (args := [.pointer (some ⟨d_b, d_o, none⟩), .int .i64 first_, .int .i64 many_]) (Nat.le_of_ble_eq_true rfl) (Eq.mpr (by kernel_rfl) hv)
end Go.Sx.Tryz
namespace Go.Sx.Tryz
open Go Go.Sx Go.Proofs
set_option maxRecDepth 100000
set_option linter.unusedVariables false
noncomputable def c17 : Code := (Tryz.f17.body).getD .skip
def a17 : Ann := (.seq .leaf (.seq .leaf (.seq (.join [(28, .one (.b))] .leaf (.br (.seq .leaf .leaf) .leaf)) (.seq (.seq .leaf (.inn (.loop [(33, .one (.i .i64))] (.seq .leaf (.seq (.br .leaf .leaf) (.seq (.inn (.seq .leaf (.join [(52, .one (.b))] .leaf (.br (.seq .leaf .leaf) .leaf)))) .leaf)))))) (.seq .leaf .leaf)))))
theorem ok17 : okC tab 66 true c17 a17 = true := by kernel_rfl
theorem vc17 (s_0 : Int) (s_1 : Int) (s_2 : Sl) (s_3 : Sl) (j_b j_o : Nat) (most_ : Int) (h : Heap) (R : Value → Heap → Prop)
  (hv : ∀ b1 h1, Fresh h (.cells #[.int .u64 s_0, .int .u64 s_1, .slice s_2.a s_2.l s_2.c, .slice s_3.a s_3.l s_3.c] 38) b1 h1 →
   ∀ b2 h2, Fresh h1 (.cells #[.int .u64 0, .int .u64 0, .slice none 0 0, .slice none 0 0] 38) b2 h2 →
   CallsH Tryz.prog 49 #[.pointer (some ⟨j_b, j_o, none⟩)] h2 (fun r1 h3 => ∃ n1 : Int, ∃ n2 : Int, r1 = .tuple #[.int .u64 n1, .int .u64 n2] ∧
   ∃ J1 : Bool → Heap → Prop, (∀ t1 : Bool, ∀ h4, J1 t1 h4 → ∀ _ : Env,
   CondP t1 (
   ∃ n3 : Int, ∃ n4 : Int, ∃ x1 : Sl, ∃ x2 : Sl, CellsAt h4 b1 0 [.int .u64 n3, .int .u64 n4, .slice x1.a x1.l x1.c, .slice x2.a x2.l x2.c] ∧
   CanSt h4 b2 0 [.int .u64 n3, .int .u64 n4, .slice x1.a x1.l x1.c, .slice x2.a x2.l x2.c] ∧ ∀ h5, Stored h4 b2 0 [.int .u64 n3, .int .u64 n4, .slice x1.a x1.l x1.c, .slice x2.a x2.l x2.c] h5 →
   ∃ n5 : Int, ∃ n6 : Int, ∃ x3 : Sl, ∃ x4 : Sl, CellsAt h5 b2 0 [.int .u64 n5, .int .u64 n6, .slice x3.a x3.l x3.c, .slice x4.a x4.l x4.c] ∧
   R (.tuple #[.agg #[.int .u64 n5, .int .u64 n6, .slice x3.a x3.l x3.c, .slice x4.a x4.l x4.c], .bool true]) h5) (
   ∃ x5 : Sl, cellH h4 b1 3 = some (.slice x5.a x5.l x5.c) ∧
   ∃ (I1 : Int → Heap → Prop) (mu1 : Int → Heap → Nat), I1 0 h4 ∧ (∀ n7 : Int, ∀ h6, I1 n7 h6 → ∀ _ : Env,
   CondP (decide ((n7 : Int) < ((x5.l : Nat) : Int))) (
   ((0 : Int) ≤ n7 ∧ (n7 : Int) < ((x5.l : Nat) : Int)) ∧
   NilP x5.a (fun b3 o1 =>
   ∃ n8 : Int, ∃ n9 : Int, ∃ x6 : Sl, CellsAt h6 b3 (o1 + n7.toNat * 3) [.int .u64 n8, .int .u64 n9, .slice x6.a x6.l x6.c] ∧
   ∀ b4 h7, Fresh h6 (.cells #[.int .u64 0, .int .u64 0, .slice none 0 0] 35) b4 h7 →
   CanSt h7 b4 0 [.int .u64 n8, .int .u64 n9, .slice x6.a x6.l x6.c] ∧ ∀ h8, Stored h7 b4 0 [.int .u64 n8, .int .u64 n9, .slice x6.a x6.l x6.c] h8 →
   ∃ J2 : Bool → Heap → Prop, (∀ t2 : Bool, ∀ h9, J2 t2 h9 → ∀ _ : Env,
   CondP t2 (
   ∀ b5 h10, Fresh h9 (.cells #[] 35) b5 h10 →
   ∃ x7 : Sl, cellH h10 b1 3 = some (.slice x7.a x7.l x7.c) ∧
   ((0 : Int) ≤ IntKind.i64.wrap (n7 + 1) ∧ IntKind.i64.wrap (n7 + 1) ≤ ((x7.l : Nat) : Int)) ∧
   RunK Tryz.prog (.sl) (Builtin.append_ #[36, 36] 36 #[.slice (some ⟨b5, 0, none⟩) 0 0, .slice (subA x7.a ((IntKind.i64.wrap (n7 + 1)).toNat) x7.c 3) (x7.l - ((IntKind.i64.wrap (n7 + 1)).toNat)) (x7.c - ((IntKind.i64.wrap (n7 + 1)).toNat))]) h10 (fun x8 h11 =>
   CanSt h11 b2 0 [.int .u64 n1, .int .u64 n2, .slice none 0 0, .slice x8.a x8.l x8.c] ∧ ∀ h12, Stored h11 b2 0 [.int .u64 n1, .int .u64 n2, .slice none 0 0, .slice x8.a x8.l x8.c] h12 →
   ∃ n10 : Int, ∃ n11 : Int, ∃ x9 : Sl, ∃ x10 : Sl, CellsAt h12 b2 0 [.int .u64 n10, .int .u64 n11, .slice x9.a x9.l x9.c, .slice x10.a x10.l x10.c] ∧
   R (.tuple #[.agg #[.int .u64 n10, .int .u64 n11, .slice x9.a x9.l x9.c, .slice x10.a x10.l x10.c], .bool true]) h12)) (
   I1 (IntKind.i64.wrap (n7 + 1)) h9 ∧ mu1 (IntKind.i64.wrap (n7 + 1)) h9 < mu1 n7 h6)) ∧
   ∃ n12 : Int, cellH h8 b4 0 = some (.int .u64 n12) ∧
   CondP ((n12 : Int) == n1) (
   ∃ n13 : Int, cellH h8 b4 1 = some (.int .u64 n13) ∧
   CondP ((n13 : Int) == n2) (
   J2 (decide ((n1 : Int) ≤ most_)) h8) (
   J2 false h8)) (
   J2 false h8))) (
   ∃ n14 : Int, ∃ n15 : Int, ∃ x11 : Sl, ∃ x12 : Sl, CellsAt h6 b1 0 [.int .u64 n14, .int .u64 n15, .slice x11.a x11.l x11.c, .slice x12.a x12.l x12.c] ∧
   CanSt h6 b2 0 [.int .u64 n14, .int .u64 n15, .slice x11.a x11.l x11.c, .slice x12.a x12.l x12.c] ∧ ∀ h13, Stored h6 b2 0 [.int .u64 n14, .int .u64 n15, .slice x11.a x11.l x11.c, .slice x12.a x12.l x12.c] h13 →
   ∃ n16 : Int, ∃ n17 : Int, ∃ x13 : Sl, ∃ x14 : Sl, CellsAt h13 b2 0 [.int .u64 n16, .int .u64 n17, .slice x13.a x13.l x13.c, .slice x14.a x14.l x14.c] ∧
   R (.tuple #[.agg #[.int .u64 n16, .int .u64 n17, .slice x13.a x13.l x13.c, .slice x14.a x14.l x14.c], .bool false]) h13)))) ∧
   ∃ n18 : Int, cellH h3 b1 0 = some (.int .u64 n18) ∧
   CondP ((n1 : Int) == n18) (
   ∃ n19 : Int, cellH h3 b1 1 = some (.int .u64 n19) ∧
   J1 ((n2 : Int) == n19) h3) (
   J1 false h3))) :
  CallsH Tryz.prog 17 #[.agg #[.int .u64 s_0, .int .u64 s_1, .slice s_2.a s_2.l s_2.c, .slice s_3.a s_3.l s_3.c], .pointer (some ⟨j_b, j_o, none⟩), .int .u64 most_] h R :=
  calls_of_vc tabOk mixed Tryz.func17 (c := c17) (by kernel_rfl) (n := 66) rfl (rs := [.cell 6 38, .tmp 7]) (by kernel_rfl) ok17 (args := [.agg #[.int .u64 s_0, .int .u64 s_1, .slice s_2.a s_2.l s_2.c, .slice s_3.a s_3.l s_3.c], .pointer (some ⟨j_b, j_o, none⟩), .int .u64 most_]) (Nat.le_of_ble_eq_true rfl) (Eq.mpr (by kernel_rfl) hv)
end Go.Sx.Tryz
namespace Go.Sx.Tryz
open Go Go.Sx Go.Proofs
set_option linter.unusedVariables false
set_option maxRecDepth 20000
section
variable {H H' : Heap} {S : PH} {R : List Asn}
def stV (s : PL) (x : Sl) : List Value := [.int .u64 (s.fi : Int), .int .u64 (s.ft : Int), .slice none 0 0, .slice x.a x.l x.c]
def zsV : List Value := [.int .u64 0, .int .u64 0, .slice none 0 0, .slice none 0 0]
theorem slast_spec {s : PL} {x : Sl} (hs : Sat H S R) (hx : EL S x s.es) (hlen : s.es.length < 100000000)
    {K : Value → Heap → Prop} (hK : ∀ (y : Sl) H', Sat H' S R → K (.agg #[.int .u64 (s.last.1 : Int), .int .u64 (s.last.2 : Int), .slice y.a y.l y.c]) H') : CallsH Tryz.prog 18 #[.agg (stV s x).toArray] H K := by
  refine vc18 (s.fi : Int) (s.ft : Int) ⟨none, 0, 0⟩ x H K ?_
  intro b1 h1 f1 b2 h2 f2
  have hs1 : Sat h1 S (lst b1 38 (stV s x) :: R) := hs.fresh f1
  have hs2 : Sat h2 S (lst b2 35 [.int .u64 0, .int .u64 0, .slice none 0 0] :: lst b1 38 (stV s x) :: R) := hs1.fresh f2
  refine ⟨_, _, ⟨none, 0, 0⟩, hs2.swap.cells 0 rfl, x, hs2.swap.cell 3 rfl, ?_⟩
  refine rlast_spec (g := s) (n := 0) hs2 hx hlen fun y h3 hs3 => ⟨_, _, y, rfl, ?_⟩
  refine hs3.store (by simp) fun h4 hs4 => ?_
  have hs4 : Sat h4 S (lst b2 35 [.int .u64 (s.last.1 : Int), .int .u64 (s.last.2 : Int), .slice y.a y.l y.c] :: lst b1 38 (stV s x) :: R) := hs4
  exact ⟨_, _, y, hs4.cells 0 rfl, hK y h4 hs4.drop.drop⟩
structure Op1 where
  kind : Int
  many : Int
  odd : Int
  n : Nat
  t : Nat
  b : List UInt8
def opV (o : Op1) (x : Sl) : List Value := [.int .i64 o.kind, .int .i64 o.many, .int .i64 o.odd, .int .u64 (o.n : Int), .int .u64 (o.t : Int), .slice x.a x.l x.c]
def PL.fromN (s : PL) (n : Nat) : Nat := s.last.1 + 1 - min (n % 20) (s.last.1 + 1)
theorem from_spec {s : PL} {x z : Sl} {o : Op1} (hs : Sat H S R) (hx : EL S x s.es) (hlen : s.es.length < 100000000) (hb : s.last.1 < 9223372036854775808)
    {K : Value → Heap → Prop} (hK : ∀ H', Sat H' S R → K (.int .u64 (s.fromN o.n : Int)) H') : CallsH Tryz.prog 44 #[.agg (stV s x).toArray, .agg (opV o z).toArray] H K := by
  refine vc44 (s.fi : Int) (s.ft : Int) ⟨none, 0, 0⟩ x o.kind o.many o.odd (o.n : Int) (o.t : Int) z H K ?_
  intro b1 h1 f1 b2 h2 f2
  have hs1 : Sat h1 S (lst b1 38 (stV s x) :: R) := hs.fresh f1
  have hs2 : Sat h2 S (lst b2 40 (opV o z) :: lst b1 38 (stV s x) :: R) := hs1.fresh f2
  refine ⟨_, _, ⟨none, 0, 0⟩, x, hs2.swap.cells 0 rfl, _, hs2.cell 3 rfl, by decide, _, _, ⟨none, 0, 0⟩, x, hs2.swap.cells 0 rfl, ?_⟩
  refine slast_spec hs2 hx hlen fun y h3 hs3 => ⟨_, _, y, rfl, hs3.swap.cells 0 rfl, hs3.cell 3 rfl, ?_⟩
  refine slast_spec hs3 hx hlen fun y2 h4 hs4 => ⟨_, _, y2, rfl, hs4.cell 3 rfl, ?_⟩
  have e1 : IntKind.u64.wrap ((s.last.1 : Int) + 1) = ((s.last.1 + 1 : Nat) : Int) := u64_add (j := 1) (by omega)
  have e2 : Int.tmod (o.n : Int) 20 = ((o.n % 20 : Nat) : Int) := tmod_nat _ 20
  have e3 : (if ((s.last.1 + 1 : Nat) : Int) < ((o.n % 20 : Nat) : Int) then ((s.last.1 + 1 : Nat) : Int) else ((o.n % 20 : Nat) : Int)) = ((min (o.n % 20) (s.last.1 + 1) : Nat) : Int) := by split <;> omega
  rw [e1, e2, e3, u64_sub (by omega) (by omega)]
  exact hK h4 hs4.drop.drop
theorem upto_spec {s : PL} {x : Sl} {fr : Nat} (hs : Sat H S R) (hx : EL S x s.es) (hlen : s.es.length < 1000000) (h1 : s.fi < fr) (h2 : fr - 1 - s.fi ≤ s.es.length) (h3 : fr < 9223372036854775808)
    {K : Value → Heap → Prop} (hK : ∀ (y : Sl) H' S', PH.le S S' → EL S' y (s.es.take (fr - 1 - s.fi)) → Sat H' S' R → K (.agg (stV ⟨s.fi, s.ft, s.es.take (fr - 1 - s.fi)⟩ y).toArray) H') : CallsH Tryz.prog 45 #[.agg (stV s x).toArray, .int .u64 (fr : Int)] H K := by
  refine vc45 (s.fi : Int) (s.ft : Int) ⟨none, 0, 0⟩ x (fr : Int) H K ?_
  intro b1 g1 f1 b2 g2 f2 b3 g3 f3
  have hs1 : Sat g1 S (lst b1 38 (stV s x) :: R) := hs.fresh f1
  have hs2 : Sat g2 S (lst b2 38 zsV :: lst b1 38 (stV s x) :: R) := hs1.fresh f2
  have hs3 := newL hs2 f3
  have e1 : IntKind.u64.wrap (IntKind.u64.wrap ((fr : Int) - 1) - (s.fi : Int)) = ((fr - 1 - s.fi : Nat) : Int) := by
    rw [u64_in (n := (fr : Int) - 1) (by omega) (by omega), u64_in (by omega) (by omega)]; omega
  obtain ⟨hyl, hyc⟩ := EL.len hx
  have hb1 := hs3.pick 2 rfl
  refine ⟨x, hb1.cell 3 rfl, _, hb1.cell 0 rfl, ?_⟩
  rw [e1]
  simp only [Int.toNat_natCast]
  refine ⟨⟨by omega, by omega, by omega⟩, ?_⟩
  refine appL el36 hs3 (hx.take (k := fr - 1 - s.fi) h2) (by rw [List.length_take]; simp; omega) fun v' g4 ys hy1 hy2 hs4 => ?_
  obtain ⟨S1, q1, q2, q3⟩ := sealL (us := ys) hs4 hy2
  rw [hy1] at q2
  refine (q3.pick 1 rfl).store (by simp [stV]) fun g5 hs5 => ?_
  have hs5 : Sat g5 S1 (lst b1 38 (stV ⟨s.fi, s.ft, s.es.take (fr - 1 - s.fi)⟩ v') :: lst b2 38 zsV :: R) := hs5
  refine ⟨_, _, ⟨none, 0, 0⟩, v', hs5.cells 0 rfl, ?_⟩
  refine hs5.swap.store (by simp [zsV]) fun g6 hs6 => ?_
  have hs6 : Sat g6 S1 (lst b2 38 (stV ⟨s.fi, s.ft, s.es.take (fr - 1 - s.fi)⟩ v') :: lst b1 38 (stV ⟨s.fi, s.ft, s.es.take (fr - 1 - s.fi)⟩ v') :: R) := hs6
  exact ⟨_, _, ⟨none, 0, 0⟩, v', hs6.cells 0 rfl, hK v' g6 S1 q1 q2 hs6.drop.drop⟩
theorem plain_spec {x : Sl} {l : List Ent} (hs : Sat H S R) (hx : EL S x l) (hlen : l.length < 1000000)
    {K : Value → Heap → Prop} (hK : ∀ (y : Sl) H' S', PH.le S S' → EL S' y l → Sat H' S' R → K (.slice y.a y.l y.c) H') : CallsH Tryz.prog 31 #[.slice x.a x.l x.c] H K := by
  apply vc31
  obtain ⟨hl, hc⟩ := EL.len hx
  refine ⟨fun v n h => ∃ (i : Nat) (us : List EB), n = i ∧ i ≤ l.length ∧ us.map (·.1) = l.take i ∧ (∀ q ∈ us, RdB S q.2 q.1.b) ∧ Sat h S (own 35 3 v (entV us) :: R), fun _ n _ => l.length - n.toNat, ⟨0, [], rfl, Nat.zero_le _, rfl, (fun q hq => by cases hq), own.new 35 3 hs⟩, ?_⟩
  rintro v n h1 ⟨i, us, rfl, hi, hus, hub, hs1⟩ _
  refine CondP.of (fun hc => ?_) (fun hc => ?_)
  · have hc : i < l.length := by simp at hc; omega
    obtain ⟨g, o, z, ga, gc, gz⟩ := hx.at hs1 hc
    refine ⟨⟨by omega, by omega⟩, NilP.of ga ⟨_, _, z, gc, ?_⟩⟩
    intro b2 h2 f2
    have hs2 := hs1.fresh f2
    refine Sat.store (T := 85) (l := [.int .u64 0, .int .u64 0, .slice none 0 0]) hs2 (Nat.le_refl _) fun h3 hs3 => ?_
    have hs3 : Sat h3 S (lst b2 85 (eV (l[i], z)) :: own 35 3 v (entV us) :: R) := hs3
    refine ⟨_, _, z, hs3.cells 0 rfl, ?_⟩
    intro b3 h4 f4
    have hs4 : Sat h4 S (lst b3 35 (eV (l[i], z)) :: lst b2 85 (eV (l[i], z)) :: own 35 3 v (entV us) :: R) := hs3.fresh f4
    have hul : us.length = i := by have := congrArg List.length hus; simp at this; omega
    refine onesL (us := us) el36 (hs4.sel [0, 1]) (by omega) fun v' h5 hs5 => ?_
    rw [i64_succ (by omega)]
    refine ⟨⟨i + 1, us ++ [(l[i], z)], rfl, hc, ?_, fun q hq => ?_, hs5.del 1⟩, by simp only [Int.toNat_natCast]; omega⟩
    · rw [List.map_append, hus, List.take_succ_eq_append_getElem hc]; rfl
    · rcases List.mem_append.1 hq with h | h
      · exact hub q h
      · simp only [List.mem_singleton] at h
        subst h; exact gz
  · have hc : i = l.length := by simp at hc; omega
    subst hc
    rw [List.take_length] at hus
    obtain ⟨S1, q1, q2, q3⟩ := sealL (us := us) hs1 hub
    rw [hus] at q2
    exact hK v h1 S1 q1 q2 q3
theorem toList_mk (l : List UInt8) : (ByteArray.mk l.toArray).toList = l := by
  rw [ByteArray.toList_eq]
theorem same_spec {x y : Sl} {l m : List Ent} (hs : Sat H S R) (hx : EL S x l) (hy : EL S y m) (hlen : l.length < 1000000) (hlm : m.length < 1000000)
    {K : Value → Heap → Prop} (hK : ∀ b, (b = true ↔ l = m) → K (.bool b) H) : CallsH Tryz.prog 30 #[.slice x.a x.l x.c, .slice y.a y.l y.c] H K := by
  apply vc30
  obtain ⟨hl, hc⟩ := EL.len hx
  obtain ⟨hl2, hc2⟩ := EL.len hy
  refine CondP.of (fun hne => ?_) (fun heq => ?_)
  · refine hK false ⟨fun h => (by cases h), fun h => ?_⟩
    subst h
    rw [hl, hl2] at hne; simp at hne
  have hlen2 : l.length = m.length := by
    have : (x.l : Int) = (y.l : Int) := by simpa using heq
    omega
  refine ⟨fun n h => ∃ i : Nat, n = i ∧ i ≤ l.length ∧ l.take i = m.take i ∧ h = H, fun n _ => l.length - n.toNat, ⟨0, rfl, Nat.zero_le _, rfl, rfl⟩, ?_⟩
  rintro n h1 ⟨i, rfl, hi, hti, rfl⟩ _
  refine CondP.of (fun hc => ?_) (fun hc => ?_)
  · have hil : i < l.length := by simp at hc; omega
    have him : i < m.length := by omega
    obtain ⟨g, o, z, ga, gc, gz⟩ := hx.at hs hil
    obtain ⟨g2, o2, z2, ga2, gc2, gz2⟩ := hy.at hs him
    have no : l[i] ≠ m[i] → K (.bool false) h1 := fun hne => hK false ⟨fun h => (by cases h), fun h => absurd (by subst h; rfl) hne⟩
    simp only [Int.toNat_natCast]
    refine ⟨⟨by omega, by omega⟩, NilP.of ga ⟨_, gc.get 0 _ rfl, ⟨by omega, by omega⟩, NilP.of ga2 ⟨_, gc2.get 0 _ rfl, CondP.of (fun hne => no ?_) (fun he1 => ?_)⟩⟩⟩
    · intro h; rw [h] at hne; simp at hne
    refine ⟨⟨by omega, by omega⟩, NilP.of ga ⟨_, gc.get 1 _ rfl, ⟨by omega, by omega⟩, NilP.of ga2 ⟨_, gc2.get 1 _ rfl, CondP.of (fun hne => no ?_) (fun he2 => ?_)⟩⟩⟩
    · intro h; rw [h] at hne; simp at hne
    refine ⟨⟨by omega, by omega⟩, NilP.of ga ⟨z, gc.get 2 _ rfl, ⟨(l[i]).b.toArray⟩, StrOf.ofRd gz hs, ⟨by omega, by omega⟩, NilP.of ga2 ⟨z2, gc2.get 2 _ rfl, ⟨(m[i]).b.toArray⟩, StrOf.ofRd gz2 hs, ?_⟩⟩⟩
    rw [toList_mk, toList_mk]
    refine CondP.of (fun hne => no ?_) (fun he3 => ?_)
    · intro h; rw [h] at hne; simp at hne
    have q1 : (l[i]).i = (m[i]).i := by
      have : ((l[i]).i : Int) = ((m[i]).i : Int) := by simpa using he1
      omega
    have q2 : (l[i]).t = (m[i]).t := by
      have : ((l[i]).t : Int) = ((m[i]).t : Int) := by simpa using he2
      omega
    have q3 : (l[i]).b = (m[i]).b := by simpa using he3
    rw [i64_succ (by omega)]
    refine ⟨⟨i + 1, rfl, hil, ?_, trivial⟩, by omega⟩
    rw [List.take_succ_eq_append_getElem hil, List.take_succ_eq_append_getElem him, hti]
    congr 2
    cases hli : l[i]
    cases hmi : m[i]
    rw [hli, hmi] at q1 q2 q3
    simp only at q1 q2 q3
    rw [q1, q2, q3]
  · have hil : i = l.length := by simp at hc; omega
    subst hil
    rw [List.take_length, hlen2, List.take_length] at hti
    exact hK true ⟨fun _ => hti, fun _ => rfl⟩
theorem entry_spec {i t : Nat} (hs : Sat H S R) {K : Value → Heap → Prop} (hK : ∀ (y : Sl) H' S', PH.le S S' → RdB S' y [120] → Sat H' S' R → K (.agg (eV (⟨i, t, [120]⟩, y)).toArray) H') : CallsH Tryz.prog 34 #[.int .u64 (i : Int), .int .u64 (t : Int)] H K := by
  apply vc34
  intro b1 h1 f1 b2 h2 f2
  have hs1 : Sat h1 S (lst b1 85 [.int .u64 0, .int .u64 0, .slice none 0 0] :: R) := hs.fresh f1
  have hs2 : Sat h2 S (lst b2 5 (bv [120]) :: lst b1 85 [.int .u64 0, .int .u64 0, .slice none 0 0] :: R) := hs1.fresh f2
  intro w hw
  have hb := Sat.blk hs2
  rw [← hw] at hb
  have hsh : w.shape? b2 = some (5, 1) := by simp only [World.shape?, hb]; rfl
  have hf1 : (w.freeze ⟨b2, 1, none⟩ 1).heap = w.heap.modify b2 (fun | .cells c elem (lo, hi) => .cells c elem (if lo == hi then (1, 1 + 1) else (min lo 1, max hi (1 + 1))) | o => o) := rfl
  refine ⟨⟨some ⟨b2, 0, none⟩, 1, 1⟩, w.freeze ⟨b2, 1, none⟩ 1, ?_, ⟨rfl, rfl, rfl⟩, ?_⟩
  · simp [convert, K1.mk, run_underlying Tryz.underlying33, run_underlying Tryz.underlying5, markStringish, hsh]
  · have hs3 : Sat (w.freeze ⟨b2, 1, none⟩ 1).heap S (blk b2 (.cells (bv [120]).toArray 5 (1, 2)) :: lst b1 85 [.int .u64 0, .int .u64 0, .slice none 0 0] :: R) := by
      refine Sat.turn (H := h2) hs2 ?_ fun c hc => ?_
      · rw [hf1, Array.getElem?_modify, if_pos rfl, hb]; rfl
      · rw [hf1, Array.getElem?_modify, if_neg (Ne.symm hc), hw]
    obtain ⟨S1, q1, q2, q3⟩ := hs3.fixd
    have hrd : RdB S1 ⟨some ⟨b2, 0, none⟩, 1, 1⟩ [120] := ⟨rfl, Nat.le_refl _, .inr ⟨b2, 0, _, _, _, rfl, q2, fun j x hx => by simpa using hx⟩⟩
    refine q3.store (by simp) fun h4 hs4 => ?_
    have hs4 : Sat h4 S1 (lst b1 85 (eV (⟨i, t, [120]⟩, ⟨some ⟨b2, 0, none⟩, 1, 1⟩)) :: R) := hs4
    exact ⟨_, _, ⟨some ⟨b2, 0, none⟩, 1, 1⟩, hs4.cells 0 rfl, hK _ h4 S1 q1 hrd hs4.drop⟩
theorem files_spec {d first many : Nat} {D : Dk} (hs : Sat H S (dsk d D :: R)) (hm2 : first + many ≤ 32)
    {K : Value → Heap → Prop} (hK : ∀ (fv : Sl) (vs : List Sl) H' S', PH.le S S' → vs.length = many → Rd S' fv 1 (fV vs) → (∀ i (h : i < vs.length), RdB S' vs[i] (D.f (first + i)).b) → Sat H' S' (dsk d D :: R) → K (.slice fv.a fv.l fv.c) H') :
    CallsH Tryz.prog 52 #[.pointer (some ⟨d, 0, none⟩), .int .i64 (first : Int), .int .i64 (many : Int)] H K := by
  apply vc52
  refine ⟨fun x n h => ∃ k : Nat, n = k ∧ k ≤ many ∧ ∃ (S' : PH) (vs : List Sl), PH.le S S' ∧ vs.length = k ∧ (∀ i (h : i < vs.length), RdB S' vs[i] (D.f (first + i)).b) ∧ Sat h S' (own 33 1 x (fV vs) :: dsk d D :: R), fun _ n _ => many - n.toNat, ⟨0, rfl, Nat.zero_le _, S, [], PH.le.refl _, rfl, (fun i h => by simp at h), own.new 33 1 hs⟩, ?_⟩
  rintro x n h5 ⟨k, rfl, hk, S1, vs, hS1, hvl, hvs, hs5⟩ _
  have hxl := (own.len hs5).1
  simp only [fV, List.length_map, Nat.mul_one] at hxl
  refine CondP.of (fun hc => ?_) (fun hc => ?_)
  · have hc : k < many := by simp at hc; omega
    rw [i64_add (by omega)]
    refine read_spec (i := first + k) (by omega) hs5.swap fun x2 h6 S2 hS2 hx2 hs6 => ⟨x2, rfl, ?_⟩
    intro b3 h7 f7
    have hs7 : Sat h7 S2 (lst b3 33 (fV [x2]) :: dsk d D :: own 33 1 x (fV vs) :: R) := hs6.fresh f7
    refine append_one el98 (v := x) (xs := fV vs) (hs7.sel [0, 1]) rfl (fV_one _) (by omega) (by unfold maxLen; omega) fun v' h8 hv' hs8 => ?_
    rw [i64_succ (by omega)]
    refine ⟨⟨k + 1, rfl, hc, S2, vs ++ [x2], hS1.trans hS2, by simp [hvl], fun i h => ?_, ?_⟩, by simp only [Int.toNat_natCast]; omega⟩
    · rcases Nat.lt_or_ge i vs.length with h1 | h1
      · rw [List.getElem_append_left h1]; exact (hvs i h1).mono hS2
      · have : i = vs.length := by simp at h; omega
        subst this
        rw [List.getElem_append_right (Nat.le_refl _)]
        simp only [Nat.sub_self, List.getElem_cons_zero]
        rw [hvl]; exact hx2
    · have e : fV vs ++ fV [x2] = fV (vs ++ [x2]) := by simp [fV]
      rw [e] at hs8
      exact hs8
  · have hc : k = many := by simp at hc; omega
    subst hc
    obtain ⟨S2, q1, q2, hs6⟩ := own.fixd hs5
    exact hK x vs h5 S2 (hS1.trans q1) hvl q2 (fun i h => (hvs i h).mono q1) hs6
def PL.raised (s : PL) (fi ft most : Nat) : PL × Bool :=
  if fi = s.fi ∧ ft = s.ft then (s, true) else
  match s.es.findIdx? (fun e => e.i == fi && (e.t == ft && decide (fi ≤ most))) with
  | some k => (⟨fi, ft, s.es.drop (k + 1)⟩, true)
  | none => (s, false)
theorem raised_spec {s : PL} {x : Sl} {jb most : Nat} {J : Jn} (hs : Sat H S (jA jb J :: R)) (hx : EL S x s.es) (hlen : s.es.length < 1000000)
    {K : Value → Heap → Prop} (hK : ∀ (y : Sl) H' S', PH.le S S' → EL S' y (s.raised J.log.fi J.log.ft most).1.es → Sat H' S' (jA jb J :: R) → K (.tuple #[.agg (stV (s.raised J.log.fi J.log.ft most).1 y).toArray, .bool (s.raised J.log.fi J.log.ft most).2]) H') :
    CallsH Tryz.prog 17 #[.agg (stV s x).toArray, .pointer (some ⟨jb, 0, none⟩), .int .u64 (most : Int)] H K := by
  refine vc17 (s.fi : Int) (s.ft : Int) ⟨none, 0, 0⟩ x jb 0 (most : Int) H K ?_
  intro b1 h1 f1 b2 h2 f2
  have hs1 : Sat h1 S (lst b1 38 (stV s x) :: jA jb J :: R) := hs.fresh f1
  have hs2 : Sat h2 S (lst b2 38 zsV :: lst b1 38 (stV s x) :: jA jb J :: R) := hs1.fresh f2
  obtain ⟨hl, hlc⟩ := EL.len hx
  generalize hfi : J.log.fi = fi at *
  generalize hft : J.log.ft = ft at *
  refine floor_spec (hs2.pick 2 rfl) ⟨_, _, rfl, ?_⟩
  rw [hfi, hft]
  have same : ∀ (bb : Bool), s.raised fi ft most = (s, bb) → ∃ n3 : Int, ∃ n4 : Int, ∃ x1 : Sl, ∃ x2 : Sl, CellsAt h2 b1 0 [.int .u64 n3, .int .u64 n4, .slice x1.a x1.l x1.c, .slice x2.a x2.l x2.c] ∧
      CanSt h2 b2 0 [.int .u64 n3, .int .u64 n4, .slice x1.a x1.l x1.c, .slice x2.a x2.l x2.c] ∧ ∀ h5, Stored h2 b2 0 [.int .u64 n3, .int .u64 n4, .slice x1.a x1.l x1.c, .slice x2.a x2.l x2.c] h5 →
      ∃ n5 : Int, ∃ n6 : Int, ∃ x3 : Sl, ∃ x4 : Sl, CellsAt h5 b2 0 [.int .u64 n5, .int .u64 n6, .slice x3.a x3.l x3.c, .slice x4.a x4.l x4.c] ∧
      K (.tuple #[.agg #[.int .u64 n5, .int .u64 n6, .slice x3.a x3.l x3.c, .slice x4.a x4.l x4.c], .bool bb]) h5 := by
    intro bb hr
    refine ⟨_, _, ⟨none, 0, 0⟩, x, hs2.swap.cells 0 rfl, ?_⟩
    refine hs2.store (by simp [zsV]) fun h5 hs3 => ?_
    have hs3 : Sat h5 S (lst b2 38 (stV s x) :: lst b1 38 (stV s x) :: jA jb J :: R) := hs3
    refine ⟨_, _, ⟨none, 0, 0⟩, x, hs3.cells 0 rfl, ?_⟩
    have := hK x h5 S (PH.le.refl _) (by rw [hr]; exact hx) hs3.drop.drop
    rw [hr] at this; exact this
  refine ⟨fun t h => h = h2 ∧ t = decide (fi = s.fi ∧ ft = s.ft), ?_, ?_⟩
  · rintro t h4 ⟨rfl, rfl⟩ _
    refine CondP.of (fun hc => ?_) (fun hc => ?_)
    · have hc := of_decide_eq_true hc
      exact same true (by rw [PL.raised, if_pos hc])
    have hc := of_decide_eq_false hc
    have hr : s.raised fi ft most = (match s.es.findIdx? (fun e => e.i == fi && (e.t == ft && decide (fi ≤ most))) with
      | some k => (⟨fi, ft, s.es.drop (k + 1)⟩, true)
      | none => (s, false)) := by rw [PL.raised, if_neg hc]
    refine ⟨x, hs2.swap.cell 3 rfl, fun n h => ∃ i : Nat, n = i ∧ i ≤ s.es.length ∧ (∀ j (hj : j < s.es.length), j < i → (fun e : Ent => e.i == fi && (e.t == ft && decide (fi ≤ most))) s.es[j] = false) ∧ Sat h S (lst b2 38 zsV :: lst b1 38 (stV s x) :: jA jb J :: R), fun n _ => s.es.length - n.toNat, ⟨0, rfl, Nat.zero_le _, (fun j _ h => by omega), hs2⟩, ?_⟩
    rintro n h6 ⟨i, rfl, hi, hpre, hs3⟩ _
    refine CondP.of (fun hc2 => ?_) (fun hc2 => ?_)
    · have hil : i < s.es.length := by simp at hc2; omega
      obtain ⟨g, o, z, ga, gc, gz⟩ := hx.at hs3 hil
      refine ⟨⟨by omega, by omega⟩, NilP.of ga ⟨_, _, z, gc, ?_⟩⟩
      intro b4 h7 f7
      have hs4 := hs3.fresh f7
      refine Sat.store (T := 35) (l := [.int .u64 0, .int .u64 0, .slice none 0 0]) hs4 (Nat.le_refl _) fun h8 hs5 => ?_
      have hs5 : Sat h8 S (lst b4 35 (eV (s.es[i], z)) :: lst b2 38 zsV :: lst b1 38 (stV s x) :: jA jb J :: R) := hs5
      rw [i64_succ (by omega)]
      simp only [Int.toNat_natCast]
      refine ⟨fun t h => h = h8 ∧ t = ((s.es[i]).i == fi && ((s.es[i]).t == ft && decide (fi ≤ most))), ?_, ?_⟩
      · rintro t h9 ⟨rfl, rfl⟩ _
        refine CondP.of (fun hp => ?_) (fun hp => ?_)
        · have hfd : s.es.findIdx? (fun e => e.i == fi && (e.t == ft && decide (fi ≤ most))) = some i := by
            rw [List.findIdx?_eq_some_iff_getElem]
            exact ⟨hil, hp, fun j hj => by have := hpre j (by omega) hj; simpa using this⟩
          rw [hfd] at hr
          have hr : s.raised fi ft most = (⟨fi, ft, s.es.drop (i + 1)⟩, true) := hr
          intro b5 h10 f10
          have hs6 := newL hs5 f10
          refine ⟨x, (hs6.pick 3 rfl).cell 3 rfl, ⟨by omega, by omega⟩, ?_⟩
          refine appL el36 hs6 (hx.drop (k := i + 1) hil) (by rw [List.length_drop]; simp; omega) fun v' h11 ys hy1 hy2 hs7 => ?_
          obtain ⟨S1, q1, q2, q3⟩ := sealL (us := ys) hs7 hy2
          rw [hy1] at q2
          refine (q3.pick 1 rfl).store (by simp [zsV]) fun h12 hs8 => ?_
          have hs8 : Sat h12 S1 (lst b2 38 (stV ⟨fi, ft, s.es.drop (i + 1)⟩ v') :: lst b4 35 (eV (s.es[i], z)) :: lst b1 38 (stV s x) :: jA jb J :: R) := hs8
          refine ⟨_, _, ⟨none, 0, 0⟩, v', hs8.cells 0 rfl, ?_⟩
          have := hK v' h12 S1 q1 (by rw [hr]; exact q2) hs8.drop.drop.drop
          rw [hr] at this; exact this
        · refine ⟨⟨i + 1, rfl, hil, fun j hj hji => ?_, hs5.drop⟩, by omega⟩
          rcases Nat.lt_or_ge j i with h | h
          · exact hpre j hj h
          · have : j = i := by omega
            subst this; exact hp
      · refine ⟨_, hs5.cell 0 rfl, ?_⟩
        have e1 : (((s.es[i]).i : Int) == (fi : Int)) = ((s.es[i]).i == fi) := beq_nat_int _ _
        have e2 : (((s.es[i]).t : Int) == (ft : Int)) = ((s.es[i]).t == ft) := beq_nat_int _ _
        rw [e1]
        refine CondP.of (fun h1 => ⟨_, hs5.cell 1 rfl, ?_⟩) (fun h1 => ⟨rfl, by rw [h1, Bool.false_and]⟩)
        rw [e2]
        refine CondP.of (fun h3 => ⟨rfl, ?_⟩) (fun h3 => ⟨rfl, by rw [h3, Bool.false_and, Bool.and_false]⟩)
        rw [h1, h3, Bool.true_and, Bool.true_and]
        exact decide_eq_decide.2 (by omega)
    · have hil : i = s.es.length := by simp at hc2; omega
      subst hil
      have hfd : s.es.findIdx? (fun e => e.i == fi && (e.t == ft && decide (fi ≤ most))) = none := by
        rw [List.findIdx?_eq_none_iff]
        intro e he
        obtain ⟨j, hj, rfl⟩ := List.getElem_of_mem he
        exact hpre j hj hj
      rw [hfd] at hr
      refine ⟨_, _, ⟨none, 0, 0⟩, x, hs3.swap.cells 0 rfl, ?_⟩
      refine hs3.store (by simp [zsV]) fun h5 hs4 => ?_
      have hs4 : Sat h5 S (lst b2 38 (stV s x) :: lst b1 38 (stV s x) :: jA jb J :: R) := hs4
      refine ⟨_, _, ⟨none, 0, 0⟩, x, hs4.cells 0 rfl, ?_⟩
      have := hK x h5 S (PH.le.refl _) (by rw [hr]; exact hx) hs4.drop.drop
      rw [hr] at this; exact this
  · refine ⟨_, hs2.swap.cell 0 rfl, ?_⟩
    rw [beq_nat_int]
    refine CondP.of (fun hc => ⟨_, hs2.swap.cell 1 rfl, ?_⟩) (fun hc => ?_)
    · rw [beq_nat_int]
      have hc : fi = s.fi := by simpa using hc
      exact ⟨rfl, by simp [hc, Bool.beq_eq_decide_eq]⟩
    · have hc : ¬ fi = s.fi := by simpa using hc
      exact ⟨rfl, by simp [hc]⟩
end
end Go.Sx.Tryz
namespace Go.Sx.Tryz
open Go Go.Sx Go.Proofs
set_option maxRecDepth 100000
set_option linter.unusedVariables false
noncomputable def c48 : Code := (Tryz.f48.body).getD .skip
def a48 : Ann := (.seq .leaf (.seq .leaf (.seq .leaf (.seq (.seq .leaf (.inn (.loop [(6, .one (.sl)), (20, .one (.i .i64))] (.seq .leaf (.seq (.br .leaf .leaf) (.seq (.inn (.seq .leaf (.seq .leaf (.join [] (.join [(41, .one (.b))] .leaf (.br .leaf .leaf)) (.seq (.join [(57, .one (.b))] .leaf (.br .leaf .leaf)) (.seq .leaf .leaf)))))) .leaf)))))) (.seq .leaf (.seq .leaf (.seq (.seq .leaf (.inn (.loop [(10, .one (.b)), (72, .one (.i .i64))] (.seq .leaf (.seq (.br .leaf .leaf) (.seq (.inn (.seq .leaf (.seq .leaf .leaf))) .leaf)))))) (.seq .leaf .leaf))))))))
theorem ok48 : okC tab 102 true c48 a48 = true := by kernel_rfl
theorem vc48 (s_0 : Int) (s_1 : Int) (s_2 : Sl) (s_3 : Sl) (o_0 : Int) (o_1 : Int) (o_2 : Int) (o_3 : Int) (o_4 : Int) (o_5 : Sl) (h : Heap) (R : Value → Heap → Prop)
  (hv : ∀ b1 h1, Fresh h (.cells #[.int .u64 s_0, .int .u64 s_1, .slice s_2.a s_2.l s_2.c, .slice s_3.a s_3.l s_3.c] 38) b1 h1 →
   ∀ b2 h2, Fresh h1 (.cells #[.int .i64 o_0, .int .i64 o_1, .int .i64 o_2, .int .u64 o_3, .int .u64 o_4, .slice o_5.a o_5.l o_5.c] 40) b2 h2 →
   ∃ n1 : Int, ∃ n2 : Int, ∃ x1 : Sl, ∃ x2 : Sl, CellsAt h2 b1 0 [.int .u64 n1, .int .u64 n2, .slice x1.a x1.l x1.c, .slice x2.a x2.l x2.c] ∧
   CallsH Tryz.prog 18 #[.agg #[.int .u64 n1, .int .u64 n2, .slice x1.a x1.l x1.c, .slice x2.a x2.l x2.c]] h2 (fun r1 h3 => ∃ n3 : Int, ∃ n4 : Int, ∃ x3 : Sl, r1 = .agg #[.int .u64 n3, .int .u64 n4, .slice x3.a x3.l x3.c] ∧
   ∀ b3 h4, Fresh h3 (.cells #[.int .u64 0, .int .u64 0, .slice none 0 0] 35) b3 h4 →
   CanSt h4 b3 0 [.int .u64 n3, .int .u64 n4, .slice x3.a x3.l x3.c] ∧ ∀ h5, Stored h4 b3 0 [.int .u64 n3, .int .u64 n4, .slice x3.a x3.l x3.c] h5 →
   ∃ n5 : Int, cellH h5 b2 1 = some (.int .i64 n5) ∧
   (5 : Int) ≠ 0 ∧
   ∃ (I1 : Sl → Int → Heap → Prop) (mu1 : Sl → Int → Heap → Nat), I1 ⟨none, 0, 0⟩ 0 h5 ∧ (∀ x4 : Sl, ∀ n6 : Int, ∀ h6, I1 x4 n6 h6 → ∀ _ : Env,
   CondP (decide ((n6 : Int) < (IntKind.i64.wrap (Int.tmod (IntKind.u64.wrap n5) 5)))) (
   ∃ n7 : Int, cellH h6 b3 0 = some (.int .u64 n7) ∧
   ∃ n8 : Int, cellH h6 b3 1 = some (.int .u64 n8) ∧
   ∃ n9 : Int, cellH h6 b2 4 = some (.int .u64 n9) ∧
   (2 : Int) ≠ 0 ∧
   ∃ x5 : Sl, cellH h6 b2 5 = some (.slice x5.a x5.l x5.c) ∧
   ∀ b4 h7, Fresh h6 (.cells #[.int .u64 0, .int .u64 0, .slice none 0 0] 85) b4 h7 →
   CanSt h7 b4 0 [.int .u64 (IntKind.u64.wrap (n7 + 1)), .int .u64 (IntKind.u64.wrap (n8 + (Int.tmod n9 2))), .slice x5.a x5.l x5.c] ∧ ∀ h8, Stored h7 b4 0 [.int .u64 (IntKind.u64.wrap (n7 + 1)), .int .u64 (IntKind.u64.wrap (n8 + (Int.tmod n9 2))), .slice x5.a x5.l x5.c] h8 →
   ∃ J1 : Heap → Prop, (∀ h9, J1  h9 → ∀ _ : Env,
   ∃ J2 : Bool → Heap → Prop, (∀ t1 : Bool, ∀ h10, J2 t1 h10 → ∀ _ : Env,
   CondP t1 (
   ∃ n10 : Int, cellH h10 b3 1 = some (.int .u64 n10) ∧
   CanSt h10 b4 1 [.int .u64 (IntKind.u64.wrap (n10 - 1))] ∧ ∀ h11, Stored h10 b4 1 [.int .u64 (IntKind.u64.wrap (n10 - 1))] h11 →
   ∃ n11 : Int, ∃ n12 : Int, ∃ x6 : Sl, CellsAt h11 b4 0 [.int .u64 n11, .int .u64 n12, .slice x6.a x6.l x6.c] ∧
   ∀ b5 h12, Fresh h11 (.cells #[.int .u64 n11, .int .u64 n12, .slice x6.a x6.l x6.c] 85) b5 h12 →
   RunK Tryz.prog (.sl) (Builtin.append_ #[81, 81] 81 #[.slice x4.a x4.l x4.c, .slice (some ⟨b5, 0, none⟩) 1 1]) h12 (fun x7 h13 =>
   ∃ n13 : Int, ∃ n14 : Int, ∃ x8 : Sl, CellsAt h13 b4 0 [.int .u64 n13, .int .u64 n14, .slice x8.a x8.l x8.c] ∧
   CanSt h13 b3 0 [.int .u64 n13, .int .u64 n14, .slice x8.a x8.l x8.c] ∧ ∀ h14, Stored h13 b3 0 [.int .u64 n13, .int .u64 n14, .slice x8.a x8.l x8.c] h14 →
   I1 x7 (IntKind.i64.wrap (n6 + 1)) h14 ∧ mu1 x7 (IntKind.i64.wrap (n6 + 1)) h14 < mu1 x4 n6 h6)) (
   ∃ n15 : Int, ∃ n16 : Int, ∃ x9 : Sl, CellsAt h10 b4 0 [.int .u64 n15, .int .u64 n16, .slice x9.a x9.l x9.c] ∧
   ∀ b6 h15, Fresh h10 (.cells #[.int .u64 n15, .int .u64 n16, .slice x9.a x9.l x9.c] 85) b6 h15 →
   RunK Tryz.prog (.sl) (Builtin.append_ #[81, 81] 81 #[.slice x4.a x4.l x4.c, .slice (some ⟨b6, 0, none⟩) 1 1]) h15 (fun x10 h16 =>
   ∃ n17 : Int, ∃ n18 : Int, ∃ x11 : Sl, CellsAt h16 b4 0 [.int .u64 n17, .int .u64 n18, .slice x11.a x11.l x11.c] ∧
   CanSt h16 b3 0 [.int .u64 n17, .int .u64 n18, .slice x11.a x11.l x11.c] ∧ ∀ h17, Stored h16 b3 0 [.int .u64 n17, .int .u64 n18, .slice x11.a x11.l x11.c] h17 →
   I1 x10 (IntKind.i64.wrap (n6 + 1)) h17 ∧ mu1 x10 (IntKind.i64.wrap (n6 + 1)) h17 < mu1 x4 n6 h6))) ∧
   CondP ((n6 : Int) == 0) (
   ∃ n19 : Int, cellH h9 b2 2 = some (.int .i64 n19) ∧
   CondP ((n19 : Int) == 2) (
   ∃ n20 : Int, cellH h9 b3 1 = some (.int .u64 n20) ∧
   J2 (decide ((n20 : Int) > 0)) h9) (
   J2 false h9)) (
   J2 false h9)) ∧
   ∃ J3 : Bool → Heap → Prop, (∀ t2 : Bool, ∀ h18, J3 t2 h18 → ∀ _ : Env,
   CondP t2 (
   ∃ n21 : Int, cellH h18 b4 0 = some (.int .u64 n21) ∧
   CanSt h18 b4 0 [.int .u64 (IntKind.u64.wrap (n21 + 1))] ∧ ∀ h19, Stored h18 b4 0 [.int .u64 (IntKind.u64.wrap (n21 + 1))] h19 →
   J1  h19) (
   J1  h18)) ∧
   CondP ((n6 : Int) == 0) (
   ∃ n22 : Int, cellH h8 b2 2 = some (.int .i64 n22) ∧
   J3 ((n22 : Int) == 1) h8) (
   J3 false h8)) (
   ∃ n23 : Int, ∃ n24 : Int, ∃ x12 : Sl, ∃ x13 : Sl, CellsAt h6 b1 0 [.int .u64 n23, .int .u64 n24, .slice x12.a x12.l x12.c, .slice x13.a x13.l x13.c] ∧
   CallsH Tryz.prog 18 #[.agg #[.int .u64 n23, .int .u64 n24, .slice x12.a x12.l x12.c, .slice x13.a x13.l x13.c]] h6 (fun r2 h20 => ∃ n25 : Int, ∃ n26 : Int, ∃ x14 : Sl, r2 = .agg #[.int .u64 n25, .int .u64 n26, .slice x14.a x14.l x14.c] ∧
   CanSt h20 b3 0 [.int .u64 n25, .int .u64 n26, .slice x14.a x14.l x14.c] ∧ ∀ h21, Stored h20 b3 0 [.int .u64 n25, .int .u64 n26, .slice x14.a x14.l x14.c] h21 →
   ∃ (I2 : Bool → Int → Heap → Prop) (mu2 : Bool → Int → Heap → Nat), I2 true 0 h21 ∧ (∀ t3 : Bool, ∀ n27 : Int, ∀ h22, I2 t3 n27 h22 → ∀ _ : Env,
   CondP (decide ((n27 : Int) < ((x4.l : Nat) : Int))) (
   ((0 : Int) ≤ n27 ∧ (n27 : Int) < ((x4.l : Nat) : Int)) ∧
   NilP x4.a (fun b7 o1 =>
   ∃ n28 : Int, ∃ n29 : Int, ∃ x15 : Sl, CellsAt h22 b7 (o1 + n27.toNat * 3) [.int .u64 n28, .int .u64 n29, .slice x15.a x15.l x15.c] ∧
   ∀ b8 h23, Fresh h22 (.cells #[.int .u64 0, .int .u64 0, .slice none 0 0] 85) b8 h23 →
   CanSt h23 b8 0 [.int .u64 n28, .int .u64 n29, .slice x15.a x15.l x15.c] ∧ ∀ h24, Stored h23 b8 0 [.int .u64 n28, .int .u64 n29, .slice x15.a x15.l x15.c] h24 →
   CondP t3 (
   ∃ n30 : Int, cellH h24 b8 0 = some (.int .u64 n30) ∧
   ∃ n31 : Int, cellH h24 b3 0 = some (.int .u64 n31) ∧
   CondP ((n30 : Int) == (IntKind.u64.wrap (n31 + 1))) (
   ∃ n32 : Int, cellH h24 b8 1 = some (.int .u64 n32) ∧
   ∃ n33 : Int, cellH h24 b3 1 = some (.int .u64 n33) ∧
   CondP (decide ((n32 : Int) ≥ n33)) (
   ∃ x16 : Sl, cellH h24 b8 2 = some (.slice x16.a x16.l x16.c) ∧
   ∃ n34 : Int, ∃ n35 : Int, ∃ x17 : Sl, CellsAt h24 b8 0 [.int .u64 n34, .int .u64 n35, .slice x17.a x17.l x17.c] ∧
   CanSt h24 b3 0 [.int .u64 n34, .int .u64 n35, .slice x17.a x17.l x17.c] ∧ ∀ h25, Stored h24 b3 0 [.int .u64 n34, .int .u64 n35, .slice x17.a x17.l x17.c] h25 →
   I2 (decide ((((x16.l : Nat) : Int) : Int) ≤ 512)) (IntKind.i64.wrap (n27 + 1)) h25 ∧ mu2 (decide ((((x16.l : Nat) : Int) : Int) ≤ 512)) (IntKind.i64.wrap (n27 + 1)) h25 < mu2 t3 n27 h22) (
   ∃ n36 : Int, ∃ n37 : Int, ∃ x18 : Sl, CellsAt h24 b8 0 [.int .u64 n36, .int .u64 n37, .slice x18.a x18.l x18.c] ∧
   CanSt h24 b3 0 [.int .u64 n36, .int .u64 n37, .slice x18.a x18.l x18.c] ∧ ∀ h26, Stored h24 b3 0 [.int .u64 n36, .int .u64 n37, .slice x18.a x18.l x18.c] h26 →
   I2 false (IntKind.i64.wrap (n27 + 1)) h26 ∧ mu2 false (IntKind.i64.wrap (n27 + 1)) h26 < mu2 t3 n27 h22)) (
   ∃ n38 : Int, ∃ n39 : Int, ∃ x19 : Sl, CellsAt h24 b8 0 [.int .u64 n38, .int .u64 n39, .slice x19.a x19.l x19.c] ∧
   CanSt h24 b3 0 [.int .u64 n38, .int .u64 n39, .slice x19.a x19.l x19.c] ∧ ∀ h27, Stored h24 b3 0 [.int .u64 n38, .int .u64 n39, .slice x19.a x19.l x19.c] h27 →
   I2 false (IntKind.i64.wrap (n27 + 1)) h27 ∧ mu2 false (IntKind.i64.wrap (n27 + 1)) h27 < mu2 t3 n27 h22)) (
   ∃ n40 : Int, ∃ n41 : Int, ∃ x20 : Sl, CellsAt h24 b8 0 [.int .u64 n40, .int .u64 n41, .slice x20.a x20.l x20.c] ∧
   CanSt h24 b3 0 [.int .u64 n40, .int .u64 n41, .slice x20.a x20.l x20.c] ∧ ∀ h28, Stored h24 b3 0 [.int .u64 n40, .int .u64 n41, .slice x20.a x20.l x20.c] h28 →
   I2 false (IntKind.i64.wrap (n27 + 1)) h28 ∧ mu2 false (IntKind.i64.wrap (n27 + 1)) h28 < mu2 t3 n27 h22))) (
   R (.tuple #[.slice x4.a x4.l x4.c, .bool t3]) h22))))))) :
  CallsH Tryz.prog 48 #[.agg #[.int .u64 s_0, .int .u64 s_1, .slice s_2.a s_2.l s_2.c, .slice s_3.a s_3.l s_3.c], .agg #[.int .i64 o_0, .int .i64 o_1, .int .i64 o_2, .int .u64 o_3, .int .u64 o_4, .slice o_5.a o_5.l o_5.c]] h R :=
  calls_of_vc tabOk mixed Tryz.func48 (c := c48) (by kernel_rfl) (n := 102) rfl (rs := [.tmp 4, .tmp 5]) (by kernel_rfl) ok48 (args := [.agg #[.int .u64 s_0, .int .u64 s_1, .slice s_2.a s_2.l s_2.c, .slice s_3.a s_3.l s_3.c], .agg #[.int .i64 o_0, .int .i64 o_1, .int .i64 o_2, .int .u64 o_3, .int .u64 o_4, .slice o_5.a o_5.l o_5.c]]) (Nat.le_of_ble_eq_true rfl) (Eq.mpr (by kernel_rfl) hv)
end Go.Sx.Tryz
namespace Go.Sx.Tryz
open Go Go.Sx Go.Proofs
set_option maxRecDepth 100000
set_option linter.unusedVariables false
noncomputable def c8 : Code := (Tryz.f8.body).getD .skip
def a8 : Ann := (.seq .leaf (.seq (.seq .leaf (.inn (.loop [(7, .one (.i .i64))] (.seq .leaf (.seq (.br .leaf .leaf) (.seq (.inn (.seq .leaf (.seq .leaf (.br (.seq .leaf .leaf) .leaf)))) .leaf)))))) (.seq .leaf .leaf)))
theorem ok8 : okC tab 19 true c8 a8 = true := by kernel_rfl
theorem vc8 (l_ : Sl) (h : Heap) (R : Value → Heap → Prop)
  (hv : ∃ (I1 : Int → Heap → Prop) (mu1 : Int → Heap → Nat), I1 0 h ∧ (∀ n1 : Int, ∀ h1, I1 n1 h1 → ∀ _ : Env,
   CondP (decide ((n1 : Int) < ((l_.l : Nat) : Int))) (
   ((0 : Int) ≤ n1 ∧ (n1 : Int) < ((l_.l : Nat) : Int)) ∧
   NilP l_.a (fun b1 o1 =>
   ∃ n2 : Int, ∃ n3 : Int, ∃ n4 : Int, ∃ n5 : Int, ∃ n6 : Int, ∃ x1 : Sl, CellsAt h1 b1 (o1 + n1.toNat * 6) [.int .i64 n2, .int .i64 n3, .int .i64 n4, .int .u64 n5, .int .u64 n6, .slice x1.a x1.l x1.c] ∧
   ∀ b2 h2, Fresh h1 (.cells #[.int .i64 0, .int .i64 0, .int .i64 0, .int .u64 0, .int .u64 0, .slice none 0 0] 40) b2 h2 →
   CanSt h2 b2 0 [.int .i64 n2, .int .i64 n3, .int .i64 n4, .int .u64 n5, .int .u64 n6, .slice x1.a x1.l x1.c] ∧ ∀ h3, Stored h2 b2 0 [.int .i64 n2, .int .i64 n3, .int .i64 n4, .int .u64 n5, .int .u64 n6, .slice x1.a x1.l x1.c] h3 →
   ∃ x2 : Sl, cellH h3 b2 5 = some (.slice x2.a x2.l x2.c) ∧
   CondP (decide ((((x2.l : Nat) : Int) : Int) > 600)) (
   R (.bool false) h3) (
   I1 (IntKind.i64.wrap (n1 + 1)) h3 ∧ mu1 (IntKind.i64.wrap (n1 + 1)) h3 < mu1 n1 h1))) (
   R (.bool (decide ((((l_.l : Nat) : Int) : Int) ≤ 60))) h1))) :
  CallsH Tryz.prog 8 #[.slice l_.a l_.l l_.c] h R :=
  calls_of_vc tabOk mixed Tryz.func8 (c := c8) (by kernel_rfl) (n := 19) rfl (rs := [.tmp 2]) (by kernel_rfl) ok8 (args := [.slice l_.a l_.l l_.c]) (Nat.le_of_ble_eq_true rfl) (Eq.mpr (by kernel_rfl) hv)
end Go.Sx.Tryz
namespace Go.Sx.Tryz
open Go Go.Sx Go.Proofs
set_option linter.unusedVariables false
set_option maxRecDepth 20000
section
variable {H H' : Heap} {S : PH} {R : List Asn}
def OL (S : PH) (v : Sl) (ops : List Op1) : Prop := ∃ xs : List (Op1 × Sl), xs.map (·.1) = ops ∧ Rd S v 6 (xs.flatMap fun x => opV x.1 x.2) ∧ ∀ x ∈ xs, RdB S x.2 x.1.b
theorem OL.mono {S S' : PH} {v : Sl} {l : List Op1} (h : OL S v l) (hs : PH.le S S') : OL S' v l := by
  obtain ⟨xs, h1, h2, h3⟩ := h
  exact ⟨xs, h1, h2.mono hs, fun x hx => (h3 x hx).mono hs⟩
theorem opV_len (x : Op1 × Sl) : (opV x.1 x.2).length = 6 := rfl
theorem OL.len {v : Sl} {l : List Op1} (h : OL S v l) : v.l = l.length := by
  obtain ⟨xs, h1, h2, h3⟩ := h
  have := h2.1
  rw [flat_len (f := fun x : Op1 × Sl => opV x.1 x.2) opV_len] at this
  rw [← h1, List.length_map]; omega
theorem OL.at {v : Sl} {l : List Op1} (h : OL S v l) {L : List Asn} (hs : Sat H S L) {k : Nat} (hk : k < l.length) : ∃ g o x, v.a = some ⟨g, o, none⟩ ∧ CellsAt H g (o + k * 6) (opV l[k] x) ∧ RdB S x l[k].b := by
  have hl := OL.len h
  obtain ⟨xs, h1, h2, h3⟩ := h
  subst h1
  have hk' : k < xs.length := by simpa using hk
  obtain ⟨g, o, ga, gc⟩ := Rd.at h2 hs (by omega)
  refine ⟨g, o, xs[k].2, ga, ?_, ?_⟩
  · have := cells_sub gc (k * 6) 6
    rw [flat_at (f := fun x : Op1 × Sl => opV x.1 x.2) opV_len hk'] at this
    simpa using this
  · simpa using h3 _ (List.getElem_mem hk')
theorem few_spec {v : Sl} {ops : List Op1} (hs : Sat H S R) (hv : OL S v ops) (hvl : v.l ≤ 9223372036854775807)
    {K : Value → Heap → Prop} (hK : ∀ b H', (b = true → ops.length ≤ 60 ∧ ∀ o ∈ ops, o.b.length ≤ 600) → Sat H' S R → K (.bool b) H') : CallsH Tryz.prog 8 #[.slice v.a v.l v.c] H K := by
  apply vc8
  have hl := OL.len hv
  refine ⟨fun n h => ∃ i : Nat, n = i ∧ i ≤ ops.length ∧ (∀ o ∈ ops.take i, o.b.length ≤ 600) ∧ Sat h S R, fun n _ => ops.length - n.toNat, ⟨0, rfl, Nat.zero_le _, (fun o h => by simp at h), hs⟩, ?_⟩
  rintro n h1 ⟨i, rfl, hi, hpre, hs1⟩ _
  refine CondP.of (fun hc => ?_) (fun hc => ?_)
  · have hc : i < ops.length := by simp at hc; omega
    obtain ⟨g, o, x, ga, gc, gx⟩ := hv.at hs1 hc
    refine ⟨⟨by omega, by omega⟩, NilP.of ga ⟨_, _, _, _, _, x, gc, ?_⟩⟩
    intro b2 h2 f2
    have hs2 := hs1.fresh f2
    refine Sat.store (T := 40) (l := [.int .i64 0, .int .i64 0, .int .i64 0, .int .u64 0, .int .u64 0, .slice none 0 0]) hs2 (Nat.le_refl _) fun h3 hs3 => ?_
    have hs3 : Sat h3 S (lst b2 40 (opV ops[i] x) :: R) := hs3
    have hxl := RdB.len gx
    refine ⟨x, hs3.cell 5 rfl, CondP.of (fun hc2 => hK false h3 (fun h => by cases h) hs3.drop) (fun hc2 => ?_)⟩
    rw [i64_succ (by omega)]
    refine ⟨⟨i + 1, rfl, hc, fun o ho => ?_, hs3.drop⟩, by simp only [Int.toNat_natCast]; omega⟩
    rw [List.take_succ_eq_append_getElem hc] at ho
    rcases List.mem_append.1 ho with h | h
    · exact hpre o h
    · simp only [List.mem_singleton] at h
      subst h
      have := of_decide_eq_false hc2
      omega
  · have hc : i = ops.length := by simp at hc; omega
    subst hc
    rw [List.take_length] at hpre
    refine hK _ h1 (fun h => ⟨?_, hpre⟩) hs1
    have := of_decide_eq_true h
    omega
def entOne (p : Nat × Nat) (o : Op1) (i : Nat) : Ent := ⟨p.1 + 1 + (if i = 0 ∧ o.odd = 1 then 1 else 0), if i = 0 ∧ o.odd = 2 ∧ 0 < p.2 then p.2 - 1 else p.2 + o.t % 2, o.b⟩
def entsN (p : Nat × Nat) (o : Op1) : Nat → List Ent
  | 0 => []
  | k + 1 => entsN p o k ++ [entOne (lastP p (entsN p o k)) o k]
def manyN (o : Op1) : Nat := (o.many % 18446744073709551616).toNat % 5
theorem entsN_len (p : Nat × Nat) (o : Op1) : ∀ k, (entsN p o k).length = k
  | 0 => rfl
  | k + 1 => by simp [entsN, entsN_len p o k]
theorem lastP_snoc (p : Nat × Nat) (l : List Ent) (e : Ent) : lastP p (l ++ [e]) = (e.i, e.t) := by rw [lastP_append]; rfl
theorem entOne_le (p : Nat × Nat) (o : Op1) (i : Nat) : (entOne p o i).i ≤ p.1 + 2 ∧ (entOne p o i).t ≤ p.2 + 1 := by
  unfold entOne
  constructor
  · show p.1 + 1 + (if i = 0 ∧ o.odd = 1 then 1 else 0) ≤ p.1 + 2
    split <;> omega
  · show (if i = 0 ∧ o.odd = 2 ∧ 0 < p.2 then p.2 - 1 else p.2 + o.t % 2) ≤ p.2 + 1
    split <;> omega
theorem entsN_last (p : Nat × Nat) (o : Op1) : ∀ k, (lastP p (entsN p o k)).1 ≤ p.1 + 2 * k ∧ (lastP p (entsN p o k)).2 ≤ p.2 + k
  | 0 => ⟨Nat.le_refl _, Nat.le_refl _⟩
  | k + 1 => by
    obtain ⟨h1, h2⟩ := entsN_last p o k
    rw [entsN, lastP_snoc]
    have h3 := entOne_le (lastP p (entsN p o k)) o k
    exact ⟨by show (entOne (lastP p (entsN p o k)) o k).i ≤ _; omega, by show (entOne (lastP p (entsN p o k)) o k).t ≤ _; omega⟩
theorem entsN_small (p : Nat × Nat) (o : Op1) : ∀ k, ∀ e ∈ entsN p o k, e.i ≤ p.1 + 2 * k ∧ e.t ≤ p.2 + k ∧ e.b = o.b
  | 0, e, h => by cases h
  | k + 1, e, h => by
    rw [entsN] at h
    rcases List.mem_append.1 h with h | h
    · obtain ⟨h1, h2, h3⟩ := entsN_small p o k e h
      exact ⟨by omega, by omega, h3⟩
    · simp only [List.mem_singleton] at h
      obtain ⟨h1, h2⟩ := entsN_last p o k
      subst h
      have h3 := entOne_le (lastP p (entsN p o k)) o k
      exact ⟨by omega, by omega, rfl⟩
set_option maxHeartbeats 1000000 in
theorem ents_spec {s : PL} {x z : Sl} {o : Op1} (hs : Sat H S R) (hx : EL S x s.es) (hz : RdB S z o.b) (hzl : o.b.length ≤ 600) (hlen : s.es.length < 100000000) (hb1 : s.last.1 < 1000000) (hb2 : s.last.2 < 1000000)
    {K : Value → Heap → Prop} (hK : ∀ (y : Sl) H' S', PH.le S S' → EL S' y (entsN s.last o (manyN o)) → Sat H' S' R → K (.tuple #[.slice y.a y.l y.c, .bool (okAll s.last (entsN s.last o (manyN o)))]) H') :
    CallsH Tryz.prog 48 #[.agg (stV s x).toArray, .agg (opV o z).toArray] H K := by
  refine vc48 (s.fi : Int) (s.ft : Int) ⟨none, 0, 0⟩ x o.kind o.many o.odd (o.n : Int) (o.t : Int) z H K ?_
  generalize hp : s.last = p at *
  intro b1 h1 f1 b2 h2 f2
  have hs1 : Sat h1 S (lst b1 38 (stV s x) :: R) := hs.fresh f1
  have hs2 : Sat h2 S (lst b2 40 (opV o z) :: lst b1 38 (stV s x) :: R) := hs1.fresh f2
  refine ⟨_, _, ⟨none, 0, 0⟩, x, hs2.swap.cells 0 rfl, ?_⟩
  refine slast_spec hs2 hx hlen fun y h3 hs3 => ⟨_, _, y, rfl, ?_⟩
  rw [hp]
  intro b3 h4 f4
  have hs4 := hs3.fresh f4
  refine Sat.store (T := 35) (l := [.int .u64 0, .int .u64 0, .slice none 0 0]) hs4 (Nat.le_refl _) fun h5 hs5 => ?_
  have hs5 : Sat h5 S (lst b3 35 (eV (⟨p.1, p.2, []⟩, y)) :: lst b2 40 (opV o z) :: lst b1 38 (stV s x) :: R) := hs5
  refine ⟨_, hs5.swap.cell 1 rfl, by decide, ?_⟩
  have em : IntKind.i64.wrap (Int.tmod (IntKind.u64.wrap o.many) 5) = ((manyN o : Nat) : Int) := by
    rw [w_u64]
    have h0 : o.many % 18446744073709551616 = (((o.many % 18446744073709551616).toNat : Nat) : Int) := by
      rw [Int.toNat_of_nonneg (Int.emod_nonneg _ (by decide))]
    rw [h0, show Int.tmod (((o.many % 18446744073709551616).toNat : Nat) : Int) 5 = (((o.many % 18446744073709551616).toNat % 5 : Nat) : Int) from tmod_nat _ 5, i64_nat (by omega)]
    rfl
  rw [em]
  have hm5 : manyN o < 5 := Nat.mod_lt _ (by decide)
  refine ⟨fun v n h => ∃ (k : Nat) (us : List EB) (w : EB), n = k ∧ k ≤ manyN o ∧ us.map (·.1) = entsN p o k ∧ (∀ q ∈ us, RdB S q.2 q.1.b) ∧ (w.1.i, w.1.t) = lastP p (entsN p o k) ∧ Sat h S (own 85 3 v (entV us) :: lst b3 35 (eV w) :: lst b2 40 (opV o z) :: lst b1 38 (stV s x) :: R), fun _ n _ => manyN o - n.toNat, ⟨0, [], (⟨p.1, p.2, []⟩, y), rfl, Nat.zero_le _, rfl, (fun q hq => by cases hq), rfl, own.new 85 3 hs5⟩, ?_⟩
  rintro v n h6 ⟨k, us, w, rfl, hk, hus, hub, hw, hs6⟩ _
  have hul : us.length = k := by have := congrArg List.length hus; rw [List.length_map, entsN_len] at this; exact this
  refine CondP.of (fun hc => ?_) (fun hc => ?_)
  · have hc : k < manyN o := by simp at hc; omega
    obtain ⟨hl1, hl2⟩ := entsN_last p o k
    have hw1 : w.1.i = (lastP p (entsN p o k)).1 := congrArg Prod.fst hw
    have hw2 : w.1.t = (lastP p (entsN p o k)).2 := congrArg Prod.snd hw
    have hent : entOne (lastP p (entsN p o k)) o k = ⟨w.1.i + 1 + (if k = 0 ∧ o.odd = 1 then 1 else 0), if k = 0 ∧ o.odd = 2 ∧ 0 < w.1.t then w.1.t - 1 else w.1.t + o.t % 2, o.b⟩ := by rw [entOne, hw1, hw2]
    have c3 := hs6.pick 1 rfl
    have c2 := hs6.pick 2 rfl
    refine ⟨_, c3.cell 0 rfl, _, c3.cell 1 rfl, _, c2.cell 4 rfl, by decide, z, c2.cell 5 rfl, ?_⟩
    have e1 : IntKind.u64.wrap ((w.1.i : Int) + 1) = ((w.1.i + 1 : Nat) : Int) := u64_add (j := 1) (by omega)
    have e2 : IntKind.u64.wrap ((w.1.t : Int) + Int.tmod (o.t : Int) 2) = ((w.1.t + o.t % 2 : Nat) : Int) := by
      rw [show Int.tmod (o.t : Int) 2 = ((o.t % 2 : Nat) : Int) from tmod_nat _ 2, u64_add (by omega)]
    rw [e1, e2]
    intro b4 h7 f7
    have hs7 := hs6.fresh f7
    refine Sat.store (T := 85) (l := [.int .u64 0, .int .u64 0, .slice none 0 0]) hs7 (Nat.le_refl _) fun h8 hs8 => ?_
    have hs8 : Sat h8 S (lst b4 85 (eV (⟨w.1.i + 1, w.1.t + o.t % 2, o.b⟩, z)) :: own 85 3 v (entV us) :: lst b3 35 (eV w) :: lst b2 40 (opV o z) :: lst b1 38 (stV s x) :: R) := hs8
    have ek : ((k : Int) == 0) = decide (k = 0) := by
      have := beq_nat_int k 0
      rw [show ((k : Int) == 0) = (k == 0) by simpa using this]; exact Bool.beq_eq_decide_eq _ _
    have fin : ∀ (h10 : Heap) (E : Ent), E = entOne (lastP p (entsN p o k)) o k → Sat h10 S (lst b4 85 (eV (E, z)) :: own 85 3 v (entV us) :: lst b3 35 (eV w) :: lst b2 40 (opV o z) :: lst b1 38 (stV s x) :: R) →
        ∃ n15 : Int, ∃ n16 : Int, ∃ x9 : Sl, CellsAt h10 b4 0 [.int .u64 n15, .int .u64 n16, .slice x9.a x9.l x9.c] ∧
        ∀ b6 h15, Fresh h10 (.cells #[.int .u64 n15, .int .u64 n16, .slice x9.a x9.l x9.c] 85) b6 h15 →
        RunK Tryz.prog (.sl) (Builtin.append_ #[81, 81] 81 #[.slice v.a v.l v.c, .slice (some ⟨b6, 0, none⟩) 1 1]) h15 (fun x10 h16 =>
        ∃ n17 : Int, ∃ n18 : Int, ∃ x11 : Sl, CellsAt h16 b4 0 [.int .u64 n17, .int .u64 n18, .slice x11.a x11.l x11.c] ∧
        CanSt h16 b3 0 [.int .u64 n17, .int .u64 n18, .slice x11.a x11.l x11.c] ∧ ∀ h17, Stored h16 b3 0 [.int .u64 n17, .int .u64 n18, .slice x11.a x11.l x11.c] h17 →
        (∃ (k' : Nat) (us : List EB) (w : EB), IntKind.i64.wrap ((k : Int) + 1) = k' ∧ k' ≤ manyN o ∧ us.map (·.1) = entsN p o k' ∧ (∀ q ∈ us, RdB S q.2 q.1.b) ∧ (w.1.i, w.1.t) = lastP p (entsN p o k') ∧ Sat h17 S (own 85 3 x10 (entV us) :: lst b3 35 (eV w) :: lst b2 40 (opV o z) :: lst b1 38 (stV s x) :: R)) ∧
        manyN o - (IntKind.i64.wrap ((k : Int) + 1)).toNat < manyN o - (k : Int).toNat) := by
      intro h10 E hE hh
      refine ⟨_, _, z, hh.cells 0 rfl, ?_⟩
      intro b6 h15 f15
      have hs9 : Sat h15 S (lst b6 85 (eV (E, z)) :: lst b4 85 (eV (E, z)) :: own 85 3 v (entV us) :: lst b3 35 (eV w) :: lst b2 40 (opV o z) :: lst b1 38 (stV s x) :: R) := hh.fresh f15
      refine onesL (us := us) el81 (hs9.sel [0, 1]) (by omega) fun x10 h16 hs10 => ⟨_, _, z, hs10.swap.cells 0 rfl, ?_⟩
      refine (hs10.pick 2 rfl).store (by simp [eV]) fun h17 hs11 => ?_
      have hs11 : Sat h17 S (lst b3 35 (eV (E, z)) :: own 85 3 x10 (entV (us ++ [(E, z)])) :: lst b4 85 (eV (E, z)) :: lst b2 40 (opV o z) :: lst b1 38 (stV s x) :: R) := hs11
      rw [i64_succ (by omega)]
      refine ⟨⟨k + 1, us ++ [(E, z)], (E, z), rfl, hc, ?_, fun q hq => ?_, ?_, (hs11.sel [1, 0]).del 2⟩, by simp only [Int.toNat_natCast]; omega⟩
      · rw [List.map_append, hus, entsN, hE]; rfl
      · rcases List.mem_append.1 hq with h | h
        · exact hub q h
        · simp only [List.mem_singleton] at h
          subst h
          have : E.b = o.b := by rw [hE]; rfl
          rw [this]; exact hz
      · rw [entsN, lastP_snoc, hE]
    refine ⟨fun h => Sat h S (lst b4 85 (eV (⟨w.1.i + 1 + (if k = 0 ∧ o.odd = 1 then 1 else 0), w.1.t + o.t % 2, o.b⟩, z)) :: own 85 3 v (entV us) :: lst b3 35 (eV w) :: lst b2 40 (opV o z) :: lst b1 38 (stV s x) :: R), ?_, ?_⟩
    · intro h9 hs9 _
      refine ⟨fun t h => t = decide (k = 0 ∧ o.odd = 2 ∧ 0 < w.1.t) ∧ h = h9, ?_, ?_⟩
      · rintro t h10 ⟨rfl, rfl⟩ _
        refine CondP.of (fun hc1 => ?_) (fun hc1 => ?_)
        · have hc1 := of_decide_eq_true hc1
          refine ⟨_, (hs9.pick 2 rfl).cell 1 rfl, ?_⟩
          have e3 : IntKind.u64.wrap ((w.1.t : Int) - 1) = ((w.1.t - 1 : Nat) : Int) := u64_sub (j := 1) (by omega) (by omega)
          rw [e3]
          refine hs9.store (by simp [eV]) fun h11 hs10 => ?_
          refine fin h11 ⟨w.1.i + 1 + (if k = 0 ∧ o.odd = 1 then 1 else 0), w.1.t - 1, o.b⟩ ?_ hs10
          rw [hent, if_pos (c := k = 0 ∧ o.odd = 2 ∧ 0 < w.1.t) hc1]
        · have hc1 := of_decide_eq_false hc1
          refine fin h10 ⟨w.1.i + 1 + (if k = 0 ∧ o.odd = 1 then 1 else 0), w.1.t + o.t % 2, o.b⟩ ?_ hs9
          rw [hent, if_neg (c := k = 0 ∧ o.odd = 2 ∧ 0 < w.1.t) hc1]
      · rw [ek]
        refine CondP.of (fun hk0 => ⟨_, (hs9.pick 3 rfl).cell 2 rfl, CondP.of (fun ho2 => ⟨_, (hs9.pick 2 rfl).cell 1 rfl, ?_, rfl⟩) fun ho2 => ⟨?_, rfl⟩⟩) fun hk0 => ⟨?_, rfl⟩
        · have h1 := of_decide_eq_true hk0
          have h2 : o.odd = 2 := by simpa using ho2
          exact decide_eq_decide.2 ⟨fun h => ⟨h1, h2, by omega⟩, fun h => by have := h.2.2; omega⟩
        · have h2 : ¬ o.odd = 2 := by simpa using ho2
          exact (decide_eq_false fun h => h2 h.2.1).symm
        · exact (decide_eq_false fun h => of_decide_eq_false hk0 h.1).symm
    · refine ⟨fun t h => t = decide (k = 0 ∧ o.odd = 1) ∧ h = h8, ?_, ?_⟩
      · rintro t h18 ⟨rfl, rfl⟩ _
        refine CondP.of (fun hc1 => ?_) (fun hc1 => ?_)
        · refine ⟨_, hs8.cell 0 rfl, ?_⟩
          have e3 : IntKind.u64.wrap (((w.1.i + 1 : Nat) : Int) + 1) = ((w.1.i + 1 + 1 : Nat) : Int) := u64_add (j := 1) (by omega)
          rw [e3]
          refine hs8.store (by simp [eV]) fun h19 hs9 => ?_
          rw [if_pos (of_decide_eq_true hc1)]; exact hs9
        · rw [if_neg (of_decide_eq_false hc1)]; exact hs8
      · rw [ek]
        refine CondP.of (fun hk0 => ⟨_, (hs8.pick 3 rfl).cell 2 rfl, ?_, rfl⟩) fun hk0 => ⟨?_, rfl⟩
        · have h1 := of_decide_eq_true hk0
          show (o.odd == 1) = _
          by_cases h2 : o.odd = 1
          · rw [decide_eq_true (⟨h1, h2⟩ : k = 0 ∧ o.odd = 1), h2]; rfl
          · rw [decide_eq_false (fun h => h2 h.2), beq_eq_false_iff_ne.2 h2]
        · exact (decide_eq_false fun h => of_decide_eq_false hk0 h.1).symm
  · have hc : k = manyN o := by simp at hc; omega
    subst hc
    obtain ⟨S1, q1, q2, q3⟩ := sealL (us := us) hs6 hub
    rw [hus] at q2
    have hsm := entsN_small p o (manyN o)
    have hlenE := entsN_len p o (manyN o)
    generalize hE : entsN p o (manyN o) = E at *
    obtain ⟨hvl, hvc⟩ := EL.len q2
    refine ⟨_, _, ⟨none, 0, 0⟩, x, (q3.pick 2 rfl).cells 0 rfl, ?_⟩
    refine slast_spec q3 (hx.mono q1) hlen fun y2 h20 hs7 => ⟨_, _, y2, rfl, ?_⟩
    rw [hp]
    refine hs7.store (by simp [eV]) fun h21 hs8 => ?_
    have hs8 : Sat h21 S1 (lst b3 35 (eV (⟨p.1, p.2, []⟩, y2)) :: lst b2 40 (opV o z) :: lst b1 38 (stV s x) :: R) := hs8
    refine ⟨fun t n h => ∃ (i : Nat) (w : EB), n = i ∧ i ≤ E.length ∧ t = okAll p (E.take i) ∧ (w.1.i, w.1.t) = lastP p (E.take i) ∧ Sat h S1 (lst b3 35 (eV w) :: lst b2 40 (opV o z) :: lst b1 38 (stV s x) :: R), fun _ n _ => E.length - n.toNat, ⟨0, (⟨p.1, p.2, []⟩, y2), rfl, Nat.zero_le _, rfl, rfl, hs8⟩, ?_⟩
    rintro t n h22 ⟨i, w2, rfl, hi, rfl, hw2, hs9⟩ _
    refine CondP.of (fun hc => ?_) (fun hc => ?_)
    · have hil : i < E.length := by simp at hc; omega
      obtain ⟨g, og, z2, ga, gc, gz⟩ := q2.at hs9 hil
      refine ⟨⟨by omega, by omega⟩, NilP.of ga ⟨_, _, z2, gc, ?_⟩⟩
      intro b8 h23 f23
      have hs10 := hs9.fresh f23
      refine Sat.store (T := 85) (l := [.int .u64 0, .int .u64 0, .slice none 0 0]) hs10 (Nat.le_refl _) fun h24 hs11 => ?_
      have hs11 : Sat h24 S1 (lst b8 85 (eV (E[i], z2)) :: lst b3 35 (eV w2) :: lst b2 40 (opV o z) :: lst b1 38 (stV s x) :: R) := hs11
      obtain ⟨hm1, hm2, hm3⟩ := hsm _ (List.getElem_mem hil)
      have hz2l := RdB.len gz
      have hlp : (lastP p (E.take i)).1 = w2.1.i ∧ (lastP p (E.take i)).2 = w2.1.t := by rw [← hw2]; exact ⟨rfl, rfl⟩
      have hst : ∀ (tt : Bool), tt = okAll p (E.take (i + 1)) → ∃ n34 : Int, ∃ n35 : Int, ∃ x17 : Sl, CellsAt h24 b8 0 [.int .u64 n34, .int .u64 n35, .slice x17.a x17.l x17.c] ∧
          CanSt h24 b3 0 [.int .u64 n34, .int .u64 n35, .slice x17.a x17.l x17.c] ∧ ∀ h25, Stored h24 b3 0 [.int .u64 n34, .int .u64 n35, .slice x17.a x17.l x17.c] h25 →
          (∃ (i' : Nat) (w : EB), IntKind.i64.wrap ((i : Int) + 1) = i' ∧ i' ≤ E.length ∧ tt = okAll p (E.take i') ∧ (w.1.i, w.1.t) = lastP p (E.take i') ∧ Sat h25 S1 (lst b3 35 (eV w) :: lst b2 40 (opV o z) :: lst b1 38 (stV s x) :: R)) ∧ E.length - (IntKind.i64.wrap ((i : Int) + 1)).toNat < E.length - (i : Int).toNat := by
        intro tt htt
        refine ⟨_, _, z2, hs11.cells 0 rfl, ?_⟩
        refine hs11.swap.store (by simp [eV]) fun h25 hs12 => ?_
        have hs12 : Sat h25 S1 (lst b3 35 (eV (E[i], z2)) :: lst b8 85 (eV (E[i], z2)) :: lst b2 40 (opV o z) :: lst b1 38 (stV s x) :: R) := hs12
        rw [i64_succ (by omega)]
        exact ⟨⟨i + 1, (E[i], z2), rfl, hil, htt, by rw [lastP_succ hil], hs12.del 1⟩, by simp only [Int.toNat_natCast]; omega⟩
      have hok1 : okE (lastP p (E.take i)) E[i] = (decide (E[i].i = w2.1.i + 1) && (decide (w2.1.t ≤ E[i].t) && decide (E[i].b.length ≤ 512))) := by
        rw [okE, decide_eq_true (show E[i].i ≤ MaxI by unfold MaxI; omega), decide_eq_true (show E[i].t ≤ MaxI by unfold MaxI; omega), hlp.1, hlp.2, Bool.true_and, Bool.true_and]
      have hsu := okAll_succ (p := p) hil
      rw [hok1] at hsu
      have hw2l : w2.1.i < 2000000 := by
        have h1 : E = E.take i ++ E.drop i := (List.take_append_drop i E).symm
        rcases Nat.eq_zero_or_pos i with h0 | h0
        · subst h0
          have : (lastP p (E.take 0)).1 = p.1 := rfl
          omega
        · have h2 := lastP_succ (p := p) (l := E) (i := i - 1) (by omega)
          rw [show i - 1 + 1 = i by omega] at h2
          obtain ⟨hn1, _, _⟩ := hsm _ (List.getElem_mem (show i - 1 < E.length by omega))
          rw [h2] at hlp
          have := hlp.1
          simp only at this
          omega
      refine CondP.of (fun hc1 => ?_) (fun hc1 => ?_)
      · rw [hc1, Bool.true_and] at hsu
        refine ⟨_, hs11.cell 0 rfl, _, hs11.swap.cell 0 rfl, ?_⟩
        have e1 : ((E[i].i : Int) == IntKind.u64.wrap ((w2.1.i : Int) + 1)) = decide (E[i].i = w2.1.i + 1) := by
          rw [show IntKind.u64.wrap ((w2.1.i : Int) + 1) = ((w2.1.i + 1 : Nat) : Int) from u64_add (j := 1) (by omega), beq_nat_int]
          exact Bool.beq_eq_decide_eq _ _
        rw [e1]
        refine CondP.of (fun hc2 => ?_) (fun hc2 => ?_)
        · rw [hc2, Bool.true_and] at hsu
          refine ⟨_, hs11.cell 1 rfl, _, hs11.swap.cell 1 rfl, ?_⟩
          have e2 : decide ((E[i].t : Int) ≥ (w2.1.t : Int)) = decide (w2.1.t ≤ E[i].t) := decide_eq_decide.2 (by omega)
          rw [e2]
          refine CondP.of (fun hc3 => ?_) (fun hc3 => ?_)
          · rw [hc3, Bool.true_and] at hsu
            have e3 : decide (((z2.l : Nat) : Int) ≤ 512) = decide (E[i].b.length ≤ 512) := decide_eq_decide.2 (by rw [hz2l]; omega)
            refine ⟨z2, hs11.cell 2 rfl, ?_⟩
            rw [e3]
            exact hst _ hsu.symm
          · rw [hc3, Bool.false_and] at hsu
            exact hst _ hsu.symm
        · rw [hc2, Bool.false_and] at hsu
          exact hst _ hsu.symm
      · rw [hc1, Bool.false_and] at hsu
        exact hst _ hsu.symm
    · have hil : i = E.length := by simp at hc; omega
      subst hil
      have := hK v h22 S1 q1 q2 hs9.drop.drop.drop
      rw [List.take_length]; exact this
end
end Go.Sx.Tryz
