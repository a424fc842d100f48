/-
  Part 11 of the proof: W00, P01, V16, K33, P02, P03, P04.
-/
import Derived.Test.YtegikhoholfcmaaGreatM10
import Derived.Test.YtegikhoholfcmaaGreatRows
namespace Go.Sx.Tryz
open Go Go.Sx Go.Proofs Go.ChangeShapes Go.WideShapes Go.RowKit
set_option linter.unusedVariables false
section
variable {H : Type} {enc : TypeId × Value → H}
theorem one_of_take {l : List Value} {o : Nat} {v : Value} (h : (l.drop o).take 1 = [v]) : l[o]? = some v := by
  have := congrArg (fun x => x[0]?) h
  simpa using this
theorem open_u8s {W : World} {held : Bool} {fuel : Nat} {cs : List Value} {x : DataW H × List MemPlace} (h : DataW.trod enc Tryz.prog W 0 (fun _ => true) held fuel 33 cs = some x) :
    ∃ (v : Sl) (bs : List UInt8), cs = [.slice v.a v.l v.c] ∧ RdB (heapS W.heap) v bs := by
  obtain ⟨v, zs, h1, h2, h3, h4, h5⟩ := trod_rdInts Tryz.underlying33 Tryz.underlying5 (by kernel_rfl) h
  refine ⟨v, zs.map fun z => UInt8.ofNat z.toNat, h1, ?_⟩
  have e : bv (zs.map fun z => UInt8.ofNat z.toNat) = zs.map fun z => .int .u8 z := by
    unfold bv
    rw [List.map_map]
    refine List.map_congr_left fun z hz => ?_
    have hw := h5 z hz
    have hz : 0 ≤ z ∧ z ≤ 255 := by simpa [Lit.wf, IntKind.min, IntKind.max, IntKind.signed, IntKind.bits] using hw
    have : ((UInt8.ofNat z.toNat).toNat : Int) = z := by
      rw [UInt8.toNat_ofNat']; omega
    simp only [Function.comp]
    exact congrArg _ this
  show Rd _ _ 1 (bv _)
  rw [e]
  exact h4
theorem six {cs : List Value} {v0 v1 v2 v3 v4 v5 : Value} (hl : cs.length = 6) (b0 : cs[0]? = some v0) (b1 : cs[1]? = some v1) (b2 : cs[2]? = some v2) (b3 : cs[3]? = some v3) (b4 : cs[4]? = some v4) (b5 : cs[5]? = some v5) :
    cs = [v0, v1, v2, v3, v4, v5] := by
  match cs, hl with
  | [u0, u1, u2, u3, u4, u5], _ => simp_all
theorem open_op {W : World} {held : Bool} {fuel : Nat} {cs : List Value} {x : DataW H × List MemPlace} (h : DataW.trod enc Tryz.prog W 0 (fun _ => true) held fuel 40 cs = some x) :
    ∃ (p : Op1 × Sl), cs = opV p.1 p.2 ∧ RdB (heapS W.heap) p.2 p.1.b := by
  obtain ⟨xs, n, _, _, hl, hn, hf⟩ := DataW.trod_struct Tryz.underlying40 h
  have hl : cs.length = 6 := hl.trans (by kernel_rfl)
  have c1 : Tryz.prog.cellsOf 3 = 1 := by kernel_rfl
  have c2 : Tryz.prog.cellsOf 32 = 1 := by kernel_rfl
  have c3 : Tryz.prog.cellsOf 33 = 1 := by kernel_rfl
  have hn : xs.length = 6 := hn
  match xs, hn with
  | [y0, y1, y2, y3, y4, y5], _ =>
  have q0 : DataW.trod enc Tryz.prog W 0 (fun _ => true) held n 3 ((cs.drop 0).take (Tryz.prog.cellsOf 3)) = some y0 := hf 0 _ rfl
  have q1 : DataW.trod enc Tryz.prog W 0 (fun _ => true) held n 3 ((cs.drop 1).take (Tryz.prog.cellsOf 3)) = some y1 := hf 1 _ rfl
  have q2 : DataW.trod enc Tryz.prog W 0 (fun _ => true) held n 3 ((cs.drop 2).take (Tryz.prog.cellsOf 3)) = some y2 := hf 2 _ rfl
  have q3 : DataW.trod enc Tryz.prog W 0 (fun _ => true) held n 32 ((cs.drop 3).take (Tryz.prog.cellsOf 32)) = some y3 := hf 3 _ rfl
  have q4 : DataW.trod enc Tryz.prog W 0 (fun _ => true) held n 32 ((cs.drop 4).take (Tryz.prog.cellsOf 32)) = some y4 := hf 4 _ rfl
  have q5 : DataW.trod enc Tryz.prog W 0 (fun _ => true) held n 33 ((cs.drop 5).take (Tryz.prog.cellsOf 33)) = some y5 := hf 5 _ rfl
  rw [c1] at q0 q1 q2
  rw [c2] at q3 q4
  rw [c3] at q5
  obtain ⟨z0, a0, _, w0⟩ := DataW.trod_int Tryz.underlying3 q0
  obtain ⟨z1, a1, _, w1⟩ := DataW.trod_int Tryz.underlying3 q1
  obtain ⟨z2, a2, _, w2⟩ := DataW.trod_int Tryz.underlying3 q2
  obtain ⟨z3, a3, _, w3⟩ := DataW.trod_int Tryz.underlying32 q3
  obtain ⟨z4, a4, _, w4⟩ := DataW.trod_int Tryz.underlying32 q4
  obtain ⟨v, bs, a5, hv⟩ := open_u8s q5
  have b0 := one_of_take a0
  have b1 := one_of_take a1
  have b2 := one_of_take a2
  have b3 := one_of_take a3
  have b4 := one_of_take a4
  have b5 := one_of_take a5
  have hcs := six hl b0 b1 b2 b3 b4 b5
  have w3 : 0 ≤ z3 ∧ z3 ≤ 18446744073709551615 := by simpa [Lit.wf, IntKind.min, IntKind.max, IntKind.signed, IntKind.bits] using w3
  have w4 : 0 ≤ z4 ∧ z4 ≤ 18446744073709551615 := by simpa [Lit.wf, IntKind.min, IntKind.max, IntKind.signed, IntKind.bits] using w4
  refine ⟨(⟨z0, z1, z2, z3.toNat, z4.toNat, bs⟩, v), ?_, hv⟩
  rw [hcs]
  simp only [opV, Int.toNat_of_nonneg w3.1, Int.toNat_of_nonneg w4.1]
theorem open_ops {W : World} {held : Bool} {fuel : Nat} {cs : List Value} {x : DataW H × List MemPlace} (h : DataW.trod enc Tryz.prog W 0 (fun _ => true) held fuel 22 cs = some x) :
    ∃ (v : Sl) (ops : List Op1), cs = [.slice v.a v.l v.c] ∧ v.l ≤ 9223372036854775807 ∧ OL (heapS W.heap) v ops := by
  obtain ⟨v, rows, h1, h2, h3, h4, h5⟩ := trod_rd Tryz.underlying22 (sz := 6) (by kernel_rfl) (by decide) h
  obtain ⟨xs, rfl, h7⟩ := row_list (f := fun p : Op1 × Sl => opV p.1 p.2) (Q := fun p => RdB (heapS W.heap) p.2 p.1.b) rows fun r hr => by
    obtain ⟨_, n, y, hy⟩ := h5 r hr
    exact open_op hy
  refine ⟨v, xs.map (·.1), h1, h2, xs, rfl, ?_, h7⟩
  rw [List.flatMap_def]
  exact h4
end
end Go.Sx.Tryz
namespace Go.Sx.Tryz
open Go Go.Sx Go.Proofs
set_option linter.unusedVariables false
def PL.has (g : PL) (i t : Nat) : Prop := g.fi ≤ i ∧ (i = g.fi → t = g.ft) ∧ (g.fi < i → ∃ e, g.es[i - g.fi - 1]? = some e ∧ e.t = t)
def PL.cutAt (g : PL) (i : Nat) : PL := ⟨g.fi, g.ft, g.es.take (i - g.fi)⟩
theorem PL.has.len {g : PL} {i t : Nat} (h : g.has i t) : i - g.fi ≤ g.es.length := by
  rcases Nat.lt_or_ge g.fi i with h1 | h1
  · obtain ⟨e, he, _⟩ := h.2.2 h1
    have := (List.getElem?_eq_some_iff.1 he).1
    omega
  · omega
theorem PL.to_some {g g' : PL} {i t : Nat} (hc : g.Con) (h : g.to i t = some g') : g.has i t ∧ g' = g.cutAt i := by
  unfold PL.to at h
  split at h
  · rename_i hc1
    obtain ⟨rfl, rfl⟩ := hc1
    cases h
    exact ⟨⟨Nat.le_refl _, fun _ => rfl, fun h => by omega⟩, by simp [PL.cutAt]⟩
  · rename_i hc1
    split at h
    · rename_i k hk
      cases h
      obtain ⟨hk1, hk2, _⟩ := List.findIdx?_eq_some_iff_getElem.1 hk
      have hi := hc k hk1
      simp only [Bool.and_eq_true, beq_iff_eq] at hk2
      obtain ⟨h1, h2⟩ := hk2
      refine ⟨⟨by omega, fun h => by omega, fun _ => ⟨g.es[k], ?_, h2⟩⟩, ?_⟩
      · rw [show i - g.fi - 1 = k by omega, List.getElem?_eq_getElem hk1]
      · unfold PL.cutAt
        rw [show i - g.fi = k + 1 by omega]
    · cases h
theorem PL.to_of {g : PL} {i t : Nat} (hc : g.Con) (h : g.has i t) : g.to i t = some (g.cutAt i) := by
  obtain ⟨h1, h2, h3⟩ := h
  unfold PL.to
  rcases Nat.lt_or_ge g.fi i with hlt | hge
  · rw [if_neg (by omega)]
    obtain ⟨e, he, het⟩ := h3 hlt
    obtain ⟨hk, rfl⟩ := List.getElem?_eq_some_iff.1 he
    have hf : g.es.findIdx? (fun e => e.i == i && e.t == t) = some (i - g.fi - 1) := by
      rw [List.findIdx?_eq_some_iff_getElem]
      refine ⟨hk, ?_, fun j hj => ?_⟩
      · have := hc _ hk
        simp only [Bool.and_eq_true, beq_iff_eq]
        exact ⟨by omega, het⟩
      · have := hc j (by omega)
        simp only [Bool.and_eq_true, beq_iff_eq, not_and]
        intro h; omega
    rw [hf]
    unfold PL.cutAt
    rw [show i - g.fi = i - g.fi - 1 + 1 by omega]; rfl
  · have : i = g.fi := by omega
    rw [if_pos ⟨this, h2 this⟩]
    unfold PL.cutAt
    rw [this, Nat.sub_self, List.take_zero]
theorem PL.has_last {g : PL} (hc : g.Con) : g.has g.last.1 g.last.2 := by
  have hl := hc.last
  refine ⟨by omega, fun h => ?_, fun h => ?_⟩
  · have : g.es = [] := List.eq_nil_of_length_eq_zero (by omega)
    unfold PL.last; rw [this]; rfl
  · have h0 : 0 < g.es.length := by omega
    refine ⟨g.es[g.es.length - 1], by rw [show g.last.1 - g.fi - 1 = g.es.length - 1 by omega, List.getElem?_eq_getElem (by omega)], ?_⟩
    unfold PL.last
    rw [List.getLast?_eq_getElem?, List.getElem?_eq_getElem (by omega)]
theorem PL.cutAt_all {g : PL} {i : Nat} (h : g.es.length ≤ i - g.fi) : g.cutAt i = g := by
  unfold PL.cutAt; rw [List.take_of_length_le h]
theorem PL.cutAt_last {g : PL} (hc : g.Con) : g.cutAt g.last.1 = g := PL.cutAt_all (by rw [hc.last]; omega)
theorem PL.Con.cutAt {g : PL} (h : g.Con) (i : Nat) : (g.cutAt i).Con := h.take _
def bodyStep (own : Nat) (g : PL) : Rec → Option PL
  | .hd _ => none
  | .en e => if e.i = g.last.1 + 1 ∧ g.last.2 ≤ e.t then some { g with es := g.es ++ [e] } else none
  | .ct f => if own < f ∧ mayB g.fi g.last.1 f = true then some { g with es := g.es.take (f - 1 - g.fi) } else none
def body (own : Nat) (g : PL) (rs : List Rec) : Option PL := rs.foldlM (bodyStep own) g
theorem body_nil (own : Nat) (g : PL) : body own g [] = some g := rfl
theorem body_cons (own : Nat) (g : PL) (r : Rec) (rs : List Rec) : body own g (r :: rs) = (bodyStep own g r).bind fun g1 => body own g1 rs := rfl
theorem body_append (own : Nat) : ∀ (a b : List Rec) (g : PL), body own g (a ++ b) = (body own g a).bind fun g1 => body own g1 b
  | [], b, g => rfl
  | r :: a, b, g => by
    rw [List.cons_append, body_cons, body_cons]
    cases bodyStep own g r with
    | none => rfl
    | some g1 => exact body_append own a b g1
theorem fold_body (o : Bool) (own : Nat) : ∀ (rs : List Rec) (g : PL), rs.foldlM (Rd1.step o) ⟨g, true, own⟩ = (body own g rs).map fun g' => ⟨g', true, own⟩
  | [], g => rfl
  | r :: rs, g => by
    rw [List.foldlM_cons, body_cons]
    cases r with
    | hd h => rfl
    | en e =>
      simp only [Rd1.step, bodyStep]
      split
      · exact fold_body o own rs _
      · rfl
    | ct f =>
      simp only [Rd1.step, bodyStep]
      split
      · exact fold_body o own rs _
      · rfl
structure Sg where
  file : Nat
  hd : Hd
  rs : List Rec
def Sg.recs (x : Sg) : List Rec := .hd x.hd :: x.rs
def rdSeg (o : Bool) (g : PL) (x : Sg) : Option PL := (g.begin x.hd o).bind fun g1 => body x.hd.i g1 x.rs
def rdAll : Bool → PL → List Sg → Option PL
  | _, g, [] => some g
  | o, g, x :: l => (rdSeg o g x).bind fun g' => rdAll false g' l
theorem readAll_eq : ∀ (G : List Sg) (o : Bool) (g : PL), readAll o g (G.map Sg.recs) = rdAll o g G
  | [], o, g => rfl
  | x :: l, o, g => by
    show (List.foldlM (Rd1.step o) ⟨g, false, 0⟩ (Rec.hd x.hd :: x.rs)).bind (fun s => readAll false s.g (l.map Sg.recs)) = (rdSeg o g x).bind fun g' => rdAll false g' l
    rw [List.foldlM_cons]
    have e : (({ g := g, begun := false, own := 0 } : Rd1).step o (.hd x.hd)) = (g.begin x.hd o).map fun g => ⟨g, true, x.hd.i⟩ := rfl
    rw [e]
    unfold rdSeg
    cases g.begin x.hd o with
    | none => rfl
    | some g1 =>
      show (List.foldlM (Rd1.step o) ⟨g1, true, x.hd.i⟩ x.rs).bind _ = (body x.hd.i g1 x.rs).bind _
      rw [fold_body]
      cases body x.hd.i g1 x.rs with
      | none => rfl
      | some g2 => exact readAll_eq l false g2
theorem bodyStep_con {own : Nat} {g g' : PL} {r : Rec} (hc : g.Con) (h : bodyStep own g r = some g') : g'.Con := by
  have e : (⟨g, true, own⟩ : Rd1).step false r = some ⟨g', true, own⟩ := by
    cases r with
    | hd hh => cases h
    | en e =>
      simp only [bodyStep] at h
      split at h
      · rename_i hx; cases h; simp only [Rd1.step]; rw [if_pos hx]
      · cases h
    | ct f =>
      simp only [bodyStep] at h
      split at h
      · rename_i hx; cases h; simp only [Rd1.step]; rw [if_pos hx]
      · cases h
  exact Rd1.step_con (s := ⟨g, true, own⟩) hc e
theorem body_pre {own : Nat} : ∀ {rs : List Rec} {g g' : PL}, g.Con → own - g.fi ≤ g.es.length → body own g rs = some g' →
    g'.Con ∧ g'.fi = g.fi ∧ g'.ft = g.ft ∧ own - g.fi ≤ g'.es.length ∧ g'.es.take (own - g.fi) = g.es.take (own - g.fi)
  | [], g, g', hc, hl, h => by cases h; exact ⟨hc, rfl, rfl, hl, rfl⟩
  | r :: rs, g, g', hc, hl, h => by
    rw [body_cons] at h
    obtain ⟨g1, h1, h2⟩ := Option.bind_eq_some_iff.1 h
    have hc1 := bodyStep_con hc h1
    have key : g1.fi = g.fi ∧ g1.ft = g.ft ∧ own - g.fi ≤ g1.es.length ∧ g1.es.take (own - g.fi) = g.es.take (own - g.fi) := by
      cases r with
      | hd hh => cases h1
      | en e =>
        simp only [bodyStep] at h1
        split at h1
        · cases h1
          refine ⟨rfl, rfl, ?_, ?_⟩
          · show _ ≤ (g.es ++ [e]).length
            rw [List.length_append]; omega
          · show (g.es ++ [e]).take _ = _
            rw [List.take_append_of_le_length hl]
        · cases h1
      | ct f =>
        simp only [bodyStep] at h1
        split at h1
        · rename_i hx
          cases h1
          have hm := hx.2
          unfold mayB at hm
          simp only [Bool.and_eq_true, decide_eq_true_eq] at hm
          have := hc.last
          refine ⟨rfl, rfl, ?_, ?_⟩
          · show _ ≤ (g.es.take _).length
            rw [List.length_take]; omega
          · show (g.es.take _).take _ = _
            rw [List.take_take, Nat.min_eq_left (by omega)]
        · cases h1
    obtain ⟨k1, k2, k3, k4⟩ := key
    obtain ⟨m1, m2, m3, m4, m5⟩ := body_pre hc1 (by rw [k1]; exact k3) h2
    rw [k1] at m2 m4 m5
    exact ⟨m1, m2, m3.trans k2, m4, m5.trans k4⟩
theorem begin_old (g : PL) (h : Hd) : g.begin h true = some ⟨h.i, h.t, []⟩ := by unfold PL.begin; rw [if_pos (by simp)]
theorem begin_anew (g : PL) {h : Hd} (o : Bool) (ha : h.anew = true) : g.begin h o = some ⟨h.i, h.t, []⟩ := by unfold PL.begin; rw [if_pos (by simp [ha])]
theorem begin_to (g : PL) {h : Hd} (ha : h.anew = false) : g.begin h false = g.to h.i h.t := by unfold PL.begin; rw [if_neg (by simp [ha])]
theorem rdSeg_info {o : Bool} {g g' : PL} {x : Sg} (hc : g.Con) (h : rdSeg o g x = some g') : ∃ g1, g.begin x.hd o = some g1 ∧ body x.hd.i g1 x.rs = some g' ∧ g1.Con ∧ x.hd.i - g1.fi ≤ g1.es.length ∧ g'.Con ∧ g1.fi ≤ x.hd.i ∧ g1.has x.hd.i x.hd.t := by
  obtain ⟨g1, h1, h2⟩ := Option.bind_eq_some_iff.1 h
  have hc1 : g1.Con := hc.begin h1
  have h3 : x.hd.i - g1.fi ≤ g1.es.length ∧ g1.fi ≤ x.hd.i ∧ g1.has x.hd.i x.hd.t := by
    unfold PL.begin at h1
    split at h1
    · cases h1; exact ⟨by simp, Nat.le_refl _, Nat.le_refl _, fun _ => rfl, fun h => by simp at h⟩
    · obtain ⟨k1, rfl⟩ := PL.to_some hc h1
      have := k1.len
      refine ⟨?_, k1.1, k1.1, k1.2.1, fun hlt => ?_⟩
      · show _ ≤ (g.es.take _).length
        rw [List.length_take]; show x.hd.i - g.fi ≤ _; omega
      · obtain ⟨e, he, het⟩ := k1.2.2 hlt
        refine ⟨e, ?_, het⟩
        show (g.es.take (x.hd.i - g.fi))[x.hd.i - g.fi - 1]? = _
        have : x.hd.i - g.fi - 1 < x.hd.i - g.fi := by have : g.fi < x.hd.i := hlt; omega
        rw [List.getElem?_take, if_pos this]; exact he
  obtain ⟨b1, _⟩ := body_pre hc1 h3.1 h2
  exact ⟨g1, h1, h2, hc1, h3.1, b1, h3.2⟩
theorem rdAll_con : ∀ {G : List Sg} {o : Bool} {g s : PL}, g.Con → rdAll o g G = some s → s.Con
  | [], o, g, s, hc, h => by cases h; exact hc
  | x :: l, o, g, s, hc, h => by
    obtain ⟨g1, h1, h2⟩ := Option.bind_eq_some_iff.1 h
    obtain ⟨_, _, _, _, _, k, _⟩ := rdSeg_info hc h1
    exact rdAll_con k h2
theorem rdAll_append : ∀ (A B : List Sg) (o : Bool) (g : PL), A ≠ [] → rdAll o g (A ++ B) = (rdAll o g A).bind fun g' => rdAll false g' B
  | [], B, o, g, h => absurd rfl h
  | [x], B, o, g, _ => by
    show (rdSeg o g x).bind (fun g' => rdAll false g' B) = ((rdSeg o g x).bind fun g' => some g').bind _
    cases rdSeg o g x <;> rfl
  | x :: y :: A, B, o, g, _ => by
    show (rdSeg o g x).bind (fun g' => rdAll false g' ((y :: A) ++ B)) = ((rdSeg o g x).bind fun g' => rdAll false g' (y :: A)).bind _
    cases rdSeg o g x with
    | none => rfl
    | some g1 => exact rdAll_append (y :: A) B false g1 (by simp)
theorem idle_next {g s : PL} {A B : Sg} {Q : List Sg} (hc : g.Con) (ha : A.hd.anew = false) (hb : B.hd.anew = false) (hle : B.hd.i ≤ A.hd.i) (h : rdAll false g (A :: B :: Q) = some s) : rdAll false g (B :: Q) = some s := by
  obtain ⟨g2, h1, h2⟩ := Option.bind_eq_some_iff.1 h
  obtain ⟨g4, h3, h4⟩ := Option.bind_eq_some_iff.1 h2
  obtain ⟨g1, k1, k2, k3, k4, k5, k6, k7⟩ := rdSeg_info hc h1
  obtain ⟨g3, l1, l2, l3, l4, l5, l6, l7⟩ := rdSeg_info k5 h3
  rw [begin_to g ha] at k1
  rw [begin_to g2 hb] at l1
  obtain ⟨hA, rfl⟩ := PL.to_some hc k1
  obtain ⟨hB, rfl⟩ := PL.to_some k5 l1
  obtain ⟨m1, m2, m3, m4, m5⟩ := body_pre k3 k4 k2
  have ef : (g.cutAt A.hd.i).fi = g.fi := rfl
  have ee : (g.cutAt A.hd.i).es = g.es.take (A.hd.i - g.fi) := rfl
  rw [ef] at m2 m4 m5
  rw [ee, List.take_take, Nat.min_self] at m5
  have m3 : g2.ft = g.ft := m3
  have hB' : g.has B.hd.i B.hd.t := by
    obtain ⟨q1, q2, q3⟩ := hB
    rw [m2] at q1 q2 q3
    refine ⟨q1, fun h => (q2 h).trans m3, fun h => ?_⟩
    obtain ⟨e, he, het⟩ := q3 h
    refine ⟨e, ?_, het⟩
    have h5 := congrArg (fun l => l[B.hd.i - g.fi - 1]?) m5
    simp only [List.getElem?_take] at h5
    rw [if_pos (by omega), if_pos (by omega)] at h5
    rw [← h5]; exact he
  have hcut : g2.cutAt B.hd.i = g.cutAt B.hd.i := by
    unfold PL.cutAt
    rw [m2, m3]
    congr 1
    have h5 := congrArg (List.take (B.hd.i - g.fi)) m5
    rw [List.take_take, List.take_take, Nat.min_eq_left (by omega)] at h5
    exact h5
  show (rdSeg false g B).bind _ = _
  have : rdSeg false g B = some g4 := by
    unfold rdSeg
    rw [begin_to g hb, PL.to_of hc hB', ← hcut]
    exact l2
  rw [this]; exact h4
theorem idle_first {g0 s : PL} {A B : Sg} {Q : List Sg} (hc : g0.Con) (hb : B.hd.anew = false) (hle : B.hd.i ≤ A.hd.i) (h : rdAll true g0 (A :: B :: Q) = some s) : rdAll true g0 (B :: Q) = some s := by
  obtain ⟨g2, h1, h2⟩ := Option.bind_eq_some_iff.1 h
  obtain ⟨g4, h3, h4⟩ := Option.bind_eq_some_iff.1 h2
  obtain ⟨g1, k1, k2, k3, k4, k5, k6, k7⟩ := rdSeg_info hc h1
  obtain ⟨g3, l1, l2, l3, l4, l5, l6, l7⟩ := rdSeg_info k5 h3
  rw [begin_old] at k1
  cases k1
  rw [begin_to g2 hb] at l1
  obtain ⟨hB, rfl⟩ := PL.to_some k5 l1
  obtain ⟨m1, m2, m3, m4, m5⟩ := body_pre k3 k4 k2
  have m2 : g2.fi = A.hd.i := m2
  have m3 : g2.ft = A.hd.t := m3
  obtain ⟨q1, q2, q3⟩ := hB
  have e1 : B.hd.i = A.hd.i := by omega
  have e2 : B.hd.t = A.hd.t := (q2 (by omega)).trans m3
  have hcut : g2.cutAt B.hd.i = ⟨B.hd.i, B.hd.t, []⟩ := by
    unfold PL.cutAt
    rw [m2, m3, e1, e2, Nat.sub_self, List.take_zero]
  show (rdSeg true g0 B).bind _ = _
  have : rdSeg true g0 B = some g4 := by
    unfold rdSeg
    rw [begin_old, ← hcut]
    exact l2
  rw [this]; exact h4
theorem idle_at {s : PL} {P Q : List Sg} {A B : Sg} (hb : B.hd.anew = false) (ha : P ≠ [] → A.hd.anew = false) (hle : B.hd.i ≤ A.hd.i) {g0 : PL} (hc : g0.Con) (h : rdAll true g0 (P ++ A :: B :: Q) = some s) : rdAll true g0 (P ++ B :: Q) = some s := by
  rcases Decidable.em (P = []) with rfl | hp
  · exact idle_first hc hb hle h
  · rw [rdAll_append P _ _ _ hp] at h ⊢
    obtain ⟨g1, h1, h2⟩ := Option.bind_eq_some_iff.1 h
    rw [h1]
    exact idle_next (rdAll_con hc h1) (ha hp) hb hle h2
theorem anew_resets {g0 s : PL} {P Q : List Sg} {B : Sg} (hb : B.hd.anew = true) (h : rdAll true g0 (P ++ B :: Q) = some s) : rdAll true g0 (B :: Q) = some s := by
  rcases Decidable.em (P = []) with rfl | hp
  · exact h
  · rw [rdAll_append P _ _ _ hp] at h
    obtain ⟨g1, h1, h2⟩ := Option.bind_eq_some_iff.1 h
    obtain ⟨g2, h3, h4⟩ := Option.bind_eq_some_iff.1 h2
    show (rdSeg true g0 B).bind _ = _
    have : rdSeg true g0 B = rdSeg false g1 B := by
      unfold rdSeg
      rw [begin_old, begin_anew g1 false hb]
    rw [this, h3]; exact h4
def PL.lift (g : PL) (i t : Nat) : PL := ⟨i, t, g.es.drop (i - g.fi)⟩
theorem PL.lift_last {g : PL} {i t : Nat} (hc : g.Con) (h : g.has i t) : (g.lift i t).last = g.last := by
  have hl := h.len
  have hfi := h.1
  show (match (g.es.drop (i - g.fi)).getLast? with | some e => (e.i, e.t) | none => (i, t)) = (match g.es.getLast? with | some e => (e.i, e.t) | none => (g.fi, g.ft))
  rw [List.getLast?_drop]
  by_cases h0 : g.es.length ≤ i - g.fi
  · rw [if_pos h0]
    have hlen : g.es.length = i - g.fi := by omega
    rcases Nat.lt_or_ge g.fi i with h1 | h1
    · obtain ⟨e, he, het⟩ := h.2.2 h1
      rw [List.getLast?_eq_getElem?, hlen, he]
      obtain ⟨hk, rfl⟩ := List.getElem?_eq_some_iff.1 he
      have := hc _ hk
      show (i, t) = (_, _)
      rw [het, this]
      congr 1; omega
    · have hi : i = g.fi := by omega
      have : g.es = [] := List.eq_nil_of_length_eq_zero (by omega)
      rw [this, hi, h.2.1 hi]; rfl
  · rw [if_neg h0]
    cases hg : g.es.getLast? with
    | none => rw [List.getLast?_eq_none_iff] at hg; rw [hg] at h0; simp at h0
    | some e => rfl
theorem sim_step {own i t : Nat} {g g' : PL} {r : Rec} (hc : g.Con) (hh : g.has i t) (hi : i ≤ own) (h : bodyStep own g r = some g') : bodyStep own (g.lift i t) r = some (g'.lift i t) ∧ g'.has i t ∧ g'.fi = g.fi := by
  have hlast := PL.lift_last hc hh
  have hlen := hh.len
  cases r with
  | hd hh => cases h
  | en e =>
    simp only [bodyStep] at h ⊢
    split at h
    · rename_i hx
      cases h
      rw [hlast, if_pos hx]
      refine ⟨?_, ⟨hh.1, hh.2.1, fun hlt => ?_⟩, rfl⟩
      · show some (⟨i, t, g.es.drop (i - g.fi) ++ [e]⟩ : PL) = some ⟨i, t, (g.es ++ [e]).drop (i - g.fi)⟩
        rw [List.drop_append_of_le_length hlen]
      · obtain ⟨x, he, het⟩ := hh.2.2 hlt
        refine ⟨x, ?_, het⟩
        show (g.es ++ [e])[i - g.fi - 1]? = _
        have := (List.getElem?_eq_some_iff.1 he).1
        rw [List.getElem?_append_left this]; exact he
    · cases h
  | ct f =>
    simp only [bodyStep] at h ⊢
    split at h
    · rename_i hx
      cases h
      have hm := hx.2
      unfold mayB at hm
      simp only [Bool.and_eq_true, decide_eq_true_eq] at hm
      rw [hlast, if_pos ⟨hx.1, by
        unfold mayB
        simp only [Bool.and_eq_true, decide_eq_true_eq]
        exact ⟨by show i < f; omega, hm.2⟩⟩]
      have hfi := hh.1
      refine ⟨?_, ⟨hfi, hh.2.1, fun hlt => ?_⟩, rfl⟩
      · show some (⟨i, t, (g.es.drop (i - g.fi)).take (f - 1 - i)⟩ : PL) = some ⟨i, t, (g.es.take (f - 1 - g.fi)).drop (i - g.fi)⟩
        rw [List.drop_take, show f - 1 - g.fi - (i - g.fi) = f - 1 - i by omega]
      · obtain ⟨x, he, het⟩ := hh.2.2 hlt
        refine ⟨x, ?_, het⟩
        show (g.es.take (f - 1 - g.fi))[i - g.fi - 1]? = _
        have hlt' : g.fi < i := hlt
        rw [List.getElem?_take, if_pos (by omega)]; exact he
    · cases h
theorem sim_body {own i t : Nat} : ∀ {rs : List Rec} {g g' : PL}, g.Con → g.has i t → i ≤ own → body own g rs = some g' → body own (g.lift i t) rs = some (g'.lift i t) ∧ g'.has i t
  | [], g, g', hc, hh, hi, h => by cases h; exact ⟨rfl, hh⟩
  | r :: rs, g, g', hc, hh, hi, h => by
    rw [body_cons] at h ⊢
    obtain ⟨g1, h1, h2⟩ := Option.bind_eq_some_iff.1 h
    obtain ⟨k1, k2, k3⟩ := sim_step hc hh hi h1
    rw [k1]
    exact sim_body (bodyStep_con hc h1) k2 hi h2
theorem PL.Con.lift {g : PL} {i t : Nat} (hc : g.Con) (h : g.fi ≤ i) : (g.lift i t).Con := by
  have e : ∀ k (hk : k < (g.es.drop (i - g.fi)).length), (g.es.drop (i - g.fi))[k].i = i + k + 1 := by
    intro k hk
    have hk' := hk
    rw [List.length_drop] at hk'
    rw [List.getElem_drop, hc _ (by omega)]; omega
  exact e
theorem sim_to {i t i' t' : Nat} {g g' : PL} (hc : g.Con) (hh : g.has i t) (hi : i ≤ i') (h : g.to i' t' = some g') : (g.lift i t).to i' t' = some (g'.lift i t) ∧ g'.has i t := by
  obtain ⟨hk, rfl⟩ := PL.to_some hc h
  have hfi := hh.1
  have h1 : (g.lift i t).has i' t' := by
    refine ⟨hi, fun h => ?_, fun hlt => ?_⟩
    · have h : i' = i := h
      show t' = t
      subst h
      rcases Nat.lt_or_ge g.fi i' with h1 | h1
      · obtain ⟨e, he, het⟩ := hh.2.2 h1
        obtain ⟨e2, he2, het2⟩ := hk.2.2 h1
        rw [he] at he2; cases he2
        rw [← het, ← het2]
      · have : i' = g.fi := by omega
        rw [hk.2.1 this, hh.2.1 this]
    · have hlt : i < i' := hlt
      obtain ⟨e, he, het⟩ := hk.2.2 (by omega)
      refine ⟨e, ?_, het⟩
      show (g.es.drop (i - g.fi))[i' - i - 1]? = _
      rw [List.getElem?_drop, show i - g.fi + (i' - i - 1) = i' - g.fi - 1 by omega]; exact he
  refine ⟨?_, ⟨hfi, hh.2.1, fun hlt => ?_⟩⟩
  · rw [PL.to_of (hc.lift hfi) h1]
    unfold PL.cutAt PL.lift
    simp only
    rw [List.drop_take, show i' - g.fi - (i - g.fi) = i' - i by omega]
  · have hlt : g.fi < i := hlt
    obtain ⟨e, he, het⟩ := hh.2.2 hlt
    refine ⟨e, ?_, het⟩
    show (g.es.take (i' - g.fi))[i - g.fi - 1]? = _
    rw [List.getElem?_take, if_pos (by omega)]; exact he
theorem sim_all {i t : Nat} : ∀ {L : List Sg} {g s : PL}, g.Con → g.has i t → (∀ x ∈ L, x.hd.anew = false ∧ i ≤ x.hd.i) → rdAll false g L = some s → rdAll false (g.lift i t) L = some (s.lift i t) ∧ s.has i t
  | [], g, s, hc, hh, _, h => by cases h; exact ⟨rfl, hh⟩
  | x :: L, g, s, hc, hh, hL, h => by
    obtain ⟨g2, h1, h2⟩ := Option.bind_eq_some_iff.1 h
    obtain ⟨ha, hi⟩ := hL x List.mem_cons_self
    obtain ⟨g1, k1, k2, k3, k4, k5, k6, k7⟩ := rdSeg_info hc h1
    rw [begin_to g ha] at k1
    obtain ⟨l1, l2⟩ := sim_to hc hh hi k1
    obtain ⟨m1, m2⟩ := sim_body k3 l2 hi k2
    obtain ⟨n1, n2⟩ := sim_all k5 m2 (fun y hy => hL y (List.mem_cons_of_mem _ hy)) h2
    refine ⟨?_, n2⟩
    show (rdSeg false (g.lift i t) x).bind _ = _
    have : rdSeg false (g.lift i t) x = some (g2.lift i t) := by
      unfold rdSeg
      rw [begin_to _ ha, l1]; exact m1
    rw [this]; exact n1
theorem trim_first {g0 s : PL} {A B : Sg} {L : List Sg} (hc : g0.Con) (hb : B.hd.anew = false) (hL : ∀ x ∈ L, x.hd.anew = false ∧ B.hd.i ≤ x.hd.i) (h : rdAll true g0 (A :: B :: L) = some s) :
    rdAll true g0 (B :: L) = some (s.lift B.hd.i B.hd.t) ∧ s.has B.hd.i B.hd.t := by
  obtain ⟨g2, h1, h2⟩ := Option.bind_eq_some_iff.1 h
  obtain ⟨g4, h3, h4⟩ := Option.bind_eq_some_iff.1 h2
  obtain ⟨g1, k1, k2, k3, k4, k5, k6, k7⟩ := rdSeg_info hc h1
  obtain ⟨g3, l1, l2, l3, l4, l5, l6, l7⟩ := rdSeg_info k5 h3
  rw [begin_to g2 hb] at l1
  obtain ⟨hB, rfl⟩ := PL.to_some k5 l1
  obtain ⟨m1, m2⟩ := sim_body l3 l7 (Nat.le_refl _) l2
  obtain ⟨n1, n2⟩ := sim_all l5 m2 hL h4
  refine ⟨?_, n2⟩
  have e : (g2.cutAt B.hd.i).lift B.hd.i B.hd.t = ⟨B.hd.i, B.hd.t, []⟩ := by
    unfold PL.cutAt PL.lift
    simp only
    rw [List.drop_of_length_le (by rw [List.length_take]; omega)]
  show (rdSeg true g0 B).bind _ = _
  have : rdSeg true g0 B = some (g4.lift B.hd.i B.hd.t) := by
    unfold rdSeg
    rw [begin_old, ← e]; exact m1
  rw [this]; exact n1
theorem rd_head {g0 s : PL} {G : List Sg} {f : Nat} {h : Hd} (hne : G ≠ []) (hg : rdAll true g0 G = some s) : rdAll true g0 (G ++ [⟨f, h, []⟩]) = s.begin h false := by
  rw [rdAll_append G _ _ _ hne, hg]
  show (rdSeg false s ⟨f, h, []⟩).bind (fun g => some g) = _
  unfold rdSeg
  cases s.begin h false <;> rfl
theorem rd_more {g0 s : PL} {G : List Sg} {f : Nat} {h : Hd} {rs new : List Rec} (hg : rdAll true g0 (G ++ [⟨f, h, rs⟩]) = some s) : rdAll true g0 (G ++ [⟨f, h, rs ++ new⟩]) = body h.i s new := by
  have key : ∀ (o : Bool) (g : PL), rdAll o g [⟨f, h, rs⟩] = some s → rdAll o g [⟨f, h, rs ++ new⟩] = body h.i s new := by
    intro o g hk
    have e : ∀ rs, rdAll o g [⟨f, h, rs⟩] = rdSeg o g ⟨f, h, rs⟩ := fun rs => by
      show (rdSeg o g ⟨f, h, rs⟩).bind (fun g => some g) = _
      cases rdSeg o g ⟨f, h, rs⟩ <;> rfl
    rw [e] at hk ⊢
    unfold rdSeg at hk ⊢
    cases hb : g.begin h o with
    | none => rw [hb] at hk; cases hk
    | some g1 =>
      rw [hb] at hk
      have hk : body h.i g1 rs = some s := hk
      show body h.i g1 (rs ++ new) = _
      rw [body_append, hk]; rfl
  rcases Decidable.em (G = []) with rfl | hne
  · exact key _ _ hg
  · rw [rdAll_append G _ _ _ hne] at hg ⊢
    obtain ⟨g1, h1, h2⟩ := Option.bind_eq_some_iff.1 hg
    rw [h1]; exact key _ _ h2
theorem PL.last_snoc (g : PL) (e : Ent) : PL.last { g with es := g.es ++ [e] } = (e.i, e.t) := by
  unfold PL.last; simp
theorem body_ents {own : Nat} : ∀ {l : List Ent} {g : PL}, okAll g.last l = true → body own g (l.map .en) = some { g with es := g.es ++ l }
  | [], g, _ => by rw [List.append_nil]; rfl
  | e :: l, g, h => by
    simp only [okAll, Bool.and_eq_true] at h
    obtain ⟨h1, h2⟩ := h
    obtain ⟨_, k2, k3⟩ := okE_ok h1
    rw [List.map_cons, body_cons]
    have : bodyStep own g (.en e) = some { g with es := g.es ++ [e] } := by
      simp only [bodyStep]; rw [if_pos ⟨k2, k3⟩]
    rw [this]
    show body own { g with es := g.es ++ [e] } (l.map .en) = _
    rw [body_ents (by rw [PL.last_snoc]; exact h2)]
    simp
end Go.Sx.Tryz
namespace Go.Sx.Tryz
open Go Go.Sx Go.Proofs
set_option maxRecDepth 100000
set_option linter.unusedVariables false
noncomputable def c16 : Code := (Tryz.f16.body).getD .skip
def a16 : Ann := (.seq (.seq .leaf (.br .leaf .leaf)) (.seq (.seq .leaf (.inn (.loop [(9, .one (.i .i64))] (.seq .leaf (.seq (.br .leaf .leaf) (.seq (.inn (.seq .leaf (.seq .leaf (.seq .leaf (.seq (.seq .leaf (.br (.reg (.q 0 (.q 1 (.q 2 (.q 3 (.q 4 (.q 5 (.q 6 (.q 7 (.q 8 (.q 9 (.q 10 (.q 11 (.q 12 (.q 13 (.q 14 (.q 15 (.q 16 (.q 17 (.q 18 (.q 19 (.q 20 (.q 21 (.fin)))))))))))))))))))))))) .leaf)) .leaf))))) .leaf)))))) .leaf))
theorem ok16 : okC tab 69 true c16 a16 = true := by kernel_rfl
theorem vc16 (d_b d_o : Nat) (keep_ : Sl) (h : Heap) (R : Value → Heap → Prop)
  (hv : ∃ (I1 : Int → Heap → Prop) (mu1 : Int → Heap → Nat), I1 0 h ∧ (∀ n1 : Int, ∀ h1, I1 n1 h1 → ∀ _ : Env,
   CondP (decide ((n1 : Int) < 32)) (
   ((0 : Int) ≤ n1 ∧ (n1 : Int) < (32 : Int)) ∧
   Nat.ble 2 32 = true ∧ ∃ n2 : Int, cellH h1 d_b (d_o + n1.toNat * 2 + 1) = some (.int .i64 n2) ∧
   CondP (decide ((((keep_.l : Nat) : Int) : Int) > 0)) (
   (((keep_.l : Nat) : Int) : Int) ≠ 0 ∧
   ((0 : Int) ≤ Int.tmod n1 ((keep_.l : Nat) : Int) ∧ (Int.tmod n1 ((keep_.l : Nat) : Int) : Int) < ((keep_.l : Nat) : Int)) ∧
   NilP keep_.a (fun b1 o1 =>
   ∃ n3 : Int, cellH h1 b1 (o1 + (Int.tmod n1 ((keep_.l : Nat) : Int)).toNat) = some (.int .i64 n3) ∧
   ∃ x1 : Sl, cellH h1 d_b (d_o + n1.toNat * 2) = some (.slice x1.a x1.l x1.c) ∧
   ∃ n4 : Int, cellH h1 d_b (d_o + n1.toNat * 2 + 1) = some (.int .i64 n4) ∧
   ∃ x2 : Sl, cellH h1 d_b (d_o + n1.toNat * 2) = some (.slice x2.a x2.l x2.c) ∧
   ((0 : Int) ≤ (0 : Int) ∧ (0 : Int) ≤ IntKind.i64.wrap (n2 + (if (IntKind.i64.wrap (((x1.l : Nat) : Int) - n4)) < (if 0 > n3 then 0 else n3) then (IntKind.i64.wrap (((x1.l : Nat) : Int) - n4)) else (if 0 > n3 then 0 else n3))) ∧ IntKind.i64.wrap (n2 + (if (IntKind.i64.wrap (((x1.l : Nat) : Int) - n4)) < (if 0 > n3 then 0 else n3) then (IntKind.i64.wrap (((x1.l : Nat) : Int) - n4)) else (if 0 > n3 then 0 else n3))) ≤ IntKind.i64.wrap (n2 + (if (IntKind.i64.wrap (((x1.l : Nat) : Int) - n4)) < (if 0 > n3 then 0 else n3) then (IntKind.i64.wrap (((x1.l : Nat) : Int) - n4)) else (if 0 > n3 then 0 else n3))) ∧ IntKind.i64.wrap (n2 + (if (IntKind.i64.wrap (((x1.l : Nat) : Int) - n4)) < (if 0 > n3 then 0 else n3) then (IntKind.i64.wrap (((x1.l : Nat) : Int) - n4)) else (if 0 > n3 then 0 else n3))) ≤ ((x2.c : Nat) : Int)) ∧
   CanSt h1 d_b (d_o + n1.toNat * 2) [.slice (subA x2.a 0 ((IntKind.i64.wrap (n2 + (if (IntKind.i64.wrap (((x1.l : Nat) : Int) - n4)) < (if 0 > n3 then 0 else n3) then (IntKind.i64.wrap (((x1.l : Nat) : Int) - n4)) else (if 0 > n3 then 0 else n3)))).toNat) 1) ((IntKind.i64.wrap (n2 + (if (IntKind.i64.wrap (((x1.l : Nat) : Int) - n4)) < (if 0 > n3 then 0 else n3) then (IntKind.i64.wrap (((x1.l : Nat) : Int) - n4)) else (if 0 > n3 then 0 else n3)))).toNat) ((IntKind.i64.wrap (n2 + (if (IntKind.i64.wrap (((x1.l : Nat) : Int) - n4)) < (if 0 > n3 then 0 else n3) then (IntKind.i64.wrap (((x1.l : Nat) : Int) - n4)) else (if 0 > n3 then 0 else n3)))).toNat)] ∧ ∀ h2, Stored h1 d_b (d_o + n1.toNat * 2) [.slice (subA x2.a 0 ((IntKind.i64.wrap (n2 + (if (IntKind.i64.wrap (((x1.l : Nat) : Int) - n4)) < (if 0 > n3 then 0 else n3) then (IntKind.i64.wrap (((x1.l : Nat) : Int) - n4)) else (if 0 > n3 then 0 else n3)))).toNat) 1) ((IntKind.i64.wrap (n2 + (if (IntKind.i64.wrap (((x1.l : Nat) : Int) - n4)) < (if 0 > n3 then 0 else n3) then (IntKind.i64.wrap (((x1.l : Nat) : Int) - n4)) else (if 0 > n3 then 0 else n3)))).toNat) ((IntKind.i64.wrap (n2 + (if (IntKind.i64.wrap (((x1.l : Nat) : Int) - n4)) < (if 0 > n3 then 0 else n3) then (IntKind.i64.wrap (((x1.l : Nat) : Int) - n4)) else (if 0 > n3 then 0 else n3)))).toNat)] h2 →
   CanSt h2 d_b (d_o + n1.toNat * 2 + 1) [.int .i64 (IntKind.i64.wrap (n2 + (if (IntKind.i64.wrap (((x1.l : Nat) : Int) - n4)) < (if 0 > n3 then 0 else n3) then (IntKind.i64.wrap (((x1.l : Nat) : Int) - n4)) else (if 0 > n3 then 0 else n3))))] ∧ ∀ h3, Stored h2 d_b (d_o + n1.toNat * 2 + 1) [.int .i64 (IntKind.i64.wrap (n2 + (if (IntKind.i64.wrap (((x1.l : Nat) : Int) - n4)) < (if 0 > n3 then 0 else n3) then (IntKind.i64.wrap (((x1.l : Nat) : Int) - n4)) else (if 0 > n3 then 0 else n3))))] h3 →
   I1 (IntKind.i64.wrap (n1 + 1)) h3 ∧ mu1 (IntKind.i64.wrap (n1 + 1)) h3 < mu1 n1 h1)) (
   ∃ x3 : Sl, cellH h1 d_b (d_o + n1.toNat * 2) = some (.slice x3.a x3.l x3.c) ∧
   ((0 : Int) ≤ (0 : Int) ∧ (0 : Int) ≤ n2 ∧ n2 ≤ n2 ∧ n2 ≤ ((x3.c : Nat) : Int)) ∧
   CanSt h1 d_b (d_o + n1.toNat * 2) [.slice (subA x3.a 0 n2.toNat 1) n2.toNat n2.toNat] ∧ ∀ h4, Stored h1 d_b (d_o + n1.toNat * 2) [.slice (subA x3.a 0 n2.toNat 1) n2.toNat n2.toNat] h4 →
   CanSt h4 d_b (d_o + n1.toNat * 2 + 1) [.int .i64 n2] ∧ ∀ h5, Stored h4 d_b (d_o + n1.toNat * 2 + 1) [.int .i64 n2] h5 →
   I1 (IntKind.i64.wrap (n1 + 1)) h5 ∧ mu1 (IntKind.i64.wrap (n1 + 1)) h5 < mu1 n1 h1)) (
   CanSt h1 d_b (d_o + 66) [.bool false] ∧ ∀ h6, Stored h1 d_b (d_o + 66) [.bool false] h6 →
   CanSt h6 d_b (d_o + 64) [.bool false] ∧ ∀ h7, Stored h6 d_b (d_o + 64) [.bool false] h7 →
   CanSt h7 d_b (d_o + 65) [.int .i64 0] ∧ ∀ h8, Stored h7 d_b (d_o + 65) [.int .i64 0] h8 →
   R (.tuple #[]) h8))) :
  CallsH Tryz.prog 16 #[.pointer (some ⟨d_b, d_o, none⟩), .slice keep_.a keep_.l keep_.c] h R :=
  calls_of_vc tabOk mixed Tryz.func16 (c := c16) (by kernel_rfl) (n := 69) rfl (rs := []) (by kernel_rfl) ok16 (args := [.pointer (some ⟨d_b, d_o, none⟩), .slice keep_.a keep_.l keep_.c]) (Nat.le_of_ble_eq_true rfl) (Eq.mpr (by kernel_rfl) hv)
end Go.Sx.Tryz
namespace Go.Sx.Tryz
open Go Go.Sx Go.Proofs
set_option linter.unusedVariables false
section
variable {H H' : Heap} {S : PH} {R : List Asn} {d : Nat} {D : Dk}
def inV (l : List Int) : List Value := l.map fun n => .int .i64 n
def crashN (keep : List Int) (i : Nat) (x : Fl) : Nat := if keep = [] then x.s else x.s + min (keep.getD (i % keep.length) 0).toNat (x.b.length - x.s)
def Fl.crash (keep : List Int) (i : Nat) (x : Fl) : Fl := ⟨x.b.take (crashN keep i x), crashN keep i x⟩
def Dk.crash (D : Dk) (keep : List Int) : Dk := { f := fun i => if i < 32 then (D.f i).crash keep i else D.f i, armed := false, fuse := 0, down := false }
def Dk.crashK (D : Dk) (keep : List Int) (k : Nat) : Dk := { D with f := fun i => if i < k then (D.f i).crash keep i else D.f i }
theorem crashK_succ (D : Dk) (keep : List Int) (k : Nat) : D.crashK keep (k + 1) = (D.crashK keep k).set k ((D.f k).crash keep k) := by
  unfold Dk.crashK Dk.set
  congr 1
  funext i
  unfold updF
  by_cases h : i = k
  · subst h; simp
  · simp only [h, if_false]
    by_cases h2 : i < k
    · rw [if_pos (by omega), if_pos h2]
    · rw [if_neg (by omega), if_neg h2]
theorem crash_spec {kv : Sl} {keep : List Int} (hs : Sat H S (dsk d D :: R)) (hk : Rd S kv 1 (inV keep)) (hkl : keep.length < 1000000) (hsy : ∀ i, i < 32 → (D.f i).s ≤ (D.f i).b.length)
    {K : Value → Heap → Prop} (hK : ∀ H', Sat H' S (dsk d (D.crash keep) :: R) → K (.tuple #[]) H') : CallsH Tryz.prog 16 #[.pointer (some ⟨d, 0, none⟩), .slice kv.a kv.l kv.c] H K := by
  apply vc16
  have hkvl : kv.l = keep.length := by have := hk.1; simp [inV] at this; omega
  have hfit := dsk_len hs
  refine ⟨fun n h => ∃ k : Nat, n = k ∧ k ≤ 32 ∧ Sat h S (dsk d (D.crashK keep k) :: R), fun n _ => 32 - n.toNat, ⟨0, rfl, by omega, by
    have : D.crashK keep 0 = D := by unfold Dk.crashK; simp
    rw [this]; exact hs⟩, ?_⟩
  rintro n h1 ⟨k, rfl, hkk, hs1⟩ _
  refine CondP.of (fun hc => ?_) (fun hc => ?_)
  · have hc : k < 32 := by simp at hc; omega
    have e0 : 0 + (k : Int).toNat * 2 = 2 * k := by simp; omega
    rw [e0]
    obtain ⟨cs, vs, hd, hs2⟩ := dsk_file hc hs1
    have hfk : (D.crashK keep k).f k = D.f k := by unfold Dk.crashK; simp
    have hl := fileLen hc hs2
    rw [hfk] at hl
    have hlc := (own.len hs2.swap).2
    have hsk := hsy k hc
    have hft := hfit k hc
    have hsyn := hd.syn k hc
    rw [hfk] at hsyn
    refine ⟨⟨by omega, by omega⟩, rfl, _, hs2.cell _ hsyn, ?_⟩
    have next : ∀ (m : Nat), m = crashN keep k (D.f k) → m ≤ (vs k).l → CanSt h1 d (2 * k) [.slice (subA (vs k).a 0 m 1) m m] ∧ ∀ h2, Stored h1 d (2 * k) [.slice (subA (vs k).a 0 m 1) m m] h2 →
        CanSt h2 d (2 * k + 1) [.int .i64 (m : Int)] ∧ ∀ h3, Stored h2 d (2 * k + 1) [.int .i64 (m : Int)] h3 → (∃ k' : Nat, IntKind.i64.wrap ((k : Int) + 1) = k' ∧ k' ≤ 32 ∧ Sat h3 S (dsk d (D.crashK keep k') :: R)) ∧ 32 - (IntKind.i64.wrap ((k : Int) + 1)).toNat < 32 - (k : Int).toNat := by
      intro m hm hml
      refine hs2.store (by simp [hd.len]; omega) fun h2 hs3 => ?_
      have hd1 := hd.putFile hc ⟨subA (vs k).a 0 m 1, m, m⟩ ((D.f k).b.take m) (by rw [List.length_take]; omega)
      refine hs3.store (by simp [hd1.len]; omega) fun h3 hs4 => ?_
      have hd2 := hd1.putSyn hc m
      rw [Dk.set_set, Dk.set_f] at hd2
      have hs5 := own.cut hs4.swap hml
      rw [bv, ← List.map_take, hfk] at hs5
      have hs6 := dsk_back (x := ⟨(D.f k).b.take m, m⟩) hc hd2 (dsk_sy hs1) (by simp only [List.length_take]; omega) (hs5.swap)
      rw [i64_succ (by omega)]
      refine ⟨⟨k + 1, rfl, hc, ?_⟩, ?_⟩
      · rw [crashK_succ, Fl.crash, ← hm]; exact hs6
      · show 32 - (k + 1) < 32 - k; omega
    refine CondP.of (fun hc2 => ?_) (fun hc2 => ?_)
    · have hkp : 0 < keep.length := by simp at hc2; omega
      have hne : keep ≠ [] := by intro h; rw [h] at hkp; simp at hkp
      have em : Int.tmod (k : Int) ((kv.l : Nat) : Int) = ((k % keep.length : Nat) : Int) := by rw [hkvl]; rfl
      rw [em]
      simp only [Int.toNat_natCast]
      have hmlt : k % keep.length < keep.length := Nat.mod_lt _ hkp
      refine ⟨by omega, ⟨by omega, by omega⟩, ?_⟩
      obtain ⟨fb, fo, fa, fc⟩ := Rd.at hk hs1 (by omega)
      refine NilP.of fa ⟨keep[k % keep.length], by have := fc.get (k % keep.length) (.int .i64 keep[k % keep.length]) (by simp [inV, hmlt]); simpa using this, vs k, hs2.cell _ (hd.file k hc), _, hs2.cell _ hsyn, vs k, hs2.cell _ (hd.file k hc), ?_⟩
      have hcn : crashN keep k (D.f k) = (D.f k).s + min (keep[k % keep.length]).toNat ((D.f k).b.length - (D.f k).s) := by
        rw [crashN, if_neg hne, List.getD_eq_getElem?_getD, List.getElem?_eq_getElem hmlt]; rfl
      have e1 : IntKind.i64.wrap ((((vs k).l : Nat) : Int) - ((D.f k).s : Int)) = (((D.f k).b.length - (D.f k).s : Nat) : Int) := by rw [hl, i64_sub hsk (by omega)]
      rw [e1]
      have e2 : ∀ z : Int, IntKind.i64.wrap (((D.f k).s : Int) + (if (((D.f k).b.length - (D.f k).s : Nat) : Int) < (if 0 > z then 0 else z) then (((D.f k).b.length - (D.f k).s : Nat) : Int) else (if 0 > z then 0 else z))) = (((D.f k).s + min z.toNat ((D.f k).b.length - (D.f k).s) : Nat) : Int) := by
        intro z
        have : (if (((D.f k).b.length - (D.f k).s : Nat) : Int) < (if 0 > z then 0 else z) then (((D.f k).b.length - (D.f k).s : Nat) : Int) else (if 0 > z then 0 else z)) = ((min z.toNat ((D.f k).b.length - (D.f k).s) : Nat) : Int) := by
          split <;> split <;> omega
        rw [this, i64_add (by omega)]
      rw [e2, ← hcn]
      simp only [Int.toNat_natCast]
      have hle : crashN keep k (D.f k) ≤ (vs k).l := by rw [hcn, hl]; omega
      exact ⟨⟨by omega, by omega, by omega, by omega⟩, next _ rfl hle⟩
    · have hkp : keep = [] := List.eq_nil_of_length_eq_zero (by simp at hc2; omega)
      have hcn : crashN keep k (D.f k) = (D.f k).s := by rw [crashN, if_pos hkp]
      refine ⟨vs k, hs2.cell _ (hd.file k hc), ?_⟩
      simp only [Int.toNat_natCast]
      exact ⟨⟨by omega, by omega, by omega, by omega⟩, next _ hcn.symm (by omega)⟩
  · have hc : k = 32 := by simp at hc; omega
    subst hc
    obtain ⟨cs, vs, hd, hs2⟩ := dsk_open hs1
    refine hs2.store (by simp [hd.len]) fun h6 hs3 => ?_
    have hd1 := hd.putDown false
    refine hs3.store (by rw [Nat.zero_add, hd1.len]; simp) fun h7 hs4 => ?_
    have hd2 := hd1.putArmed false
    refine hs4.store (by rw [Nat.zero_add, hd2.len]; simp) fun h8 hs5 => hK h8 ?_
    have hd3 := hd2.putFuse 0 (by omega)
    have hy : (D.crashK keep 32).Sy := dsk_sy hs1
    exact dsk_shut hd3 hy hs5
end
end Go.Sx.Tryz
namespace Go.Sx.Tryz
open Go Go.Sx Go.Proofs
set_option linter.unusedVariables false
theorem nodup_len : ∀ {l m : List Nat}, l.Nodup → (∀ x ∈ l, x ∈ m) → l.length ≤ m.length
  | [], m, _, _ => Nat.zero_le _
  | x :: l, m, h, hs => by
    rw [List.nodup_cons] at h
    have hx := hs x List.mem_cons_self
    have := nodup_len (l := l) (m := m.erase x) h.2 fun y hy => (List.mem_erase_of_ne (by rintro rfl; exact h.1 hy)).2 (hs y (List.mem_cons_of_mem _ hy))
    rw [List.length_erase_of_mem hx] at this
    have h0 : 0 < m.length := List.length_pos_of_mem hx
    rw [List.length_cons]; omega
theorem pbs_take : ∀ (ps : List Par) (m : Nat), (∀ p ∈ ps, Pok p) → ∃ j t, (pbs ps).take m = pbs (ps.take j) ++ t ∧ Tail t ∧ j ≤ ps.length ∧ ((pbs ps).length ≤ m → j = ps.length ∧ t = [])
  | [], m, _ => ⟨0, [], by simp [pbs], Tail.nil, Nat.zero_le _, fun _ => ⟨rfl, rfl⟩⟩
  | p :: ps, m, h => by
    rw [pbs_cons]
    have hp := h p List.mem_cons_self
    by_cases hm : (parcelB p.1 p.2).length ≤ m
    · obtain ⟨j, t, h1, h2, h3, h4⟩ := pbs_take ps (m - (parcelB p.1 p.2).length) fun x hx => h x (List.mem_cons_of_mem _ hx)
      refine ⟨j + 1, t, ?_, h2, by simpa using h3, fun hl => ?_⟩
      · rw [List.take_append, List.take_of_length_le hm, h1, List.take_succ_cons, pbs_cons, List.append_assoc]
      · rw [List.length_append] at hl
        obtain ⟨k1, k2⟩ := h4 (by omega)
        exact ⟨by rw [k1]; rfl, k2⟩
    · refine ⟨0, (parcelB p.1 p.2).take m, ?_, ⟨p.1, p.2, (parcelB p.1 p.2).drop m, hp.1, hp.2, (List.take_append_drop _ _).symm, ?_⟩, Nat.zero_le _, fun hl => ?_⟩
      · rw [List.take_append_of_le_length (by omega)]; rfl
      · intro e
        have := congrArg List.length e
        rw [List.length_drop, List.length_nil] at this; omega
      · rw [List.length_append] at hl; omega
theorem Tail.take {t : List UInt8} (h : Tail t) (m : Nat) : Tail (t.take m) := by
  obtain ⟨k, b, q, h1, h2, h3, h4⟩ := h
  refine ⟨k, b, t.drop m ++ q, h1, h2, ?_, ?_⟩
  · rw [← List.append_assoc, List.take_append_drop]; exact h3
  · intro e; exact h4 (List.append_eq_nil_iff.1 e).2
structure Lay (D : Dk) (first many : Nat) (G : List Sg) (t : List UInt8) (s : PL) : Prop where
  file : ∀ g ∈ G, g.file < many
  nodup : (G.map (·.file)).Nodup
  ser : G.Pairwise fun a b => a.hd.serial < b.hd.serial
  ok : ∀ g ∈ G, g.hd.ok ∧ (∀ r ∈ g.rs, r.ok) ∧ g.rs.length < 29000
  cont : ∀ k (h : k < G.length), (D.f (first + G[k].file)).b = pbs (G[k].recs.map Rec.par) ++ (if k + 1 = G.length then t else [])
  tail : Tail t
  junk : ∀ i, i < many → (∀ g ∈ G, g.file ≠ i) → Tail (D.f (first + i)).b
  read : rdAll true ⟨0, 0, []⟩ G = some s
def hdsOf (many : Nat) (G : List Sg) : List (Option Hd) := (List.range many).map fun i => (G.find? fun g => g.file == i).map (·.hd)
def rsOf (G : List Sg) (i : Nat) : List Rec := match G.find? (fun g => g.file == i) with | some g => g.recs | none => []
def tlOf (G : List Sg) (t : List UInt8) (i : Nat) : List UInt8 := match G.getLast? with | some g => if g.file = i then t else [] | none => []
theorem find_file : ∀ {G : List Sg} {g : Sg}, (G.map (·.file)).Nodup → g ∈ G → G.find? (fun x => x.file == g.file) = some g
  | [], g, _, h => by cases h
  | x :: G, g, hn, h => by
    rw [List.map_cons, List.nodup_cons] at hn
    rcases List.mem_cons.1 h with rfl | h
    · rw [List.find?_cons_of_pos (by simp)]
    · have hne : x.file ≠ g.file := by
        intro e; apply hn.1; rw [e]; exact List.mem_map.2 ⟨g, h, rfl⟩
      rw [List.find?_cons_of_neg (by simpa using hne)]
      exact find_file hn.2 h
theorem find_none {G : List Sg} {i : Nat} (h : ∀ g ∈ G, g.file ≠ i) : G.find? (fun x => x.file == i) = none := by
  rw [List.find?_eq_none]
  intro g hg; simpa using h g hg
theorem find_some {G : List Sg} {i : Nat} {g : Sg} (h : G.find? (fun x => x.file == i) = some g) : g ∈ G ∧ g.file = i :=
  ⟨List.mem_of_find?_eq_some h, by have := List.find?_some h; simpa using this⟩
theorem hdsOf_len (many : Nat) (G : List Sg) : (hdsOf many G).length = many := by simp [hdsOf]
theorem hdsOf_get {many : Nat} {G : List Sg} {i : Nat} (h : i < many) : ((hdsOf many G)[i]?).getD none = (G.find? fun g => g.file == i).map (·.hd) := by
  simp [hdsOf, h]
namespace Lay
variable {D : Dk} {first many : Nat} {G : List Sg} {t : List UInt8} {s : PL}
theorem len (h : Lay D first many G t s) : G.length ≤ many := by
  have := nodup_len h.nodup (m := List.range many) fun x hx => by
    obtain ⟨g, hg, rfl⟩ := List.mem_map.1 hx
    exact List.mem_range.2 (h.file g hg)
  simpa using this
theorem perm (h : Lay D first many G t s) : (ixs (hdsOf many G) many).Perm (G.map (·.file)) := by
  refine (List.perm_ext_iff_of_nodup ?_ h.nodup).2 fun i => ?_
  · exact List.Nodup.sublist List.filter_sublist List.nodup_range
  · rw [mem_ixs]
    constructor
    · rintro ⟨h1, h2⟩
      unfold isSeg at h2
      rw [hdsOf_get h1] at h2
      cases hf : G.find? (fun g => g.file == i) with
      | none => rw [hf] at h2; cases h2
      | some g =>
        obtain ⟨q1, q2⟩ := find_some hf
        exact List.mem_map.2 ⟨g, q1, q2⟩
    · intro hi
      obtain ⟨g, hg, rfl⟩ := List.mem_map.1 hi
      refine ⟨h.file g hg, ?_⟩
      unfold isSeg
      rw [hdsOf_get (h.file g hg), find_file h.nodup hg]; rfl
theorem serOf_eq (h : Lay D first many G t s) {g : Sg} (hg : g ∈ G) : serOf (hdsOf many G) g.file = g.hd.serial := by
  unfold serOf
  rw [hdsOf_get (h.file g hg), find_file h.nodup hg]; rfl
theorem sorted (h : Lay D first many G t s) : (G.map (·.file)).Pairwise fun a b => serOf (hdsOf many G) a < serOf (hdsOf many G) b := by
  rw [List.pairwise_map]
  have h1 := h.ser
  rw [List.pairwise_iff_getElem] at h1 ⊢
  intro i j hi hj hij
  rw [h.serOf_eq (List.getElem_mem hi), h.serOf_eq (List.getElem_mem hj)]
  exact h1 i j hi hj hij
theorem rsOf_eq (h : Lay D first many G t s) {g : Sg} (hg : g ∈ G) : rsOf G g.file = g.recs := by
  unfold rsOf; rw [find_file h.nodup hg]
theorem run (h : Lay D first many G t s) : readAll true ⟨0, 0, []⟩ ((G.map (·.file)).map (rsOf G)) = some s := by
  rw [List.map_map]
  have : G.map (rsOf G ∘ fun g => g.file) = G.map Sg.recs := List.map_congr_left fun g hg => h.rsOf_eq hg
  rw [this, readAll_eq]; exact h.read
theorem recs_ok (h : Lay D first many G t s) {g : Sg} (hg : g ∈ G) : (∀ r ∈ g.recs, r.ok) ∧ g.recs.length < 30000 := by
  obtain ⟨h1, h2, h3⟩ := h.ok g hg
  refine ⟨fun r hr => ?_, by show (_ :: g.rs).length < _; rw [List.length_cons]; omega⟩
  rcases List.mem_cons.1 hr with rfl | hr
  · exact h1
  · exact h2 r hr
theorem tl_eq (h : Lay D first many G t s) {k : Nat} (hk : k < G.length) : tlOf G t G[k].file = if k + 1 = G.length then t else [] := by
  unfold tlOf
  rw [List.getLast?_eq_getElem?, List.getElem?_eq_getElem (by omega)]
  simp only
  by_cases h1 : k + 1 = G.length
  · rw [if_pos h1]
    have : G.length - 1 = k := by omega
    simp only [this, if_true]
  · rw [if_neg h1, if_neg]
    intro e
    have hn := h.nodup
    have hp : (G.map (·.file)).Pairwise (· ≠ ·) := hn
    rw [List.pairwise_iff_getElem] at hp
    have := hp k (G.length - 1) (by simpa using hk) (by simp; omega) (by omega)
    simp only [List.getElem_map] at this
    exact this e.symm
theorem seg_cont (h : Lay D first many G t s) {k : Nat} (hk : k < G.length) : (D.f (first + G[k].file)).b = pbs ((rsOf G G[k].file).map Rec.par) ++ tlOf G t G[k].file := by
  rw [h.tl_eq hk, h.rsOf_eq (List.getElem_mem hk)]; exact h.cont k hk
theorem hok (h : Lay D first many G t s) {i : Nat} (hi : i < many) : HOk (D.f (first + i)).b (((hdsOf many G)[i]?).getD none) := by
  rw [hdsOf_get hi]
  cases hf : G.find? (fun g => g.file == i) with
  | none => exact h.junk i hi (by rw [List.find?_eq_none] at hf; intro g hg; simpa using hf g hg)
  | some g =>
    obtain ⟨q1, rfl⟩ := find_some hf
    obtain ⟨k, hk, rfl⟩ := List.getElem_of_mem q1
    refine ⟨(h.ok _ q1).1, pbs ((G[k].rs).map Rec.par) ++ (if k + 1 = G.length then t else []), ?_⟩
    rw [h.cont k hk]
    show pbs ((Rec.hd G[k].hd :: G[k].rs).map Rec.par) ++ _ = _
    rw [List.map_cons, pbs_cons, List.append_assoc]; rfl
theorem seg (h : Lay D first many G t s) {k : Nat} (hk : k < (G.map (·.file)).length) :
    ((D.f (first + (G.map (·.file))[k])).b = pbs ((rsOf G (G.map (·.file))[k]).map Rec.par) ++ tlOf G t (G.map (·.file))[k] ∧ (∀ r ∈ rsOf G (G.map (·.file))[k], r.ok) ∧ Tail (tlOf G t (G.map (·.file))[k]) ∧ (rsOf G (G.map (·.file))[k]).length < 30000) ∧ (tlOf G t (G.map (·.file))[k] = [] ∨ k + 1 = (G.map (·.file)).length) := by
  have hk' : k < G.length := by simpa using hk
  simp only [List.getElem_map, List.length_map]
  refine ⟨⟨h.seg_cont hk', ?_, ?_, ?_⟩, ?_⟩
  · rw [h.rsOf_eq (List.getElem_mem hk')]; exact (h.recs_ok (List.getElem_mem hk')).1
  · rw [h.tl_eq hk']; split
    · exact h.tail
    · exact Tail.nil
  · rw [h.rsOf_eq (List.getElem_mem hk')]; exact (h.recs_ok (List.getElem_mem hk')).2
  · rw [h.tl_eq hk']
    by_cases h1 : k + 1 = G.length
    · exact .inr h1
    · rw [if_neg h1]; exact .inl rfl
theorem segs_eq (h : Lay D first many G t s) : segsOf first (hdsOf many G) (G.map (·.file)) = G.map fun g => ⟨first + g.file, g.hd⟩ := by
  unfold segsOf
  rw [List.map_map]
  refine List.map_congr_left fun g hg => ?_
  show (⟨first + g.file, hdAt (hdsOf many G) g.file⟩ : Seg) = _
  unfold hdAt
  rw [hdsOf_get (h.file g hg), find_file h.nodup hg]; rfl
theorem con (h : Lay D first many G t s) : s.Con := rdAll_con (PL.Con.nil 0 0) h.read
theorem same {D' : Dk} (h : Lay D first many G t s) (he : ∀ i, i < many → (D'.f (first + i)).b = (D.f (first + i)).b) : Lay D' first many G t s :=
  ⟨h.file, h.nodup, h.ser, h.ok, fun k hk => (he _ (h.file _ (List.getElem_mem hk))).trans (h.cont k hk), h.tail, fun i hi hg => by rw [he i hi]; exact h.junk i hi hg, h.read⟩
end Lay
section
variable {H H' : Heap} {S : PH} {R : List Asn} {d first many each : Nat} {D : Dk} {G : List Sg} {t : List UInt8} {s : PL}
theorem lay_rscan {fv : Sl} {vs : List Sl} (hs : Sat H S R) (hL : Lay D first many G t s) (hm : many < 20) (hfit : ∀ i, i < many → (D.f (first + i)).b.length ≤ 1048576) (hvl : vs.length = many) (hf : Rd S fv 1 (fV vs)) (hvs : ∀ i (h : i < vs.length), RdB S vs[i] (D.f (first + i)).b)
    {K : Value → Heap → Prop} (hK : ∀ (y : Sl) H' S', PH.le S S' → EL S' y s.es → Sat H' S' R → K (.tuple #[.agg (rfV s y G.length).toArray, .int .i64 0]) H') : CallsH Tryz.prog 51 #[.slice fv.a fv.l fv.c] H K := by
  have hlen : (G.map (·.file)).length = G.length := List.length_map ..
  rw [← hlen] at hK
  refine rscan_spec (vs := vs) (hds := hdsOf many G) (Ls := G.map (·.file)) (rsf := rsOf G) (tl := tlOf G t) (pl := s) hs hf (by rw [hdsOf_len]; exact hvl) (by omega) (fun i hi => ?_) (by rw [hvl]; exact hL.perm) hL.sorted (fun k hk h2 => ?_) hL.run hK
  · have h1 := hL.hok (i := i) (by omega)
    have h2 := hvs i hi
    have h3 := hfit i (by omega)
    cases hh : ((hdsOf many G)[i]?).getD none with
    | none => rw [hh] at h1; exact ⟨_, h2, h1⟩
    | some hd =>
      rw [hh] at h1
      obtain ⟨h4, rest, h5⟩ := h1
      rw [h5] at h2 h3
      rw [List.length_append] at h3
      exact ⟨h4, rest, h2, by omega⟩
  · obtain ⟨⟨g1, g2, g3, g4⟩, g5⟩ := hL.seg hk
    have h3 := hvs _ h2
    have h4 := hfit _ (by rw [← hvl]; exact h2)
    have h5 := RdB.len h3
    rw [g1] at h3
    exact ⟨⟨h3, g2, g3, by omega, g4⟩, g5, by omega⟩
theorem lay_open (hs : Sat H S (dsk d D :: R)) (hL : Lay D first many G t s) (hdn : D.down = false) (hm : 2 ≤ many) (hm2 : first + many ≤ 32) (hm3 : many < 20) (he : 64 ≤ each) (he2 : each ≤ 1048576)
    {K : Value → Heap → Prop} (hK : ∀ jb g H' S' X, PH.le S S' → g.pure = s → eok S' g.es → X = openedR (tidyK first (pnOf (G.map (·.file)) (rsOf G)) (fun n => (D.f (first + n)).b.length) (fun n => decide (n ∈ G.map (·.file))) many (D, ⟨d, first, many, each, g, G.map fun g => ⟨first + g.file, g.hd⟩, false⟩)) (decide (G.map (·.file) = [])) →
      Sat H' S' (jA jb X.2 :: dsk d X.1 :: R) → K (if X.2.broken = true then .tuple #[.pointer none, .int .i64 70] else .tuple #[.pointer (some ⟨jb, 0, none⟩), .int .i64 0]) H') :
    CallsH Tryz.prog 11 #[.pointer (some ⟨d, 0, none⟩), .int .i64 (first : Int), .int .i64 (many : Int), .int .i64 (each : Int)] H K := by
  have hse := hL.segs_eq
  rw [← hse] at hK
  exact open_specJ (hds := hdsOf many G) (Ls := G.map (·.file)) (rsf := rsOf G) (tl := tlOf G t) (pl := s) hs hdn hm hm2 hm3 he he2 (hdsOf_len many G) (fun i hi => hL.hok hi) hL.perm hL.sorted (fun k hk => hL.seg hk) hL.run hK
end
end Go.Sx.Tryz
namespace Go.Sx.Tryz
open Go Go.Sx Go.Proofs
set_option linter.unusedVariables false
section
variable {D : Dk} {i n : Nat} {x : List UInt8}
theorem tick_cases (D : Dk) (hd : D.down = false) : D.tick.f = D.f ∧ D.tick.armed = D.armed ∧ ((D.blown = false ∧ D.tick.down = false) ∨ (D.blown = true ∧ D.armed = true ∧ D.tick.down = true)) := by
  unfold Dk.tick Dk.blown
  cases ha : D.armed with
  | false => simp [ha, hd]
  | true =>
    simp only [if_true, Bool.true_and]
    refine ⟨by simp, by simp, ?_⟩
    cases h : D.fuse == 0 with
    | false => exact .inl ⟨rfl, rfl⟩
    | true => exact .inr ⟨rfl, by simp, rfl⟩
theorem app_cases (hd : D.down = false) (hf : (D.f i).b.length + x.length ≤ 1048576) :
    ∃ D', D'.f = (D.set i ⟨(D.f i).b ++ x, (D.f i).s⟩).f ∧ D'.armed = D.armed ∧ (D.app i x = (0, D') ∧ D'.down = false ∨ D.app i x = (70, D') ∧ D'.down = true ∧ D.armed = true) := by
  obtain ⟨h1, h2, h3⟩ := tick_cases (D.set i ⟨(D.f i).b ++ x, (D.f i).s⟩) hd
  have hb : (D.set i ⟨(D.f i).b ++ x, (D.f i).s⟩).blown = D.blown := rfl
  refine ⟨_, h1, h2, ?_⟩
  unfold Dk.app
  rw [if_neg (by rw [hd]; simp), if_neg (by omega)]
  rcases h3 with ⟨h4, h5⟩ | ⟨h4, h5, h6⟩
  · rw [hb] at h4
    rw [if_neg (by rw [h4]; simp)]; exact .inl ⟨rfl, h5⟩
  · rw [hb] at h4
    rw [if_pos h4]; exact .inr ⟨rfl, h6, h5⟩
theorem syn_cases (hd : D.down = false) : ∃ D', D'.armed = D.armed ∧ (D.syn i = (0, D') ∧ D'.down = false ∧ D'.f = (D.set i ⟨(D.f i).b, (D.f i).b.length⟩).f ∨ D.syn i = (70, D') ∧ D'.down = true ∧ D'.f = D.f ∧ D.armed = true) := by
  unfold Dk.syn
  rw [if_neg (by rw [hd]; simp)]
  rcases (tick_cases D hd).2.2 with ⟨h4, h5⟩ | ⟨h4, h5, h6⟩
  · obtain ⟨h1, h2, h3⟩ := tick_cases (D.set i ⟨(D.f i).b, (D.f i).b.length⟩) hd
    rw [if_neg (by rw [h4]; simp)]
    refine ⟨_, h2, .inl ⟨rfl, ?_, h1⟩⟩
    rcases h3 with ⟨_, h⟩ | ⟨h, _⟩
    · exact h
    · have hb : (D.set i ⟨(D.f i).b, (D.f i).b.length⟩).blown = D.blown := rfl
      rw [hb, h4] at h; cases h
  · rw [if_pos h4]
    exact ⟨_, (tick_cases D hd).2.1, .inr ⟨rfl, h6, (tick_cases D hd).1, h5⟩⟩
theorem drp_cases (hd : D.down = false) : ∃ D', D'.armed = D.armed ∧ (D.drp i = (0, D') ∧ D'.down = false ∧ D'.f = (D.set i ⟨[], 0⟩).f ∨ D.drp i = (70, D') ∧ D'.down = true ∧ D'.f = D.f ∧ D.armed = true) := by
  unfold Dk.drp
  rw [if_neg (by rw [hd]; simp)]
  rcases (tick_cases D hd).2.2 with ⟨h4, h5⟩ | ⟨h4, h5, h6⟩
  · obtain ⟨h1, h2, h3⟩ := tick_cases (D.set i ⟨[], 0⟩) hd
    rw [if_neg (by rw [h4]; simp)]
    refine ⟨_, h2, .inl ⟨rfl, ?_, h1⟩⟩
    rcases h3 with ⟨_, h⟩ | ⟨h, _⟩
    · exact h
    · have hb : (D.set i ⟨[], 0⟩).blown = D.blown := rfl
      rw [hb, h4] at h; cases h
  · rw [if_pos h4]
    exact ⟨_, (tick_cases D hd).2.1, .inr ⟨rfl, h6, (tick_cases D hd).1, h5⟩⟩
theorem cut_cases (hd : D.down = false) (hn : n ≤ (D.f i).b.length) : ∃ D', D'.armed = D.armed ∧ (D.cut i n = (0, D') ∧ D'.down = false ∧ D'.f = (D.set i ⟨(D.f i).b.take n, min n (D.f i).s⟩).f ∨ D.cut i n = (70, D') ∧ D'.down = true ∧ D'.f = D.f ∧ D.armed = true) := by
  unfold Dk.cut
  rw [if_neg (by rw [hd]; simp), if_neg (by omega)]
  rcases (tick_cases D hd).2.2 with ⟨h4, h5⟩ | ⟨h4, h5, h6⟩
  · obtain ⟨h1, h2, h3⟩ := tick_cases (D.set i ⟨(D.f i).b.take n, min n (D.f i).s⟩) hd
    rw [if_neg (by rw [h4]; simp)]
    refine ⟨_, h2, .inl ⟨rfl, ?_, h1⟩⟩
    rcases h3 with ⟨_, h⟩ | ⟨h, _⟩
    · exact h
    · have hb : (D.set i ⟨(D.f i).b.take n, min n (D.f i).s⟩).blown = D.blown := rfl
      rw [hb, h4] at h; cases h
  · rw [if_pos h4]
    exact ⟨_, (tick_cases D hd).2.1, .inr ⟨rfl, h6, (tick_cases D hd).1, h5⟩⟩
end
theorem set_same (D : Dk) (i : Nat) (x : Fl) : (D.set i x).f i = x := updF_same _ _ _
theorem set_ne (D : Dk) {i j : Nat} (x : Fl) (h : j ≠ i) : (D.set i x).f j = D.f j := updF_ne _ _ h
structure Crs (first many : Nat) (D D' : Dk) : Prop where
  left : ∀ i, i < many → ∃ n, (D.f (first + i)).s ≤ n ∧ n ≤ (D.f (first + i)).b.length ∧ D'.f (first + i) = ⟨(D.f (first + i)).b.take n, n⟩
  up : D'.down = false
  un : D'.armed = false
theorem crash_crs {first many : Nat} {D : Dk} (keep : List Int) (hm : first + many ≤ 32) (hs : ∀ i, i < many → (D.f (first + i)).s ≤ (D.f (first + i)).b.length) : Crs first many D (D.crash keep) := by
  refine ⟨fun i hi => ⟨crashN keep (first + i) (D.f (first + i)), ?_, ?_, ?_⟩, rfl, rfl⟩
  · unfold crashN; split <;> omega
  · have := hs i hi
    unfold crashN; split <;> omega
  · show (if first + i < 32 then _ else _) = _
    rw [if_pos (by omega)]; rfl
structure Mid (D : Dk) (J : Jn) (G : List Sg) (s : PL) : Prop where
  lay : Lay D J.first J.many G [] s
  rng : J.first + J.many ≤ 32 ∧ 2 ≤ J.many ∧ J.many < 20
  segs : J.segs = G.map fun g => ⟨J.first + g.file, g.hd⟩
  sound : J.broken = false
  up : D.down = false
  clean : ∀ i, i < J.many → (∀ g ∈ G, g.file ≠ i) → (D.f (J.first + i)).b = []
  sync : ∀ i, i < J.many → (D.f (J.first + i)).s = (D.f (J.first + i)).b.length
def Roomy (G : List Sg) (many : Nat) : Prop := G.length < many ∨ ∃ k, ∃ h : k + 1 < G.length, (G[k + 1].hd.anew = true ∨ G[k + 1].hd.i ≤ G[k].hd.i)
def Safe (G : List Sg) : Prop := ∀ j k, j ≤ k → ∀ h : k < G.length, G[k].hd.anew = true → (rdAll true ⟨0, 0, []⟩ (G.drop j)).isSome = true
def After (first many : Nat) (D : Dk) (P : PL → Prop) : Prop := D.down = true ∧ D.armed = true ∧ (∀ i, i < many → (D.f (first + i)).s ≤ (D.f (first + i)).b.length) ∧ ∀ D', Crs first many D D' → ∃ G t s, Lay D' first many G t s ∧ Roomy G many ∧ P s ∧ (∀ g ∈ G, g.hd.serial < 1000) ∧ Safe G
theorem After.mono {first many : Nat} {D : Dk} {P Q : PL → Prop} (h : After first many D P) (hpq : ∀ s, P s → Q s) : After first many D Q := by
  obtain ⟨h1, h2, h3, h4⟩ := h
  exact ⟨h1, h2, h3, fun D' hc => by obtain ⟨G, t, s, k1, k2, k3, k4⟩ := h4 D' hc; exact ⟨G, t, s, k1, k2, hpq s k3, k4⟩⟩
theorem Jn.note_zero (J : Jn) : J.note 0 = J := by
  obtain ⟨d, f, m, e, l, s, b⟩ := J
  simp [Jn.note]
theorem write_cases {J : Jn} {D : Dk} {f : Nat} {x : List UInt8} (hd : D.down = false) (hb : J.broken = false) (hf : (D.f f).b.length + x.length ≤ 1048576) :
    (∃ D', J.write D f x = (true, D', J) ∧ D'.down = false ∧ D'.armed = D.armed ∧ D'.f = (D.set f ⟨(D.f f).b ++ x, ((D.f f).b ++ x).length⟩).f) ∨
    (∃ D' J', J.write D f x = (false, D', J') ∧ D'.down = true ∧ D'.armed = true ∧ D'.f = (D.set f ⟨(D.f f).b ++ x, (D.f f).s⟩).f ∧ J' = { J with broken := true }) := by
  have hJ : J.note 70 = { J with broken := true } := by unfold Jn.note; simp
  obtain ⟨D1, h1, h2, h3⟩ := app_cases (i := f) (x := x) hd hf
  rcases h3 with ⟨h3, h4⟩ | ⟨h3, h4, h5⟩
  · obtain ⟨D2, k1, k2⟩ := syn_cases (i := f) h4
    have e : J.write D f x = ((D1.syn f).1 == 0, (D1.syn f).2, J.note (D1.syn f).1) := by
      unfold Jn.write
      simp only [h3, if_true, Jn.note_zero]
    have hf1 : D1.f f = ⟨(D.f f).b ++ x, (D.f f).s⟩ := by rw [h1]; exact set_same _ _ _
    rcases k2 with ⟨k2, k3, k4⟩ | ⟨k2, k3, k4, k5⟩
    · left
      refine ⟨D2, by rw [e, k2, Jn.note_zero]; rfl, k3, k1.trans h2, ?_⟩
      rw [k4, hf1]
      unfold Dk.set
      rw [h1]
      unfold Dk.set
      simp only [updF_upd]
    · right
      refine ⟨D2, J.note 70, by rw [e, k2]; rfl, k3, by rw [k1, k5], by rw [k4, h1], hJ⟩
  · right
    have e : J.write D f x = (false, D1, J.note 70) := by
      unfold Jn.write
      simp only [h3]; rfl
    exact ⟨D1, J.note 70, e, h4, by rw [h2, h5], h1, hJ⟩
theorem crs_write {first many f : Nat} {D D1 D' : Dk} {x : List UInt8} (hf : f < many) (hsync : ∀ i, i < many → (D.f (first + i)).s = (D.f (first + i)).b.length) (h1 : D1.f = (D.set (first + f) ⟨(D.f (first + f)).b ++ x, (D.f (first + f)).s⟩).f) (hc : Crs first many D1 D') :
    ∃ m, (D'.f (first + f)).b = (D.f (first + f)).b ++ x.take m ∧ ∀ i, i < many → i ≠ f → (D'.f (first + i)).b = (D.f (first + i)).b := by
  obtain ⟨n, k1, k2, k3⟩ := hc.left f hf
  have e : D1.f (first + f) = ⟨(D.f (first + f)).b ++ x, (D.f (first + f)).s⟩ := by rw [h1]; exact set_same _ _ _
  rw [e] at k1 k2 k3
  simp only at k1 k2 k3
  refine ⟨n - (D.f (first + f)).b.length, ?_, fun i hi hne => ?_⟩
  · rw [k3]
    simp only
    rw [hsync f hf] at k1
    rw [List.take_append, List.take_of_length_le k1]
  · obtain ⟨n, l1, l2, l3⟩ := hc.left i hi
    have e : D1.f (first + i) = D.f (first + i) := by rw [h1]; exact set_ne _ _ (by omega)
    rw [e] at l1 l2 l3
    rw [l3]
    rw [hsync i hi] at l1
    exact List.take_of_length_le l1
theorem crs_same {first many : Nat} {D D1 D' : Dk} (hsync : ∀ i, i < many → (D.f (first + i)).s = (D.f (first + i)).b.length) (h1 : D1.f = D.f) (hc : Crs first many D1 D') : ∀ i, i < many → (D'.f (first + i)).b = (D.f (first + i)).b := by
  intro i hi
  obtain ⟨n, l1, l2, l3⟩ := hc.left i hi
  rw [h1] at l1 l2 l3
  rw [l3]
  rw [hsync i hi] at l1
  exact List.take_of_length_le l1
theorem Lay.put {D D' : Dk} {first many f : Nat} {G : List Sg} {s s1 : PL} {h : Hd} (hL : Lay D first many G [] s) (hf : f < many) (hnew : ∀ g ∈ G, g.file ≠ f) (hser : ∀ g ∈ G, g.hd.serial < h.serial) (hok : h.ok) (hc : (D'.f (first + f)).b = parcelB 1 h.body) (ho : ∀ i, i < many → i ≠ f → (D'.f (first + i)).b = (D.f (first + i)).b) (hr : rdAll true ⟨0, 0, []⟩ (G ++ [⟨f, h, []⟩]) = some s1) :
    Lay D' first many (G ++ [⟨f, h, []⟩]) [] s1 := by
  refine ⟨fun g hg => ?_, ?_, ?_, fun g hg => ?_, fun k hk => ?_, Tail.nil, fun i hi hg => ?_, hr⟩
  · rcases List.mem_append.1 hg with h | h
    · exact hL.file g h
    · simp only [List.mem_singleton] at h; subst h; exact hf
  · rw [List.map_append, List.map_cons, List.map_nil]
    refine List.pairwise_append.2 ⟨hL.nodup, List.pairwise_singleton _ _, ?_⟩
    intro a ha b hb
    obtain ⟨g, hg, rfl⟩ := List.mem_map.1 ha
    simp only [List.mem_singleton] at hb
    subst hb; exact hnew g hg
  · refine List.pairwise_append.2 ⟨hL.ser, List.pairwise_singleton _ _, ?_⟩
    intro a ha b hb
    simp only [List.mem_singleton] at hb
    subst hb; exact hser a ha
  · rcases List.mem_append.1 hg with h | h
    · exact hL.ok g h
    · simp only [List.mem_singleton] at h
      subst h; exact ⟨hok, (fun r hr => by cases hr), by simp⟩
  · rw [List.length_append, List.length_singleton] at hk
    have ht : (if k + 1 = (G ++ [(⟨f, h, []⟩ : Sg)]).length then ([] : List UInt8) else []) = [] := by split <;> rfl
    rw [ht, List.append_nil]
    rcases Nat.lt_or_ge k G.length with h1 | h1
    · rw [List.getElem_append_left h1]
      have hg := List.getElem_mem h1
      rw [ho _ (hL.file _ hg) (hnew _ hg), hL.cont k h1]
      have : (if k + 1 = G.length then ([] : List UInt8) else []) = [] := by split <;> rfl
      rw [this, List.append_nil]
    · have : k = G.length := by omega
      subst this
      rw [List.getElem_append_right (Nat.le_refl _)]
      simp only [Nat.sub_self, List.getElem_cons_zero]
      rw [hc]
      show _ = pbs ([Rec.hd h].map Rec.par)
      rw [List.map_cons, List.map_nil, pbs_cons]
      show _ = parcelB 1 h.body ++ []
      rw [List.append_nil]
  · rw [ho i hi (by rintro rfl; exact hg _ (List.mem_append_right _ List.mem_cons_self) rfl)]
    exact hL.junk i hi fun g h => hg g (List.mem_append_left _ h)
theorem Lay.more {D D' : Dk} {first many : Nat} {G : List Sg} {L : Sg} {s s1 : PL} {new : List Rec} {t : List UInt8} (hL : Lay D first many (G ++ [L]) [] s) (hok : ∀ r ∈ new, r.ok) (hlen : L.rs.length + new.length < 29000) (ht : Tail t) (hc : (D'.f (first + L.file)).b = (D.f (first + L.file)).b ++ (pbs (new.map Rec.par) ++ t)) (ho : ∀ i, i < many → i ≠ L.file → (D'.f (first + i)).b = (D.f (first + i)).b) (hr : body L.hd.i s new = some s1) :
    Lay D' first many (G ++ [⟨L.file, L.hd, L.rs ++ new⟩]) t s1 := by
  have hmem : L ∈ G ++ [L] := List.mem_append_right _ List.mem_cons_self
  have hne : ∀ g ∈ G, g.file ≠ L.file := by
    have := hL.nodup
    rw [List.map_append, List.map_cons, List.map_nil] at this
    have h := (List.pairwise_append.1 this).2.2
    intro g hg
    exact h g.file (List.mem_map.2 ⟨g, hg, rfl⟩) L.file List.mem_cons_self
  have hlast := hL.cont G.length (by simp)
  rw [List.getElem_append_right (Nat.le_refl _)] at hlast
  simp only [Nat.sub_self, List.getElem_cons_zero, List.length_append, List.length_singleton, if_true, List.append_nil] at hlast
  refine ⟨fun g hg => ?_, ?_, ?_, fun g hg => ?_, fun k hk => ?_, ht, fun i hi hg => ?_, ?_⟩
  · rcases List.mem_append.1 hg with h | h
    · exact hL.file g (List.mem_append_left _ h)
    · simp only [List.mem_singleton] at h; subst h; exact hL.file L hmem
  · have := hL.nodup
    rw [List.map_append] at this ⊢
    exact this
  · have := hL.ser
    have h2 := List.pairwise_append.1 this
    refine List.pairwise_append.2 ⟨h2.1, List.pairwise_singleton _ _, ?_⟩
    intro a ha b hb
    simp only [List.mem_singleton] at hb
    subst hb; exact h2.2.2 a ha L List.mem_cons_self
  · rcases List.mem_append.1 hg with h | h
    · exact hL.ok g (List.mem_append_left _ h)
    · simp only [List.mem_singleton] at h
      obtain ⟨k1, k2, k3⟩ := hL.ok L hmem
      subst h
      refine ⟨k1, fun r hr => ?_, by show (L.rs ++ new).length < _; rw [List.length_append]; exact hlen⟩
      rcases List.mem_append.1 hr with h | h
      · exact k2 r h
      · exact hok r h
  · rw [List.length_append, List.length_singleton] at hk
    rcases Nat.lt_or_ge k G.length with h1 | h1
    · rw [List.getElem_append_left h1, if_neg (by simp; omega), List.append_nil]
      have hg := List.getElem_mem h1
      rw [ho _ (hL.file _ (List.mem_append_left _ hg)) (hne _ hg)]
      have := hL.cont k (by simp; omega)
      rw [List.getElem_append_left h1, if_neg (by simp; omega), List.append_nil] at this
      exact this
    · have : k = G.length := by omega
      subst this
      rw [List.getElem_append_right (Nat.le_refl _), if_pos (by simp)]
      simp only [Nat.sub_self, List.getElem_cons_zero]
      rw [hc, hlast]
      show _ = pbs ((Rec.hd L.hd :: (L.rs ++ new)).map Rec.par) ++ t
      have e : (Rec.hd L.hd :: (L.rs ++ new)) = L.recs ++ new := rfl
      rw [e, List.map_append, pbs_append, List.append_assoc]
  · rw [ho i hi (by rintro rfl; exact hg _ (List.mem_append_right _ List.mem_cons_self) rfl)]
    refine hL.junk i hi fun g h => ?_
    rcases List.mem_append.1 h with h | h
    · exact hg g (List.mem_append_left _ h)
    · simp only [List.mem_singleton] at h
      subst h
      exact hg ⟨g.file, g.hd, g.rs ++ new⟩ (List.mem_append_right _ List.mem_cons_self)
  · have h := rd_more (new := new) (f := L.file) (h := L.hd) (rs := L.rs) (G := G) hL.read
    rw [h]; exact hr
theorem Lay.erase {D D' : Dk} {first many k : Nat} {G : List Sg} {s s1 : PL} (hL : Lay D first many G [] s) (hk : k < G.length) (hc : (D'.f (first + G[k].file)).b = []) (ho : ∀ i, i < many → i ≠ G[k].file → (D'.f (first + i)).b = (D.f (first + i)).b) (hr : rdAll true ⟨0, 0, []⟩ (G.eraseIdx k) = some s1) :
    Lay D' first many (G.eraseIdx k) [] s1 := by
  have hmem : ∀ g ∈ G.eraseIdx k, g ∈ G := fun g h => List.mem_of_mem_eraseIdx h
  have hnd : G.Pairwise fun a b => a.file ≠ b.file := List.pairwise_map.1 hL.nodup
  have hne : ∀ g ∈ G.eraseIdx k, g.file ≠ G[k].file := by
    rw [List.pairwise_iff_getElem] at hnd
    intro g hg
    rw [List.mem_eraseIdx_iff_getElem] at hg
    obtain ⟨j, hj, hjk, rfl⟩ := hg
    rcases Nat.lt_or_gt_of_ne hjk with h | h
    · exact hnd j k hj hk h
    · exact fun e => hnd k j hk hj h e.symm
  refine ⟨fun g hg => hL.file g (hmem g hg), List.pairwise_map.2 (hnd.sublist (List.eraseIdx_sublist _ _)), hL.ser.sublist (List.eraseIdx_sublist _ _), fun g hg => hL.ok g (hmem g hg), fun j hj => ?_, Tail.nil, fun i hi hg => ?_, hr⟩
  · have ht : (if j + 1 = (G.eraseIdx k).length then ([] : List UInt8) else []) = [] := by split <;> rfl
    rw [ht, List.append_nil]
    have hm := List.getElem_mem hj
    rw [ho _ (hL.file _ (hmem _ hm)) (hne _ hm)]
    obtain ⟨i, hi, he⟩ := List.getElem_of_mem (hmem _ hm)
    rw [← he]
    have := hL.cont i hi
    have ht2 : (if i + 1 = G.length then ([] : List UInt8) else []) = [] := by split <;> rfl
    rw [ht2, List.append_nil] at this; exact this
  · by_cases h : i = G[k].file
    · subst h; rw [hc]; exact Tail.nil
    · rw [ho i hi h]
      refine hL.junk i hi fun g hgm e => ?_
      obtain ⟨j, hj, rfl⟩ := List.getElem_of_mem hgm
      by_cases hjk : j = k
      · subst hjk; exact h e.symm
      · exact hg _ (List.mem_eraseIdx_iff_getElem.2 ⟨j, hj, hjk, rfl⟩) e
end Go.Sx.Tryz
namespace Go.Sx.Tryz
open Go Go.Sx Go.Proofs
set_option linter.unusedVariables false
def Tame (G : List Sg) : Prop := ∀ k, ∀ h : k < G.length, 0 < k → G[k].hd.anew = false
theorem Tame.safe {G : List Sg} {s : PL} (h : Tame G) (hr : rdAll true ⟨0, 0, []⟩ G = some s) : Safe G := by
  intro j k hjk hk ha
  rcases Nat.eq_zero_or_pos k with h0 | h0
  · have : j = 0 := by omega
    subst this; rw [List.drop_zero, hr]; rfl
  · rw [h k hk h0] at ha; cases ha
theorem Tame.mem {G : List Sg} {x : Sg} {L : List Sg} (h : Tame (x :: L)) : ∀ y ∈ L, y.hd.anew = false := by
  intro y hy
  obtain ⟨k, hk, rfl⟩ := List.getElem_of_mem hy
  exact h (k + 1) (by simpa using hk) (by omega)
theorem Tame.sub {G G' : List Sg} (h : Tame G) (hs : G'.Sublist G) : Tame G' := by
  cases G with
  | nil => cases hs; exact h
  | cons x L =>
    intro k hk h0
    cases hs with
    | cons _ hs => exact h.mem (G := L) _ (hs.subset (List.getElem_mem hk))
    | cons_cons _ hs =>
      obtain ⟨k, rfl⟩ : ∃ m, k = m + 1 := ⟨k - 1, by omega⟩
      exact h.mem (G := L) _ (hs.subset (by simp))
namespace Mid
variable {D : Dk} {J : Jn} {G : List Sg} {s : PL}
theorem segLen (h : Mid D J G s) : J.segs.length = G.length := by rw [h.segs, List.length_map]
theorem file_lt (h : Mid D J G s) : ∀ x ∈ J.segs, x.file < 32 := by
  intro x hx
  rw [h.segs] at hx
  obtain ⟨g, hg, rfl⟩ := List.mem_map.1 hx
  have := h.lay.file g hg
  have := h.rng
  show J.first + g.file < 32; omega
theorem fileAt_eq (h : Mid D J G s) {k : Nat} (hk : k < G.length) : fileAt J.segs k = J.first + G[k].file := by
  unfold fileAt
  rw [h.segs, List.getElem?_map, List.getElem?_eq_getElem hk]; rfl
theorem idxAt_eq (h : Mid D J G s) {k : Nat} (hk : k < G.length) : idxAt J.segs k = G[k].hd.i := by
  unfold idxAt
  rw [h.segs, List.getElem?_map, List.getElem?_eq_getElem hk]; rfl
theorem anewAt_eq (h : Mid D J G s) {k : Nat} (hk : k < G.length) : anewAt J.segs k = G[k].hd.anew := by
  unfold anewAt
  rw [h.segs, List.getElem?_map, List.getElem?_eq_getElem hk]; rfl
theorem anyFile (h : Mid D J G s) (i : Nat) : (J.segs.any fun x => x.file == J.first + i) = decide (∃ g ∈ G, g.file = i) := by
  rw [h.segs, List.any_map]
  rw [Bool.eq_iff_iff, List.any_eq_true, decide_eq_true_iff]
  constructor
  · rintro ⟨g, hg, he⟩
    exact ⟨g, hg, by simpa using he⟩
  · rintro ⟨g, hg, he⟩
    exact ⟨g, hg, by simpa using he⟩
theorem free (h : Mid D J G s) (hser : ∀ g ∈ G, g.hd.serial < 1000) : J.free = ((List.range J.many).filter fun i => !decide (∃ g ∈ G, g.file = i)).map (J.first + ·) := by
  have hfull : J.full = false := by
    unfold Jn.full
    rw [h.segs, List.getLast?_map]
    cases hg : G.getLast? with
    | none => rfl
    | some g =>
      have := hser g (List.mem_of_getLast? hg)
      show decide (MaxI ≤ g.hd.serial) = false
      exact decide_eq_false (by unfold MaxI; omega)
  unfold Jn.free
  rw [if_neg (by rw [hfull]; simp)]
  unfold Jn.freeL
  rw [List.filter_map]
  congr 1
  refine List.filter_congr fun i _ => ?_
  show (!(J.segs.any fun x => x.file == J.first + i)) = _
  rw [h.anyFile]
theorem free_some (h : Mid D J G s) (hser : ∀ g ∈ G, g.hd.serial < 1000) (hroom : G.length < J.many) : ∃ f l, J.free = (J.first + f) :: l ∧ f < J.many ∧ ∀ g ∈ G, g.file ≠ f := by
  rw [h.free hser]
  cases hf : (List.range J.many).filter fun i => !decide (∃ g ∈ G, g.file = i) with
  | nil =>
    exfalso
    rw [List.filter_eq_nil_iff] at hf
    have : (List.range J.many).length ≤ (G.map (·.file)).length := nodup_len List.nodup_range fun i hi => by
      have := hf i hi
      simp only [Bool.not_eq_true', decide_eq_false_iff_not] at this
      obtain ⟨g, hg, he⟩ := Classical.not_not.1 this
      exact List.mem_map.2 ⟨g, hg, he⟩
    simp at this; omega
  | cons f l =>
    have hm : f ∈ (List.range J.many).filter fun i => !decide (∃ g ∈ G, g.file = i) := by rw [hf]; exact List.mem_cons_self
    obtain ⟨h1, h2⟩ := List.mem_filter.1 hm
    simp only [Bool.not_eq_true', decide_eq_false_iff_not] at h2
    exact ⟨f, l.map (J.first + ·), rfl, List.mem_range.1 h1, fun g hg he => h2 ⟨g, hg, he⟩⟩
theorem free_len (h : Mid D J G s) (hser : ∀ g ∈ G, g.hd.serial < 1000) : J.free.length + G.length ≤ J.many := by
  rw [h.free hser, List.length_map]
  have h1 : (((List.range J.many).filter fun i => !decide (∃ g ∈ G, g.file = i)) ++ G.map (·.file)).length ≤ (List.range J.many).length := by
    refine nodup_len ?_ fun x hx => ?_
    · refine List.pairwise_append.2 ⟨List.Nodup.sublist List.filter_sublist List.nodup_range, h.lay.nodup, ?_⟩
      intro a ha b hb e
      subst e
      obtain ⟨_, h2⟩ := List.mem_filter.1 ha
      obtain ⟨g, hg, he⟩ := List.mem_map.1 hb
      simp only [Bool.not_eq_true', decide_eq_false_iff_not] at h2
      exact h2 ⟨g, hg, he⟩
    · rcases List.mem_append.1 hx with hx | hx
      · exact (List.mem_filter.1 hx).1
      · obtain ⟨g, hg, rfl⟩ := List.mem_map.1 hx
        exact List.mem_range.2 (h.lay.file g hg)
  simpa using h1
end Mid
theorem PL.begin_fix (s : PL) (J : Jn) (h : Hd) (o : Bool) : s.begin (J.fix h) o = s.begin h o := by
  have e : (J.fix h).i = h.i ∧ (J.fix h).t = h.t ∧ (J.fix h).anew = h.anew := by
    unfold Jn.fix; split <;> exact ⟨rfl, rfl, rfl⟩
  unfold PL.begin
  rw [e.1, e.2.1, e.2.2]
theorem fix_facts {D : Dk} {J : Jn} {G : List Sg} {s : PL} (hM : Mid D J G s) (h : Hd) : (J.fix h).i = h.i ∧ (J.fix h).t = h.t ∧ (J.fix h).anew = h.anew ∧ (∀ g, G.getLast? = some g → (J.fix h).serial = g.hd.serial + 1) ∧ (G = [] → (J.fix h).serial = h.serial) := by
  unfold Jn.fix
  rw [hM.segs, List.getLast?_map]
  cases hg : G.getLast? with
  | none => exact ⟨rfl, rfl, rfl, (fun g h => by cases h), fun _ => rfl⟩
  | some g => exact ⟨rfl, rfl, rfl, (fun g' h => by cases h; rfl), fun h => by rw [h] at hg; cases hg⟩
theorem getLast_ser {G : List Sg} (hp : G.Pairwise fun a b => a.hd.serial < b.hd.serial) {g : Sg} (hg : g ∈ G) {l : Sg} (hl : G.getLast? = some l) : g.hd.serial ≤ l.hd.serial := by
  obtain ⟨k, hk, rfl⟩ := List.getElem_of_mem hg
  rw [List.getLast?_eq_getElem?, List.getElem?_eq_getElem (by omega)] at hl
  cases hl
  rw [List.pairwise_iff_getElem] at hp
  rcases Nat.lt_or_ge k (G.length - 1) with h | h
  · exact Nat.le_of_lt (hp k (G.length - 1) hk (by omega) h)
  · have : k = G.length - 1 := by omega
    subst this; exact Nat.le_refl _
theorem start_out {D : Dk} {J : Jn} {G : List Sg} {s s1 : PL} {h : Hd} (hM : Mid D J G s) (hroom : G.length < J.many) (hser : ∀ g ∈ G, g.hd.serial < 999) (hok : (J.fix h).ok) (hr : ∀ f, rdAll true ⟨0, 0, []⟩ (G ++ [⟨f, J.fix h, []⟩]) = some s1) (hR : ∀ f, Roomy (G ++ [⟨f, J.fix h, []⟩]) J.many) (hR0 : Roomy G J.many) (hS0 : Safe G) (hS : ∀ f, Safe (G ++ [⟨f, J.fix h, []⟩])) (hfs : (J.fix h).serial < 1000) :
    (∃ f D', f < J.many ∧ J.start D h = (true, D', { J with segs := J.segs ++ [⟨J.first + f, J.fix h⟩] }) ∧ Mid D' { J with segs := J.segs ++ [⟨J.first + f, J.fix h⟩] } (G ++ [⟨f, J.fix h, []⟩]) s1 ∧ D'.armed = D.armed ∧ (D'.f (J.first + f)).b.length ≤ 60 ∧ ∀ i, i ≠ J.first + f → D'.f i = D.f i) ∨
    (∃ D', J.start D h = (false, D', { J with broken := true }) ∧ After J.first J.many D' fun s' => s' = s ∨ s' = s1) := by
  obtain ⟨f, l, hfree, hf, hnew⟩ := hM.free_some (fun g hg => by have := hser g hg; omega) hroom
  have hclean := hM.clean f hf hnew
  have hbl := (J.fix h).body_len hok
  have hpl := parcelB_len 1 (J.fix h).body
  have hn10 := natB_le (n := (J.fix h).body.length) (by omega)
  have hst : J.start D h = if (J.write D (J.first + f) (parcelB 1 (J.fix h).body)).1 = true then (true, (J.write D (J.first + f) (parcelB 1 (J.fix h).body)).2.1, (J.write D (J.first + f) (parcelB 1 (J.fix h).body)).2.2.put ⟨J.first + f, J.fix h⟩)
    else (false, (J.write D (J.first + f) (parcelB 1 (J.fix h).body)).2.1, (J.write D (J.first + f) (parcelB 1 (J.fix h).body)).2.2) := by
    unfold Jn.start; rw [hfree]
  have hserf : ∀ g ∈ G, g.hd.serial < (J.fix h).serial := by
    intro g hg
    obtain ⟨_, _, _, k4, _⟩ := fix_facts hM h
    cases hl : G.getLast? with
    | none => rw [List.getLast?_eq_none_iff] at hl; rw [hl] at hg; cases hg
    | some l =>
      have := getLast_ser hM.lay.ser hg hl
      rw [k4 l hl]; omega
  rcases write_cases (f := J.first + f) (x := parcelB 1 (J.fix h).body) hM.up hM.sound (by rw [hclean, hpl]; simp; omega) with ⟨D', w1, w2, w3, w4⟩ | ⟨D', J', w1, w2, w3, w4, w5⟩
  · left
    have hsame : ∀ i, i ≠ J.first + f → D'.f i = D.f i := fun i hi => by rw [w4]; exact set_ne _ _ hi
    have hthis : D'.f (J.first + f) = ⟨parcelB 1 (J.fix h).body, (parcelB 1 (J.fix h).body).length⟩ := by
      rw [w4, hclean]; exact set_same _ _ _
    have hst2 : J.start D h = (true, D', { J with segs := J.segs ++ [⟨J.first + f, J.fix h⟩] }) := by rw [hst, w1]; rfl
    refine ⟨f, D', hf, hst2, ⟨?_, hM.rng, ?_, hM.sound, w2, fun i hi hg => ?_, fun i hi => ?_⟩, w3, by rw [hthis]; show (parcelB 1 (J.fix h).body).length ≤ 60; have := natB_len 1 (J.fix h).body.length (by omega) (by decide); omega, hsame⟩
    · exact hM.lay.put hf hnew hserf hok (by show (D'.f (J.first + f)).b = _; rw [hthis]) (fun i hi hne => by show (D'.f (J.first + i)).b = _; rw [hsame _ (by omega)]) (hr f)
    · show J.segs ++ _ = _
      rw [List.map_append, hM.segs]; rfl
    · show (D'.f (J.first + i)).b = []
      have hif : i ≠ f := by rintro rfl; exact hg ⟨i, J.fix h, []⟩ (List.mem_append_right _ List.mem_cons_self) rfl
      rw [hsame _ (by omega)]
      exact hM.clean i hi fun g h => hg g (List.mem_append_left _ h)
    · show (D'.f (J.first + i)).s = (D'.f (J.first + i)).b.length
      by_cases hif : i = f
      · subst hif; rw [hthis]
      · rw [hsame _ (by omega)]; exact hM.sync i hi
  · right
    refine ⟨D', by rw [hst, w1]; simp only [w5]; rfl, w2, w3, fun i hi => ?_, fun D2 hc => ?_⟩
    · by_cases hif : i = f
      · subst hif
        rw [w4, set_same]
        show (D.f (J.first + i)).s ≤ ((D.f (J.first + i)).b ++ _).length
        rw [hM.sync i hi, List.length_append]; omega
      · rw [w4, set_ne _ _ (by omega), hM.sync i hi]; exact Nat.le_refl _
    · obtain ⟨m, c1, c2⟩ := crs_write hf hM.sync w4 hc
      rw [hclean, List.nil_append] at c1
      by_cases hm : (parcelB 1 (J.fix h).body).length ≤ m
      · rw [List.take_of_length_le hm] at c1
        refine ⟨_, [], s1, hM.lay.put hf hnew hserf hok c1 c2 (hr f), hR f, .inr rfl, fun g hg => ?_, hS f⟩
        rcases List.mem_append.1 hg with h | h
        · have := hser g h; omega
        · simp only [List.mem_singleton] at h
          subst h; exact hfs
      · refine ⟨G, [], s, ⟨hM.lay.file, hM.lay.nodup, hM.lay.ser, hM.lay.ok, fun k hk => ?_, Tail.nil, fun i hi hg => ?_, hM.lay.read⟩, hR0, .inl rfl, fun g hg => by have := hser g hg; omega, hS0⟩
        · have hg := List.getElem_mem hk
          rw [c2 _ (hM.lay.file _ hg) (hnew _ hg)]; exact hM.lay.cont k hk
        · by_cases hif : i = f
          · subst hif
            rw [c1]
            refine ⟨1, (J.fix h).body, (parcelB 1 (J.fix h).body).drop m, by decide, by omega, (List.take_append_drop _ _).symm, fun e => ?_⟩
            have := congrArg List.length e
            rw [List.length_drop, List.length_nil] at this; omega
          · rw [c2 i hi hif]; exact hM.lay.junk i hi hg
theorem more_out {D : Dk} {J : Jn} {G : List Sg} {L : Sg} {s s1 : PL} {new : List Rec} (hM : Mid D J (G ++ [L]) s) (hok : ∀ r ∈ new, r.ok) (hlen : L.rs.length + new.length < 29000) (hr : body L.hd.i s new = some s1) (hfit : (D.f (J.first + L.file)).b.length + (pbs (new.map Rec.par)).length ≤ 1048576) (hR : Roomy (G ++ [L]) J.many) (hT : Tame (G ++ [L])) (hser : ∀ g ∈ G ++ [L], g.hd.serial < 1000) :
    (∃ D', J.write D J.cur (pbs (new.map Rec.par)) = (true, D', J) ∧ Mid D' J (G ++ [⟨L.file, L.hd, L.rs ++ new⟩]) s1 ∧ D'.armed = D.armed ∧ (D'.f (J.first + L.file)).b.length = (D.f (J.first + L.file)).b.length + (pbs (new.map Rec.par)).length ∧ ∀ i, i ≠ J.first + L.file → D'.f i = D.f i) ∨
    (∃ D', J.write D J.cur (pbs (new.map Rec.par)) = (false, D', { J with broken := true }) ∧ After J.first J.many D' fun s' => ∃ j, j ≤ new.length ∧ body L.hd.i s (new.take j) = some s') := by
  have hcur : J.cur = J.first + L.file := by
    unfold Jn.cur
    rw [hM.segLen]
    have := hM.fileAt_eq (k := (G ++ [L]).length - 1) (by simp)
    rw [this]
    congr 2
    simp
  rw [hcur]
  have hmemL : L ∈ G ++ [L] := List.mem_append_right _ List.mem_cons_self
  have hf := hM.lay.file L hmemL
  have hne : ∀ i, i < J.many → i ≠ L.file → J.first + i ≠ J.first + L.file := fun i _ h => by omega
  have hheads : ∀ rs, (G ++ [(⟨L.file, L.hd, rs⟩ : Sg)]).map (fun g => (⟨J.first + g.file, g.hd⟩ : Seg)) = (G ++ [L]).map fun g => ⟨J.first + g.file, g.hd⟩ := fun rs => by simp
  have hroomy : ∀ rs, Roomy (G ++ [(⟨L.file, L.hd, rs⟩ : Sg)]) J.many := by
    intro rs
    rcases hR with h | ⟨k, hk, h⟩
    · left; simpa using h
    · right
      refine ⟨k, by simpa using hk, ?_⟩
      have e : ∀ j (hj : j < (G ++ [L]).length) (hj2 : j < (G ++ [(⟨L.file, L.hd, rs⟩ : Sg)]).length), (G ++ [(⟨L.file, L.hd, rs⟩ : Sg)])[j].hd = (G ++ [L])[j].hd := by
        intro j hj hj2
        rcases Nat.lt_or_ge j G.length with h1 | h1
        · rw [List.getElem_append_left h1, List.getElem_append_left h1]
        · have : j = G.length := by simp at hj; omega
          subst this
          rw [List.getElem_append_right (Nat.le_refl _), List.getElem_append_right (Nat.le_refl _)]
          simp
      rw [e _ hk, e k (by omega)]; exact h
  have htame : ∀ rs, Tame (G ++ [(⟨L.file, L.hd, rs⟩ : Sg)]) := by
    intro rs k hk h0
    have := hT k (by simpa using hk) h0
    rcases Nat.lt_or_ge k G.length with h1 | h1
    · rw [List.getElem_append_left h1] at this ⊢; exact this
    · have hkk : k = G.length := by simp at hk; omega
      subst hkk
      rw [List.getElem_append_right (Nat.le_refl _)] at this ⊢
      simpa using this
  rcases write_cases (f := J.first + L.file) (x := pbs (new.map Rec.par)) hM.up hM.sound hfit with ⟨D', w1, w2, w3, w4⟩ | ⟨D', J', w1, w2, w3, w4, w5⟩
  · left
    have hsame : ∀ i, i ≠ J.first + L.file → D'.f i = D.f i := fun i hi => by rw [w4]; exact set_ne _ _ hi
    have hthis : D'.f (J.first + L.file) = ⟨(D.f (J.first + L.file)).b ++ pbs (new.map Rec.par), ((D.f (J.first + L.file)).b ++ pbs (new.map Rec.par)).length⟩ := by
      rw [w4]; exact set_same _ _ _
    refine ⟨D', w1, ⟨?_, hM.rng, ?_, hM.sound, w2, fun i hi hg => ?_, fun i hi => ?_⟩, w3, by rw [hthis]; simp, hsame⟩
    · exact hM.lay.more hok hlen Tail.nil (by rw [hthis, List.append_nil]) (fun i hi hn => by rw [hsame _ (hne i hi hn)]) hr
    · rw [hheads]; exact hM.segs
    · have hif : i ≠ L.file := by rintro rfl; exact hg _ (List.mem_append_right _ List.mem_cons_self) rfl
      rw [hsame _ (hne i hi hif)]
      refine hM.clean i hi fun g h => ?_
      rcases List.mem_append.1 h with h | h
      · exact hg g (List.mem_append_left _ h)
      · simp only [List.mem_singleton] at h
        subst h; exact fun e => hif e.symm
    · by_cases hif : i = L.file
      · subst hif; rw [hthis]
      · rw [hsame _ (hne i hi hif)]; exact hM.sync i hi
  · right
    refine ⟨D', by rw [w1, w5], w2, w3, fun i hi => ?_, fun D2 hc => ?_⟩
    · by_cases hif : i = L.file
      · subst hif
        rw [w4, set_same]
        show (D.f (J.first + L.file)).s ≤ ((D.f (J.first + L.file)).b ++ _).length
        rw [hM.sync _ hf, List.length_append]; omega
      · rw [w4, set_ne _ _ (hne i hi hif), hM.sync i hi]; exact Nat.le_refl _
    · obtain ⟨m, c1, c2⟩ := crs_write hf hM.sync w4 hc
      obtain ⟨j, t, t1, t2, t3, _⟩ := pbs_take (new.map Rec.par) m fun p hp => by
        obtain ⟨r, hr, rfl⟩ := List.mem_map.1 hp; exact Rec.pok (hok r hr)
      rw [t1, ← List.map_take] at c1
      rw [List.length_map] at t3
      have hsome : ∃ sj, body L.hd.i s (new.take j) = some sj := by
        have h1 : new = new.take j ++ new.drop j := (List.take_append_drop _ _).symm
        rw [h1, body_append] at hr
        obtain ⟨sj, h2, _⟩ := Option.bind_eq_some_iff.1 hr
        exact ⟨sj, h2⟩
      obtain ⟨sj, hsj⟩ := hsome
      have hL2 := hM.lay.more (new := new.take j) (fun r hr => hok r (List.mem_of_mem_take hr)) (by rw [List.length_take]; omega) t2 c1 c2 hsj
      refine ⟨_, t, sj, hL2, hroomy _, ⟨j, t3, hsj⟩, fun g hg => ?_, (htame _).safe hL2.read⟩
      rcases List.mem_append.1 hg with h | h
      · exact hser g (List.mem_append_left _ h)
      · simp only [List.mem_singleton] at h
        subst h; exact hser L hmemL
theorem drop_out {D : Dk} {J : Jn} {G : List Sg} {s s1 : PL} {k : Nat} (hM : Mid D J G s) (hk : k < G.length) (hr : rdAll true ⟨0, 0, []⟩ (G.eraseIdx k) = some s1) (hR : Roomy G J.many) (hS : Safe G) (hser : ∀ g ∈ G, g.hd.serial < 1000) :
    (∃ D', J.dropAt D k = (true, D', { J with segs := J.segs.eraseIdx k }) ∧ Mid D' { J with segs := J.segs.eraseIdx k } (G.eraseIdx k) s1 ∧ D'.armed = D.armed ∧ ∀ i, (D'.f i).b.length ≤ (D.f i).b.length) ∨
    (∃ D', J.dropAt D k = (false, D', { J with broken := true }) ∧ After J.first J.many D' fun s' => s' = s) := by
  have hfa := hM.fileAt_eq hk
  have hf := hM.lay.file _ (List.getElem_mem hk)
  obtain ⟨D', h1, h2⟩ := drp_cases (i := fileAt J.segs k) hM.up
  rcases h2 with ⟨h2, h3, h4⟩ | ⟨h2, h3, h4, h5⟩
  · left
    rw [hfa] at h4
    have hsame : ∀ i, i ≠ J.first + G[k].file → D'.f i = D.f i := fun i hi => by rw [h4]; exact set_ne _ _ hi
    have hthis : D'.f (J.first + G[k].file) = ⟨[], 0⟩ := by rw [h4]; exact set_same _ _ _
    have he : J.dropAt D k = (true, D', { J with segs := J.segs.eraseIdx k }) := by
      unfold Jn.dropAt
      rw [h2, if_pos rfl, Jn.note_zero]
    refine ⟨D', he, ⟨?_, hM.rng, ?_, hM.sound, h3, fun i hi hg => ?_, fun i hi => ?_⟩, h1, fun i => ?_⟩
    · exact hM.lay.erase hk (by show (D'.f (J.first + G[k].file)).b = []; rw [hthis]) (fun i hi hn => by show (D'.f (J.first + i)).b = _; rw [hsame _ (by omega)]) hr
    · show J.segs.eraseIdx k = _
      rw [hM.segs, List.eraseIdx_eq_take_drop_succ, List.eraseIdx_eq_take_drop_succ, List.map_append, List.map_take, List.map_drop]
    · show (D'.f (J.first + i)).b = []
      by_cases hif : i = G[k].file
      · subst hif; rw [hthis]
      · rw [hsame _ (by omega)]
        refine hM.clean i hi fun g hgm e => ?_
        obtain ⟨j, hj, rfl⟩ := List.getElem_of_mem hgm
        by_cases hjk : j = k
        · subst hjk; exact hif e.symm
        · exact hg _ (List.mem_eraseIdx_iff_getElem.2 ⟨j, hj, hjk, rfl⟩) e
    · show (D'.f (J.first + i)).s = (D'.f (J.first + i)).b.length
      by_cases hif : i = G[k].file
      · subst hif; rw [hthis]; rfl
      · rw [hsame _ (by omega)]; exact hM.sync i hi
    · by_cases hif : i = J.first + G[k].file
      · subst hif; rw [hthis]; exact Nat.zero_le _
      · rw [hsame _ hif]; exact Nat.le_refl _
  · right
    refine ⟨D', ?_, h3, by rw [h1, h5], fun i hi => by rw [h4, hM.sync i hi]; exact Nat.le_refl _, fun D2 hc => ⟨G, [], s, hM.lay.same (crs_same hM.sync h4 hc), hR, rfl, hser, hS⟩⟩
    unfold Jn.dropAt
    rw [h2, if_neg (by show ¬ (70 : Nat) = 0; omega)]
    have : J.note 70 = { J with broken := true } := by unfold Jn.note; simp
    rw [this]
end Go.Sx.Tryz
