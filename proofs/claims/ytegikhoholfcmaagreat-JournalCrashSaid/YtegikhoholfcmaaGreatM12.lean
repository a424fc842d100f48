/-
  Part 12 of the proof: P05, P06, P07, V13, V9.
-/
import Derived.Test.YtegikhoholfcmaaGreatM11
namespace Go.Sx.Tryz
open Go Go.Sx Go.Proofs
set_option linter.unusedVariables false
def Strict (G : List Sg) : Prop := G.Pairwise fun a b => a.hd.i < b.hd.i
theorem roomy_strict {G : List Sg} {many : Nat} (h : Roomy G many) (hs : Strict G) (ht : Tame G) : G.length < many := by
  rcases h with h | ⟨k, hk, h⟩
  · exact h
  · have h1 := ht (k + 1) hk (by omega)
    unfold Strict at hs
    rw [List.pairwise_iff_getElem] at hs
    have h2 := hs k (k + 1) (by omega) hk (by omega)
    rcases h with h | h
    · rw [h1] at h; cases h
    · omega
theorem eraseIdx_split {G : List Sg} {k : Nat} (h : k + 1 < G.length) : G = G.take k ++ G[k] :: G[k + 1] :: G.drop (k + 2) ∧ G.eraseIdx k = G.take k ++ G[k + 1] :: G.drop (k + 2) := by
  have e : G.drop k = G[k] :: G[k + 1] :: G.drop (k + 2) := by rw [List.drop_eq_getElem_cons (by omega), List.drop_eq_getElem_cons h]
  refine ⟨?_, ?_⟩
  · conv => lhs; rw [← List.take_append_drop k G, e]
  · rw [List.eraseIdx_eq_take_drop_succ, List.drop_eq_getElem_cons h]
theorem read_idle {G : List Sg} {s : PL} {k : Nat} (h : k + 1 < G.length) (ht : Tame G) (hle : G[k + 1].hd.i ≤ G[k].hd.i) (hr : rdAll true ⟨0, 0, []⟩ G = some s) : rdAll true ⟨0, 0, []⟩ (G.eraseIdx k) = some s := by
  obtain ⟨h1, h2⟩ := eraseIdx_split h
  rw [h2]
  rw [h1] at hr
  refine idle_at (A := G[k]) (ht (k + 1) h (by omega)) (fun hne => ht k (by omega) ?_) hle (PL.Con.nil 0 0) hr
  rcases Nat.eq_zero_or_pos k with h0 | h0
  · subst h0; simp at hne
  · exact h0
theorem eraseIdx_last {G : List Sg} {k : Nat} (h : k + 1 < G.length) : (G.eraseIdx k).getLast? = G.getLast? := by
  obtain ⟨h1, h2⟩ := eraseIdx_split h
  rw [h2]
  conv => rhs; rw [h1]
  rw [List.getLast?_append, List.getLast?_append, List.getLast?_cons_cons]
theorem idleN_out : ∀ (k : Nat) {D : Dk} {J : Jn} {G : List Sg} {s : PL}, Mid D J G s → Tame G → k < G.length → Strict (G.drop k) → Roomy G J.many → (∀ g ∈ G, g.hd.serial < 1000) →
    (∃ D' J' G', J.idleN k D = (D', J') ∧ Mid D' J' G' s ∧ J' = { J with segs := J'.segs } ∧ Tame G' ∧ Strict G' ∧ G'.Sublist G ∧ G'.getLast? = G.getLast? ∧ Roomy G' J.many ∧ D'.armed = D.armed ∧ ∀ i, (D'.f i).b.length ≤ (D.f i).b.length) ∨
    (∃ D' J', J.idleN k D = (D', J') ∧ J' = { J with segs := J'.segs, broken := true } ∧ After J.first J.many D' fun s' => s' = s)
  | 0, D, J, G, s, hM, ht, hk, hst, hR, hser => .inl ⟨D, J, G, rfl, hM, rfl, ht, by rw [List.drop_zero] at hst; exact hst, List.Sublist.refl _, rfl, hR, rfl, fun i => Nat.le_refl _⟩
  | k + 1, D, J, G, s, hM, ht, hk, hst, hR, hser => by
    have hb : ¬ J.broken = true := by rw [hM.sound]; simp
    have hstep : J.idleN (k + 1) D = if isIdle J.segs k = true then Jn.idleN k (J.dropAt D k).2.2 (J.dropAt D k).2.1 else Jn.idleN k J D := by
      rw [Jn.idleN, if_neg hb]
    have hid : isIdle J.segs k = decide (G[k + 1].hd.i ≤ G[k].hd.i) := by
      unfold isIdle
      rw [hM.anewAt_eq hk, hM.idxAt_eq hk, hM.idxAt_eq (by omega), ht (k + 1) hk (by omega), Bool.false_or]
    by_cases hle : G[k + 1].hd.i ≤ G[k].hd.i
    · have hi : isIdle J.segs k = true := by rw [hid]; exact decide_eq_true hle
      rw [if_pos hi] at hstep
      have hr := read_idle hk ht hle hM.lay.read
      have hel : (G.eraseIdx k).length = G.length - 1 := List.length_eraseIdx_of_lt (by omega)
      rcases drop_out hM (k := k) (by omega) hr hR (ht.safe hM.lay.read) hser with ⟨D1, d1, d2, d3, d4⟩ | ⟨D1, d1, d2⟩
      · rw [d1] at hstep
        have hdr : (G.eraseIdx k).drop k = G.drop (k + 1) := by
          rw [List.eraseIdx_eq_take_drop_succ, List.drop_append_of_le_length (by rw [List.length_take]; omega), List.drop_of_length_le (by rw [List.length_take]; omega), List.nil_append]
        have hlen := hM.lay.len
        rcases idleN_out k d2 (ht.sub (List.eraseIdx_sublist _ _)) (by omega) (by rw [hdr]; exact hst) (.inl (by rw [hel]; show G.length - 1 < J.many; omega)) (fun g hg => hser g (List.mem_of_mem_eraseIdx hg)) with ⟨D', J', G', e1, e2, e3, e4, e5, e6, e7, e8, e9, e10⟩ | ⟨D', J', e1, e2, e3⟩
        · exact .inl ⟨D', J', G', by rw [hstep]; exact e1, e2, e3, e4, e5, e6.trans (List.eraseIdx_sublist _ _), by rw [e7, eraseIdx_last hk], e8, by rw [e9, d3], fun i => Nat.le_trans (e10 i) (d4 i)⟩
        · exact .inr ⟨D', J', by rw [hstep]; exact e1, e2, e3⟩
      · rw [d1] at hstep
        have hfix : Jn.idleN k { J with broken := true } D1 = (D1, { J with broken := true }) := by
          cases k with
          | zero => rfl
          | succ k => rw [Jn.idleN, if_pos rfl]
        exact .inr ⟨D1, { J with broken := true }, by rw [hstep]; exact hfix, rfl, d2⟩
    · have hi : ¬ isIdle J.segs k = true := by rw [hid]; simpa using hle
      rw [if_neg hi] at hstep
      rw [hstep]
      refine idleN_out k hM ht (by omega) ?_ hR hser
      unfold Strict at hst ⊢
      rw [List.drop_eq_getElem_cons (by omega)]
      refine List.pairwise_cons.2 ⟨fun g hg => ?_, hst⟩
      rw [List.drop_eq_getElem_cons hk] at hg hst
      rcases List.mem_cons.1 hg with rfl | hg
      · omega
      · have := (List.pairwise_cons.1 hst).1 g hg
        omega
theorem lastNew_tame {D : Dk} {J : Jn} {G : List Sg} {s : PL} (hM : Mid D J G s) (ht : Tame G) : ∀ k, k < G.length → lastNew J.segs k = 0
  | 0, _ => rfl
  | k + 1, h => by
    unfold lastNew
    rw [hM.anewAt_eq h, ht (k + 1) h (by omega)]
    exact lastNew_tame hM ht k (by omega)
theorem begun_tame {D : Dk} {J : Jn} {G : List Sg} {s : PL} (hM : Mid D J G s) (ht : Tame G) (hne : G ≠ []) : J.begun D = (D, J) := by
  have h0 : 0 < G.length := List.length_pos_iff.2 hne
  unfold Jn.begun
  rw [hM.segLen, lastNew_tame hM ht _ (by omega)]; rfl
theorem strict_one {G : List Sg} (h : G ≠ []) : Strict (G.drop (G.length - 1)) := by
  have h0 : 0 < G.length := List.length_pos_iff.2 h
  have : G.drop (G.length - 1) = [G[G.length - 1]] := by
    rw [List.drop_eq_getElem_cons (by omega), List.drop_of_length_le (by omega)]
  unfold Strict
  rw [this]; exact List.pairwise_singleton _ _
theorem idle_out {D : Dk} {J : Jn} {G : List Sg} {s : PL} (hM : Mid D J G s) (ht : Tame G) (hne : G ≠ []) (hR : Roomy G J.many) (hser : ∀ g ∈ G, g.hd.serial < 1000) :
    (∃ D' J' G', J.idle D = (D', J') ∧ Mid D' J' G' s ∧ J' = { J with segs := J'.segs } ∧ Tame G' ∧ Strict G' ∧ G'.Sublist G ∧ G'.getLast? = G.getLast? ∧ Roomy G' J.many ∧ D'.armed = D.armed ∧ ∀ i, (D'.f i).b.length ≤ (D.f i).b.length) ∨
    (∃ D' J', J.idle D = (D', J') ∧ J' = { J with segs := J'.segs, broken := true } ∧ After J.first J.many D' fun s' => s' = s) := by
  have hb := begun_tame hM ht hne
  have hi : J.idle D = J.idleN (G.length - 1) D := by
    unfold Jn.idle
    rw [hb]
    simp only
    rw [if_neg (by rw [hM.sound]; simp), hM.segLen]
  rw [hi]
  have h0 : 0 < G.length := List.length_pos_iff.2 hne
  exact idleN_out _ hM ht (by omega) (strict_one hne) hR hser
structure Rest (D : Dk) (J : Jn) (G : List Sg) (s : PL) : Prop where
  mid : Mid D J G s
  ne : G ≠ []
  room : G.length < J.many
  mono : G.Pairwise fun a b => a.hd.i ≤ b.hd.i
  tame : Tame G
theorem Strict.mono {G : List Sg} (h : Strict G) : G.Pairwise fun a b => a.hd.i ≤ b.hd.i := h.imp fun h => Nat.le_of_lt h
structure Bnd (D : Dk) (J : Jn) (G : List Sg) (s : PL) (n : Nat) : Prop where
  fl : ∀ i, i < J.many → (D.f (J.first + i)).b.length ≤ 3000 * n + 100
  sr : ∀ g ∈ G, g.hd.serial ≤ n
  rl : ∀ g ∈ G, g.rs.length ≤ 5 * n
  el : s.es.length ≤ 5 * n
  li : s.last.1 ≤ 10 * n
  ft : s.ft ≤ 10 * n
  et : ∀ e ∈ s.es, e.t ≤ 10 * n
theorem PL.last_mem (s : PL) : s.es = [] ∧ s.last = (s.fi, s.ft) ∨ ∃ e ∈ s.es, s.last = (e.i, e.t) := by
  cases h : s.es.getLast? with
  | none =>
    rw [List.getLast?_eq_none_iff] at h
    exact .inl ⟨h, PL.last_nil h⟩
  | some e =>
    refine .inr ⟨e, List.mem_of_getLast? h, ?_⟩
    unfold PL.last; rw [h]
theorem Bnd.lt {D : Dk} {J : Jn} {G : List Sg} {s : PL} {n : Nat} (h : Bnd D J G s n) : s.last.2 ≤ 10 * n := by
  rcases s.last_mem with ⟨_, e⟩ | ⟨x, hx, e⟩
  · rw [e]; exact h.ft
  · rw [e]; exact h.et x hx
theorem Bnd.fi {D : Dk} {J : Jn} {G : List Sg} {s : PL} {n : Nat} (h : Bnd D J G s n) (hc : s.Con) : s.fi ≤ 10 * n := by
  have := hc.last; have := h.li; omega
theorem Bnd.up {D : Dk} {J : Jn} {G : List Sg} {s : PL} {n m : Nat} (h : Bnd D J G s n) (hm : n ≤ m) : Bnd D J G s m :=
  ⟨fun i hi => by have := h.fl i hi; omega, fun g hg => by have := h.sr g hg; omega, fun g hg => by have := h.rl g hg; omega, by have := h.el; omega, by have := h.li; omega, by have := h.ft; omega, fun e he => by have := h.et e he; omega⟩
theorem begin_last {s : PL} (hc : s.Con) (n : Nat) : s.begin ⟨n, false, s.last.1, s.last.2⟩ false = some s := by
  unfold PL.begin
  rw [if_neg (by simp)]
  show s.to s.last.1 s.last.2 = some s
  rw [PL.to_of hc (PL.has_last hc), PL.cutAt_last hc]
theorem snoc_of_ne {G : List Sg} (h : G ≠ []) : ∃ G0 L, G = G0 ++ [L] := ⟨G.dropLast, G.getLast h, (List.dropLast_concat_getLast h).symm⟩
theorem ents_pbs (l : List Ent) : entB l = pbs ((l.map Rec.en).map Rec.par) := by
  unfold entB pbs
  rw [List.map_map, List.flatMap_map]; rfl
theorem read_last {D : Dk} {J : Jn} {G : List Sg} {s : PL} (hM : Mid D J G s) (hne : G ≠ []) (f : Nat) : rdAll true ⟨0, 0, []⟩ (G ++ [⟨f, J.fix ⟨0, false, s.last.1, s.last.2⟩, []⟩]) = some s := by
  rw [rd_head hne hM.lay.read, PL.begin_fix, begin_last hM.lay.con]
theorem Tame.put {G : List Sg} {f : Nat} {h : Hd} (ht : Tame G) (ha : h.anew = false) : Tame (G ++ [⟨f, h, []⟩]) := by
  intro k hk h0
  rcases Nat.lt_or_ge k G.length with h1 | h1
  · rw [List.getElem_append_left h1]; exact ht k h1 h0
  · have : k = G.length := by simp at hk; omega
    subst this
    rw [List.getElem_append_right (Nat.le_refl _)]
    simpa using ha
theorem append_out {D : Dk} {J : Jn} {G : List Sg} {s : PL} {n : Nat} {l : List Ent} (hX : Rest D J G s) (hB : Bnd D J G s n) (hn : n < 100) (hlog : J.log.last.1.i = s.last.1 ∧ J.log.last.1.t = s.last.2) (hl : l.length ≤ 4) (hok : okAll s.last l = true) (hli : ∀ e ∈ l, e.t ≤ 10 * n + 10 ∧ e.i ≤ 10 * n + 10) :
    (∃ D' J' G', J.appD D l = (0, D', J') ∧ J' = { J with segs := J'.segs } ∧ Rest D' J' G' { s with es := s.es ++ l } ∧ Bnd D' J' G' { s with es := s.es ++ l } (n + 1) ∧ D'.armed = D.armed) ∨
    (∃ D' J', J.appD D l = (70, D', J') ∧ J' = { J with segs := J'.segs, broken := true } ∧ After J.first J.many D' fun s' => ∃ j, j ≤ l.length ∧ s' = { s with es := s.es ++ l.take j }) := by
  have hM := hX.mid
  have hcon := hM.lay.con
  have hser : ∀ g ∈ G, g.hd.serial < 999 := fun g hg => by have := hB.sr g hg; omega
  have hbr : ¬ J.broken = true := by rw [hM.sound]; simp
  have hlp : (J.log.last.1.i, J.log.last.1.t) = s.last := by rw [hlog.1, hlog.2]
  have hae : J.appD D l = if (J.turn D).2.broken = true then (70, J.turn D) else
      if ((J.turn D).2.write (J.turn D).1 (J.turn D).2.cur (entB l)).1 = true then (0, ((J.turn D).2.write (J.turn D).1 (J.turn D).2.cur (entB l)).2)
      else (70, ((J.turn D).2.write (J.turn D).1 (J.turn D).2.cur (entB l)).2) := by rw [Jn.appD, if_neg hbr, hlp, if_neg (by rw [hok]; simp)]
  have hentl : (entB l).length ≤ 2240 := by
    have := entB_len (okAll_ok hok)
    have h2 : l.length * 560 ≤ 4 * 560 := Nat.mul_le_mul_right _ hl
    omega
  have hrec : ∀ r ∈ l.map Rec.en, r.ok := by
    intro r hr
    obtain ⟨e, he, rfl⟩ := List.mem_map.1 hr
    exact okAll_ok hok e he
  have wr : ∀ (D1 : Dk) (J1 : Jn) (G0 : List Sg) (L : Sg), Mid D1 J1 (G0 ++ [L]) s → (G0 ++ [L]).length < J1.many → (G0 ++ [L]).Pairwise (fun a b => a.hd.i ≤ b.hd.i) → Tame (G0 ++ [L]) → J1 = { J with segs := J1.segs } → D1.armed = D.armed → (∀ g ∈ G0 ++ [L], g.hd.serial ≤ n + 1) → (∀ g ∈ G0 ++ [L], g.rs.length ≤ 5 * n) → (∀ i, i < J.many → (D1.f (J.first + i)).b.length ≤ 3000 * n + 100) → J.turn D = (D1, J1) →
      (∃ D' J' G', J.appD D l = (0, D', J') ∧ J' = { J with segs := J'.segs } ∧ Rest D' J' G' { s with es := s.es ++ l } ∧ Bnd D' J' G' { s with es := s.es ++ l } (n + 1) ∧ D'.armed = D.armed) ∨
      (∃ D' J', J.appD D l = (70, D', J') ∧ J' = { J with segs := J'.segs, broken := true } ∧ After J.first J.many D' fun s' => ∃ j, j ≤ l.length ∧ s' = { s with es := s.es ++ l.take j }) := by
    intro D1 J1 G0 L hM1 hroom1 hmono1 htame1 hJ1 harm hsr hrl hfl hturn
    have hf1 : J1.first = J.first := by rw [hJ1]
    have hm1 : J1.many = J.many := by rw [hJ1]
    have hmemL : L ∈ G0 ++ [L] := List.mem_append_right _ List.mem_cons_self
    have hLf := hM1.lay.file L hmemL
    have hbody : body L.hd.i s (l.map Rec.en) = some { s with es := s.es ++ l } := body_ents hok
    have hLlen := hrl L hmemL
    rw [hturn] at hae
    simp only at hae
    rw [if_neg (by rw [hM1.sound]; simp), ents_pbs] at hae
    rcases more_out hM1 hrec (by rw [List.length_map]; omega) hbody (by rw [← ents_pbs, hf1]; have := hfl _ (by rw [← hm1]; exact hLf); omega) (.inl hroom1) htame1 (fun g hg => by have := hsr g hg; omega) with ⟨D', w1, w2, w3, w4, w5⟩ | ⟨D', w1, w2⟩
    · left
      rw [w1] at hae
      refine ⟨D', J1, _, hae, hJ1, ⟨w2, by simp, by simpa using hroom1, ?_, ?_⟩, ⟨fun i hi => ?_, fun g hg => ?_, fun g hg => ?_, ?_, ?_, ?_, fun e he => ?_⟩, by rw [w3, harm]⟩
      · refine List.pairwise_append.2 ⟨(List.pairwise_append.1 hmono1).1, List.pairwise_singleton _ _, ?_⟩
        intro a ha b hb
        simp only [List.mem_singleton] at hb
        subst hb
        exact (List.pairwise_append.1 hmono1).2.2 a ha L List.mem_cons_self
      · intro k hk h0
        have := htame1 k (by simpa using hk) h0
        rcases Nat.lt_or_ge k G0.length with h1 | h1
        · rw [List.getElem_append_left h1] at this ⊢; exact this
        · have hkk : k = G0.length := by simp at hk; omega
          subst hkk
          rw [List.getElem_append_right (Nat.le_refl _)] at this ⊢
          simpa using this
      · rw [hm1] at hi
        have h1 := hfl i hi
        rw [hf1]
        by_cases hif : i = L.file
        · subst hif
          rw [hf1] at w4
          rw [w4, ← ents_pbs]; omega
        · rw [w5 _ (by rw [hf1]; omega)]; omega
      · rcases List.mem_append.1 hg with h | h
        · exact hsr g (List.mem_append_left _ h)
        · simp only [List.mem_singleton] at h
          subst h; exact hsr L hmemL
      · rcases List.mem_append.1 hg with h | h
        · have := hrl g (List.mem_append_left _ h); omega
        · simp only [List.mem_singleton] at h
          subst h
          show (L.rs ++ l.map Rec.en).length ≤ _
          rw [List.length_append, List.length_map]; omega
      · show (s.es ++ l).length ≤ _
        have := hB.el
        rw [List.length_append]; omega
      · rcases PL.last_mem { s with es := s.es ++ l } with ⟨h, _⟩ | ⟨e, he, h⟩
        · have h : s.es ++ l = [] := h
          obtain ⟨h3, h4⟩ := List.append_eq_nil_iff.1 h
          have : (PL.last { s with es := s.es ++ l }).1 = s.last.1 := by rw [h4, List.append_nil]
          rw [this]; have := hB.li; omega
        · rw [h]
          have he : e ∈ s.es ++ l := he
          show e.i ≤ _
          rcases List.mem_append.1 he with he | he
          · obtain ⟨k, hk, rfl⟩ := List.getElem_of_mem he
            have := hcon k hk
            have := hcon.last
            have := hB.li
            omega
          · have := (hli e he).2; omega
      · have := hB.ft
        show s.ft ≤ _; omega
      · have he : e ∈ s.es ++ l := he
        rcases List.mem_append.1 he with he | he
        · have := hB.et e he; omega
        · have := (hli e he).1; omega
    · right
      rw [w1] at hae
      refine ⟨D', { J1 with broken := true }, hae, by rw [hJ1], ?_⟩
      rw [hf1, hm1] at w2
      refine w2.mono fun s' ⟨j, h1, h2⟩ => ?_
      rw [List.length_map] at h1
      refine ⟨j, h1, ?_⟩
      rw [← List.map_take] at h2
      have h3 : okAll s.last (l.take j) = true := by
        have h4 : l = l.take j ++ l.drop j := (List.take_append_drop _ _).symm
        rw [h4, okAll_append, Bool.and_eq_true] at hok
        exact hok.1
      rw [body_ents h3] at h2
      exact (Option.some.inj h2).symm
  obtain ⟨G0, L, hGL⟩ := snoc_of_ne hX.ne
  by_cases hturn : J.each ≤ (D.f J.cur).b.length ∧ 1 < J.free.length
  · have ht : J.turn D = (J.start D ⟨0, false, s.last.1, s.last.2⟩).2 := by
      unfold Jn.turn; rw [if_pos hturn, hlog.1, hlog.2]
    have hfl := hM.free_len (fun g hg => by have := hser g hg; omega)
    obtain ⟨x1, x2, x3, x4, x5⟩ := fix_facts hM ⟨0, false, s.last.1, s.last.2⟩
    have hsL : (J.fix ⟨0, false, s.last.1, s.last.2⟩).serial ≤ n + 1 := by
      have hgl : G.getLast? = some L := by rw [hGL]; simp
      rw [x4 L hgl]
      have := hB.sr L (List.mem_of_getLast? hgl); omega
    have hfok : (J.fix ⟨0, false, s.last.1, s.last.2⟩).ok := by
      have := hB.li
      have := hB.lt
      exact ⟨by unfold MaxI; omega, by rw [x1]; unfold MaxI; show s.last.1 ≤ _; omega, by rw [x2]; unfold MaxI; show s.last.2 ≤ _; omega⟩
    have hlen2 : ∀ f, (G ++ [(⟨f, J.fix ⟨0, false, s.last.1, s.last.2⟩, []⟩ : Sg)]).length < J.many := fun f => by
      rw [List.length_append, List.length_singleton]
      have := hturn.2
      omega
    have htm : ∀ f, Tame (G ++ [(⟨f, J.fix ⟨0, false, s.last.1, s.last.2⟩, []⟩ : Sg)]) := fun f => hX.tame.put x3
    rcases start_out hM hX.room hser hfok (read_last hM hX.ne) (fun f => .inl (hlen2 f)) (.inl hX.room) (hX.tame.safe hM.lay.read) (fun f => (htm f).safe (read_last hM hX.ne f)) (by omega) with ⟨f, D1, f1, f2, f3, f4, f5, f6⟩ | ⟨D1, f1, f2⟩
    · rw [f2] at ht
      refine wr D1 _ G ⟨f, J.fix ⟨0, false, s.last.1, s.last.2⟩, []⟩ f3 (hlen2 f) ?_ (htm f) rfl f4 (fun g hg => ?_) (fun g hg => ?_) (fun i hi => ?_) ht
      · refine List.pairwise_append.2 ⟨hX.mono, List.pairwise_singleton _ _, ?_⟩
        intro a ha b hb
        simp only [List.mem_singleton] at hb
        subst hb
        show a.hd.i ≤ (J.fix _).i
        rw [x1]
        show a.hd.i ≤ s.last.1
        have hmono := hX.mono
        have hr := hM.lay.read
        rw [hGL] at hr hmono ha
        have hLl : L.hd.i ≤ s.last.1 := by
          have hrs : ∃ o g0, g0.Con ∧ rdSeg o g0 L = some s := by
            rcases Decidable.em (G0 = []) with h0 | h0
            · subst h0
              have hr : rdAll true ⟨0, 0, []⟩ [L] = some s := hr
              refine ⟨true, ⟨0, 0, []⟩, PL.Con.nil 0 0, ?_⟩
              obtain ⟨g1, h1, h2⟩ := Option.bind_eq_some_iff.1 hr
              rw [h1]; exact h2
            · rw [rdAll_append _ _ _ _ h0] at hr
              obtain ⟨g1, h1, h2⟩ := Option.bind_eq_some_iff.1 hr
              obtain ⟨g2, h3, h4⟩ := Option.bind_eq_some_iff.1 h2
              refine ⟨false, g1, rdAll_con (PL.Con.nil 0 0) h1, ?_⟩
              rw [h3]; exact h4
          obtain ⟨o, g0, hc0, hrs⟩ := hrs
          obtain ⟨g1, k1, k2, k3, k4, k5, k6, k7⟩ := rdSeg_info hc0 hrs
          obtain ⟨m1, m2, m3, m4, m5⟩ := body_pre k3 k4 k2
          have := m1.last
          omega
        rcases List.mem_append.1 ha with h | h
        · have := (List.pairwise_append.1 hmono).2.2 a h L List.mem_cons_self
          omega
        · simp only [List.mem_singleton] at h
          subst h; exact hLl
      · rcases List.mem_append.1 hg with h | h
        · have := hB.sr g h; omega
        · simp only [List.mem_singleton] at h
          subst h; exact hsL
      · rcases List.mem_append.1 hg with h | h
        · exact hB.rl g h
        · simp only [List.mem_singleton] at h
          subst h; exact Nat.zero_le _
      · by_cases hif : i = f
        · subst hif; omega
        · rw [f6 _ (by omega)]; exact hB.fl i hi
    · rw [f1] at ht
      right
      rw [ht] at hae
      simp only at hae
      rw [if_pos trivial] at hae
      refine ⟨D1, _, hae, rfl, f2.mono fun s' h => ⟨0, Nat.zero_le _, ?_⟩⟩
      rw [List.take_zero, List.append_nil]
      rcases h with h | h <;> exact h
  · have ht : J.turn D = (D, J) := by unfold Jn.turn; rw [if_neg hturn]
    subst hGL
    exact wr D J G0 L hM hX.room hX.mono hX.tame rfl rfl (fun g hg => by have := hB.sr g hg; omega) hB.rl hB.fl ht
end Go.Sx.Tryz
namespace Go.Sx.Tryz
open Go Go.Sx Go.Proofs
set_option linter.unusedVariables false
theorem newest_le {G0 : List Sg} {L : Sg} {s : PL} (hr : rdAll true ⟨0, 0, []⟩ (G0 ++ [L]) = some s) : L.hd.i ≤ s.last.1 := by
  have hrs : ∃ o g0, g0.Con ∧ rdSeg o g0 L = some s := by
    rcases Decidable.em (G0 = []) with h0 | h0
    · subst h0
      have hr : rdAll true ⟨0, 0, []⟩ [L] = some s := hr
      refine ⟨true, ⟨0, 0, []⟩, PL.Con.nil 0 0, ?_⟩
      obtain ⟨g1, h1, h2⟩ := Option.bind_eq_some_iff.1 hr
      rw [h1]; exact h2
    · rw [rdAll_append _ _ _ _ h0] at hr
      obtain ⟨g1, h1, h2⟩ := Option.bind_eq_some_iff.1 hr
      obtain ⟨g2, h3, h4⟩ := Option.bind_eq_some_iff.1 h2
      refine ⟨false, g1, rdAll_con (PL.Con.nil 0 0) h1, ?_⟩
      rw [h3]; exact h4
  obtain ⟨o, g0, hc0, hrs⟩ := hrs
  obtain ⟨g1, k1, k2, k3, k4, k5, k6, k7⟩ := rdSeg_info hc0 hrs
  obtain ⟨m1, m2, m3, m4, m5⟩ := body_pre k3 k4 k2
  have := m1.last
  omega
theorem PL.has_cut {g : PL} {m i t : Nat} (h : (g.cutAt m).has i t) : g.has i t := by
  refine ⟨h.1, h.2.1, fun hlt => ?_⟩
  obtain ⟨e, he, het⟩ := h.2.2 hlt
  refine ⟨e, ?_, het⟩
  have he : (g.es.take (m - g.fi))[i - g.fi - 1]? = some e := he
  rw [List.getElem?_take] at he
  split at he
  · exact he
  · cases he
theorem begin_cut {s : PL} (hc : s.Con) {m : Nat} (h1 : s.fi ≤ m) (h2 : m ≤ s.last.1) (n : Nat) : s.begin ⟨n, false, (s.cutAt m).last.1, (s.cutAt m).last.2⟩ false = some (s.cutAt m) := by
  have hl := (hc.cutAt m).last
  have hlen : (s.cutAt m).es.length = m - s.fi := by
    have := hc.last
    show (s.es.take (m - s.fi)).length = _
    rw [List.length_take]; omega
  have hf : (s.cutAt m).fi = s.fi := rfl
  unfold PL.begin
  rw [if_neg (by simp)]
  show s.to (s.cutAt m).last.1 (s.cutAt m).last.2 = _
  rw [PL.to_of hc (PL.has_cut (PL.has_last (hc.cutAt m)))]
  have : (s.cutAt m).last.1 = m := by omega
  rw [this]
theorem Lg.pure_upto (g : Lg) (fr : Nat) : (g.upto fr).pure = g.pure.cutAt (fr - 1) := by
  unfold Lg.upto Lg.pure PL.cutAt
  simp only [List.map_take]
theorem Bnd.cutAt {D : Dk} {J : Jn} {G : List Sg} {s : PL} {n m : Nat} (h : Bnd D J G s n) (hc : s.Con) : (s.cutAt m).es.length ≤ 5 * n ∧ (s.cutAt m).last.1 ≤ 10 * n ∧ (s.cutAt m).ft ≤ 10 * n ∧ ∀ e ∈ (s.cutAt m).es, e.t ≤ 10 * n := by
  have h1 : (s.cutAt m).es.length ≤ s.es.length := by show (s.es.take _).length ≤ _; rw [List.length_take]; omega
  have hl := (hc.cutAt m).last
  have hl2 := hc.last
  have hf : (s.cutAt m).fi = s.fi := rfl
  have := h.el
  have := h.li
  exact ⟨by omega, by omega, h.ft, fun e he => h.et e (List.mem_of_mem_take he)⟩
theorem sub_bnd {D D' : Dk} {J J' : Jn} {G G' : List Sg} {s s' : PL} {n : Nat} (h : Bnd D J G s n) (hf : J'.first = J.first) (hm : J'.many = J.many) (hfl : ∀ i, i < J.many → (D'.f (J.first + i)).b.length ≤ 3000 * n + 100) (hg : ∀ g ∈ G', g.hd.serial ≤ n ∧ g.rs.length ≤ 5 * n) (hs : s'.es.length ≤ 5 * n ∧ s'.last.1 ≤ 10 * n ∧ s'.ft ≤ 10 * n ∧ ∀ e ∈ s'.es, e.t ≤ 10 * n) : Bnd D' J' G' s' n :=
  ⟨fun i hi => by rw [hf]; exact hfl i (by rw [← hm]; exact hi), fun g h => (hg g h).1, fun g h => (hg g h).2, hs.1, hs.2.1, hs.2.2.1, hs.2.2.2⟩
theorem another_eq {J : Jn} {D : Dk} {h : Hd} (hf : J.free ≠ []) : J.another D h = ((if (J.start D h).1 = true then 0 else 70), (J.start D h).2) := by unfold Jn.another; rw [if_neg hf]
theorem Mid.relog {D : Dk} {J : Jn} {G : List Sg} {s : PL} (h : Mid D J G s) (l : Lg) : Mid D { J with log := l } G s := ⟨h.lay, h.rng, h.segs, h.sound, h.up, h.clean, h.sync⟩
theorem cut_out {D : Dk} {J : Jn} {G : List Sg} {s : PL} {n fr : Nat} (hX : Rest D J G s) (hB : Bnd D J G s n) (hn : n < 100) (hlog : J.log.pure = s) (h1 : s.fi < fr) (h2 : fr ≤ s.last.1 + 1) :
    (∃ D' J' G', J.cutJ D fr = (0, D', J') ∧ J' = { J with segs := J'.segs, log := J.log.upto fr } ∧ Rest D' J' G' (s.cutAt (fr - 1)) ∧ Bnd D' J' G' (s.cutAt (fr - 1)) (n + 1) ∧ D'.armed = D.armed) ∨
    (∃ D' J', J.cutJ D fr = (70, D', J') ∧ After J.first J.many D' fun s' => s' = s ∨ s' = s.cutAt (fr - 1)) := by
  have hM := hX.mid
  have hcon := hM.lay.con
  have hser : ∀ g ∈ G, g.hd.serial < 999 := fun g hg => by have := hB.sr g hg; omega
  have hbr : ¬ J.broken = true := by rw [hM.sound]; simp
  have hpl := Lg.pure_last J.log
  rw [hlog] at hpl
  have hl1 : J.log.last.1.i = s.last.1 := by rw [hpl]
  have hfi : J.log.fi = s.fi := by rw [← hlog]; rfl
  have hmay : ¬ mayB J.log.fi J.log.last.1.i fr = false := by
    rw [hl1, hfi]
    unfold mayB
    simp only [Bool.and_eq_false_iff, decide_eq_false_iff_not]
    omega
  have hpu := Lg.pure_upto J.log fr
  rw [hlog] at hpu
  have hpul := Lg.pure_last (J.log.upto fr)
  rw [hpu] at hpul
  obtain ⟨G0, L, hGL⟩ := snoc_of_ne hX.ne
  have hidx : idxAt J.segs (J.segs.length - 1) = L.hd.i := by
    have h0 : 0 < G.length := List.length_pos_iff.2 hX.ne
    rw [hM.segLen, hM.idxAt_eq (by omega)]
    subst hGL
    simp
  have hce : J.cutJ D fr = if fr ≤ L.hd.i then
      (if (J.another D ⟨0, false, (s.cutAt (fr - 1)).last.1, (s.cutAt (fr - 1)).last.2⟩).1 ≠ 0 then J.another D ⟨0, false, (s.cutAt (fr - 1)).last.1, (s.cutAt (fr - 1)).last.2⟩ else
      ((Jn.idle { (J.another D ⟨0, false, (s.cutAt (fr - 1)).last.1, (s.cutAt (fr - 1)).last.2⟩).2.2 with log := J.log.upto fr } (J.another D ⟨0, false, (s.cutAt (fr - 1)).last.1, (s.cutAt (fr - 1)).last.2⟩).2.1).2.ans,
       Jn.idle { (J.another D ⟨0, false, (s.cutAt (fr - 1)).last.1, (s.cutAt (fr - 1)).last.2⟩).2.2 with log := J.log.upto fr } (J.another D ⟨0, false, (s.cutAt (fr - 1)).last.1, (s.cutAt (fr - 1)).last.2⟩).2.1))
      else if (J.write D J.cur (parcelB 3 (natB fr))).1 = true then
        (0, (J.write D J.cur (parcelB 3 (natB fr))).2.1, { (J.write D J.cur (parcelB 3 (natB fr))).2.2 with log := J.log.upto fr })
      else (70, (J.write D J.cur (parcelB 3 (natB fr))).2) := by
    rw [Jn.cutJ, if_neg hbr, if_neg hmay, hidx]
    rw [show (J.log.upto fr).last.1.i = (s.cutAt (fr - 1)).last.1 by rw [hpul], show (J.log.upto fr).last.1.t = (s.cutAt (fr - 1)).last.2 by rw [hpul]]
    rfl
  have hbc := hB.cutAt (m := fr - 1) hcon
  have hcl : (s.cutAt (fr - 1)).last.1 = fr - 1 := by
    have hl := (hcon.cutAt (fr - 1)).last
    have hlen : (s.cutAt (fr - 1)).es.length = fr - 1 - s.fi := by
      have := hcon.last
      show (s.es.take (fr - 1 - s.fi)).length = _
      rw [List.length_take]; omega
    have hf : (s.cutAt (fr - 1)).fi = s.fi := rfl
    omega
  have hct : (s.cutAt (fr - 1)).last.2 ≤ 10 * n := by
    rcases PL.last_mem (s.cutAt (fr - 1)) with ⟨_, e⟩ | ⟨x, hx, e⟩
    · rw [e]; exact hbc.2.2.1
    · rw [e]; exact hbc.2.2.2 x hx
  by_cases hle : fr ≤ L.hd.i
  · rw [if_pos hle] at hce
    obtain ⟨x1, x2, x3, x4, x5⟩ := fix_facts hM ⟨0, false, (s.cutAt (fr - 1)).last.1, (s.cutAt (fr - 1)).last.2⟩
    have hgl : G.getLast? = some L := by rw [hGL]; simp
    have hsL : (J.fix ⟨0, false, (s.cutAt (fr - 1)).last.1, (s.cutAt (fr - 1)).last.2⟩).serial ≤ n + 1 := by
      rw [x4 L hgl]
      have := hB.sr L (List.mem_of_getLast? hgl); omega
    have hfok : (J.fix ⟨0, false, (s.cutAt (fr - 1)).last.1, (s.cutAt (fr - 1)).last.2⟩).ok :=
      ⟨by unfold MaxI; omega, by rw [x1]; unfold MaxI; have := hbc.2.1; show (s.cutAt (fr - 1)).last.1 ≤ _; omega, by rw [x2]; unfold MaxI; show (s.cutAt (fr - 1)).last.2 ≤ _; omega⟩
    have hrd : ∀ f, rdAll true ⟨0, 0, []⟩ (G ++ [⟨f, J.fix ⟨0, false, (s.cutAt (fr - 1)).last.1, (s.cutAt (fr - 1)).last.2⟩, []⟩]) = some (s.cutAt (fr - 1)) := fun f => by
      rw [rd_head hX.ne hM.lay.read, PL.begin_fix, begin_cut hcon (by omega) (by omega)]
    have htm : ∀ f, Tame (G ++ [(⟨f, J.fix ⟨0, false, (s.cutAt (fr - 1)).last.1, (s.cutAt (fr - 1)).last.2⟩, []⟩ : Sg)]) := fun f => hX.tame.put x3
    have hrm : ∀ f, Roomy (G ++ [(⟨f, J.fix ⟨0, false, (s.cutAt (fr - 1)).last.1, (s.cutAt (fr - 1)).last.2⟩, []⟩ : Sg)]) J.many := fun f => by
      have h0 : 0 < G.length := List.length_pos_iff.2 hX.ne
      refine .inr ⟨G.length - 1, by simp; omega, .inr ?_⟩
      rw [List.getElem_append_left (show G.length - 1 < G.length by omega)]
      have e1 : G.length - 1 + 1 = G.length := by omega
      rw [List.getElem_append_right (by omega)]
      have e2 : (G[G.length - 1]'(by omega)) = L := by
        rw [List.getLast?_eq_getElem?, List.getElem?_eq_getElem (by omega)] at hgl
        exact Option.some.inj hgl
      rw [e2]
      simp only [e1, Nat.sub_self, List.getElem_cons_zero]
      rw [x1]
      show (s.cutAt (fr - 1)).last.1 ≤ _
      omega
    obtain ⟨f0, l0, hfr0, _, _⟩ := hM.free_some (fun g hg => by have := hser g hg; omega) hX.room
    have han := another_eq (J := J) (D := D) (h := ⟨0, false, (s.cutAt (fr - 1)).last.1, (s.cutAt (fr - 1)).last.2⟩) (by rw [hfr0]; simp)
    rcases start_out hM hX.room hser hfok hrd hrm (.inl hX.room) (hX.tame.safe hM.lay.read) (fun f => (htm f).safe (hrd f)) (by omega) with ⟨f, D1, f1, f2, f3, f4, f5, f6⟩ | ⟨D1, f1, f2⟩
    · rw [f2] at han
      rw [han] at hce
      simp only [if_true, ne_eq, not_true_eq_false, if_false] at hce
      have hser2 : ∀ g ∈ G ++ [(⟨f, J.fix ⟨0, false, (s.cutAt (fr - 1)).last.1, (s.cutAt (fr - 1)).last.2⟩, []⟩ : Sg)], g.hd.serial ≤ n + 1 ∧ g.rs.length ≤ 5 * (n + 1) := by
        intro g hg
        rcases List.mem_append.1 hg with h | h
        · have := hB.sr g h; have := hB.rl g h; omega
        · simp only [List.mem_singleton] at h
          subst h; exact ⟨hsL, Nat.zero_le _⟩
      have hM2 := f3.relog (J.log.upto fr)
      rcases idle_out hM2 (htm f) (by simp) (hrm f) (fun g hg => by have := (hser2 g hg).1; omega) with ⟨D', J', G', e1, e2, e3, e4, e5, e6, e7, e8, e9, e10⟩ | ⟨D', J', e1, e2, e3⟩
      · left
        rw [e1] at hce
        have hans : J'.ans = 0 := by unfold Jn.ans; rw [e2.sound]; simp
        simp only [hans] at hce
        have hf' : J'.first = J.first := by rw [e3]
        have hm' : J'.many = J.many := by rw [e3]
        have hne' : G' ≠ [] := by
          intro h; rw [h] at e7; simp at e7
        refine ⟨D', J', G', hce, by rw [e3], ⟨e2, hne', by rw [hm']; exact roomy_strict e8 e5 e4, e5.mono, e4⟩, sub_bnd (hB.up (Nat.le_succ n)) hf' hm' (fun i hi => ?_) (fun g hg => hser2 g (e6.subset hg)) ⟨by have := hbc.1; omega, by have := hbc.2.1; omega, by have := hbc.2.2.1; omega, fun e he => by have := hbc.2.2.2 e he; omega⟩, by rw [e9, f4]⟩
        refine Nat.le_trans (e10 _) ?_
        by_cases hif : i = f
        · subst hif; omega
        · rw [f6 _ (by omega)]; have := hB.fl i hi; omega
      · right
        rw [e1] at hce
        have hans : J'.ans = 70 := by unfold Jn.ans; rw [e2]; simp
        simp only [hans] at hce
        exact ⟨D', J', hce, e3.mono fun s' h => .inr h⟩
    · right
      rw [f1] at han
      rw [han] at hce
      have h70 : (if (false, D1, ({ J with broken := true } : Jn)).1 = true then 0 else 70) = 70 := rfl
      simp only [Bool.false_eq_true, if_false] at hce
      rw [if_pos (by decide)] at hce
      exact ⟨D1, _, hce, f2⟩
  · rw [if_neg hle] at hce
    have hpb : parcelB 3 (natB fr) = pbs ([Rec.ct fr].map Rec.par) := by
      show _ = pbs [(3, natB fr)]
      rw [pbs_cons]; show _ = _ ++ []; rw [List.append_nil]
    have hplen := parcelB_len 3 (natB fr)
    have hnl := natB_le (n := fr) (by have := hB.li; omega)
    have hnl2 := natB_len 1 (natB fr).length (by omega) (by decide)
    rw [hpb] at hce
    have hbody : body L.hd.i s [Rec.ct fr] = some (s.cutAt (fr - 1)) := by
      rw [body_cons]
      have : bodyStep L.hd.i s (.ct fr) = some (s.cutAt (fr - 1)) := by
        simp only [bodyStep]
        rw [if_pos ⟨by omega, by unfold mayB; simp only [Bool.and_eq_true, decide_eq_true_eq]; omega⟩]; rfl
      rw [this]; rfl
    subst hGL
    have hmemL : L ∈ G0 ++ [L] := List.mem_append_right _ List.mem_cons_self
    have hLl := hB.rl L hmemL
    have hLf := hM.lay.file L hmemL
    have hpl2 : (pbs ([Rec.ct fr].map Rec.par)).length ≤ 20 := by rw [← hpb, hplen]; omega
    rcases more_out hM (new := [Rec.ct fr]) (fun r hr => by simp only [List.mem_singleton] at hr; subst hr; show fr < 18446744073709551616; have := hB.li; omega) (by simp; omega) hbody (by have := hB.fl _ hLf; omega) (.inl hX.room) hX.tame (fun g hg => by have := hser g hg; omega) with ⟨D', w1, w2, w3, w4, w5⟩ | ⟨D', w1, w2⟩
    · left
      rw [w1] at hce
      simp only [if_true] at hce
      have hM2 := w2.relog (J.log.upto fr)
      refine ⟨D', _, _, hce, rfl, ⟨hM2, by simp, by have := hX.room; simpa using this, ?_, ?_⟩, sub_bnd (hB.up (Nat.le_succ n)) rfl rfl (fun i hi => ?_) (fun g hg => ?_) ⟨by have := hbc.1; omega, by have := hbc.2.1; omega, by have := hbc.2.2.1; omega, fun e he => by have := hbc.2.2.2 e he; omega⟩, w3⟩
      · refine List.pairwise_append.2 ⟨(List.pairwise_append.1 hX.mono).1, List.pairwise_singleton _ _, ?_⟩
        intro a ha b hb
        simp only [List.mem_singleton] at hb
        subst hb
        exact (List.pairwise_append.1 hX.mono).2.2 a ha L List.mem_cons_self
      · intro k hk h0
        have := hX.tame k (by simpa using hk) h0
        rcases Nat.lt_or_ge k G0.length with h1 | h1
        · rw [List.getElem_append_left h1] at this ⊢; exact this
        · have hkk : k = G0.length := by simp at hk; omega
          subst hkk
          rw [List.getElem_append_right (Nat.le_refl _)] at this ⊢
          simpa using this
      · have h3 := hB.fl i hi
        by_cases hif : i = L.file
        · subst hif; rw [w4]; omega
        · rw [w5 _ (by omega)]; omega
      · rcases List.mem_append.1 hg with h | h
        · have := hB.sr g (List.mem_append_left _ h); have := hB.rl g (List.mem_append_left _ h); omega
        · simp only [List.mem_singleton] at h
          subst h
          have := hB.sr L hmemL
          refine ⟨by show L.hd.serial ≤ _; omega, ?_⟩
          show (L.rs ++ [Rec.ct fr]).length ≤ _
          rw [List.length_append, List.length_singleton]; omega
    · right
      rw [w1] at hce
      simp only [Bool.false_eq_true, if_false] at hce
      refine ⟨D', _, hce, w2.mono fun s' ⟨j, h1, h2⟩ => ?_⟩
      have h1 : j = 0 ∨ j = 1 := by simp at h1; omega
      rcases h1 with rfl | rfl
      · left
        rw [List.take_zero] at h2
        exact (Option.some.inj h2).symm
      · right
        have h2 : body L.hd.i s [Rec.ct fr] = some s' := h2
        rw [hbody] at h2
        exact (Option.some.inj h2).symm
theorem Safe.drop {G : List Sg} (h : Safe G) (m : Nat) : Safe (G.drop m) := by
  intro j k hjk hk ha
  rw [List.length_drop] at hk
  rw [List.getElem_drop] at ha
  have := h (m + j) (m + k) (by omega) (by omega) ha
  rw [List.drop_drop]; exact this
theorem dropN_out : ∀ (m : Nat) {D : Dk} {J : Jn} {G : List Sg} {s : PL}, Mid D J G s → m < G.length → (∀ j, j ≤ m → rdAll true ⟨0, 0, []⟩ (G.drop j) = some s) → Roomy G J.many → Safe G → (∀ g ∈ G, g.hd.serial < 1000) →
    (∃ D', J.dropN m D = (D', { J with segs := J.segs.drop m }) ∧ Mid D' { J with segs := J.segs.drop m } (G.drop m) s ∧ (m = 0 ∨ (G.drop m).length < J.many) ∧ D'.armed = D.armed ∧ ∀ i, (D'.f i).b.length ≤ (D.f i).b.length) ∨
    (∃ D' J', J.dropN m D = (D', J') ∧ J' = { J with segs := J'.segs, broken := true } ∧ After J.first J.many D' fun s' => s' = s)
  | 0, D, J, G, s, hM, hm, hr, hR, hS, hser => .inl ⟨D, by rw [List.drop_zero]; rfl, by rw [List.drop_zero, List.drop_zero]; exact hM, .inl rfl, rfl, fun i => Nat.le_refl _⟩
  | m + 1, D, J, G, s, hM, hm, hr, hR, hS, hser => by
    have he : G.eraseIdx 0 = G.drop 1 := by cases G <;> rfl
    have hes : J.segs.eraseIdx 0 = J.segs.drop 1 := by cases J.segs <;> rfl
    have hlen := hM.lay.len
    rcases drop_out hM (k := 0) (by omega) (by rw [he]; exact hr 1 (by omega)) hR hS hser with ⟨D1, d1, d2, d3, d4⟩ | ⟨D1, d1, d2⟩
    · have hst : J.dropN (m + 1) D = Jn.dropN m { J with segs := J.segs.drop 1 } D1 := by
        rw [Jn.dropN, d1, if_pos rfl, hes]
      rw [he, hes] at d2
      have hl1 : (G.drop 1).length < J.many := by rw [List.length_drop]; omega
      rcases dropN_out m d2 (by rw [List.length_drop]; omega) (fun j hj => by rw [List.drop_drop]; exact hr (1 + j) (by omega)) (.inl hl1) (hS.drop 1) (fun g hg => hser g (List.mem_of_mem_drop hg)) with ⟨D', e1, e2, e3, e4, e5⟩ | ⟨D', J', e1, e2, e3⟩
      · left
        simp only [List.drop_drop] at e1 e2 e3
        rw [show 1 + m = m + 1 by omega] at e1 e2 e3
        refine ⟨D', by rw [hst]; exact e1, e2, .inr ?_, by rw [e4, d3], fun i => Nat.le_trans (e5 i) (d4 i)⟩
        rw [List.length_drop]; omega
      · exact .inr ⟨D', J', by rw [hst]; exact e1, e2, e3⟩
    · right
      refine ⟨D1, { J with broken := true }, ?_, rfl, d2⟩
      rw [Jn.dropN, d1]; rfl
theorem chain_some : ∀ {G : List Sg} {s : PL}, Tame G → (G.Pairwise fun a b => a.hd.i ≤ b.hd.i) → rdAll true ⟨0, 0, []⟩ G = some s → ∀ j, j < G.length → (rdAll true ⟨0, 0, []⟩ (G.drop j)).isSome = true
  | [], s, _, _, _, j, h => by simp at h
  | [A], s, ht, hm, hr, j, h => by
    have : j = 0 := by simp at h; omega
    subst this; rw [List.drop_zero, hr]; rfl
  | A :: B :: L, s, ht, hm, hr, j, h => by
    cases j with
    | zero => rw [List.drop_zero, hr]; rfl
    | succ j =>
      have hmem := ht.mem (G := L)
      have hm2 := List.pairwise_cons.1 (List.pairwise_cons.1 hm).2
      obtain ⟨h1, _⟩ := trim_first (PL.Con.nil 0 0) (hmem B List.mem_cons_self) (fun x hx => ⟨hmem x (List.mem_cons_of_mem _ hx), hm2.1 x hx⟩) hr
      rw [List.drop_succ_cons]
      exact chain_some (ht.sub (List.sublist_cons_self _ _)) (List.pairwise_cons.1 hm).2 h1 j (by simpa using h)
theorem anew_read {g0 : PL} {G : List Sg} {N : Sg} (hb : N.hd.anew = true) (hn : N.rs = []) (hr : G = [] ∨ (rdAll true g0 G).isSome = true) : rdAll true g0 (G ++ [N]) = some ⟨N.hd.i, N.hd.t, []⟩ := by
  have h1 : ∀ o g, rdAll o g [N] = some ⟨N.hd.i, N.hd.t, []⟩ := by
    intro o g
    show (rdSeg o g N).bind (fun g => some g) = _
    unfold rdSeg
    rw [begin_anew g o hb, hn]; rfl
  rcases Decidable.em (G = []) with rfl | hne
  · exact h1 _ _
  · rw [rdAll_append _ _ _ _ hne]
    have := hr.resolve_left hne
    obtain ⟨g, hg⟩ := Option.isSome_iff_exists.1 this
    rw [hg]; exact h1 _ _
theorem begin_out {D : Dk} {J : Jn} {G : List Sg} {s : PL} {n i t : Nat} (hX : Rest D J G s) (hB : Bnd D J G s n) (hn : n < 100) (hi : i ≤ 10 * n + 10) (ht : t ≤ 10 * n + 10) :
    (∃ D' J' G', J.beginJ D i t = (0, D', J') ∧ J' = { J with segs := J'.segs, log := ⟨i, t, []⟩ } ∧ Rest D' J' G' ⟨i, t, []⟩ ∧ Bnd D' J' G' ⟨i, t, []⟩ (n + 1) ∧ D'.armed = D.armed) ∨
    (∃ D' J', J.beginJ D i t = (70, D', J') ∧ After J.first J.many D' fun s' => s' = s ∨ s' = ⟨i, t, []⟩) := by
  have hM := hX.mid
  have hser : ∀ g ∈ G, g.hd.serial < 999 := fun g hg => by have := hB.sr g hg; omega
  have hbr : ¬ J.broken = true := by rw [hM.sound]; simp
  obtain ⟨x1, x2, x3, x4, x5⟩ := fix_facts hM ⟨0, true, i, t⟩
  obtain ⟨G0, L, hGL⟩ := snoc_of_ne hX.ne
  have hgl : G.getLast? = some L := by rw [hGL]; simp
  have hsL : (J.fix ⟨0, true, i, t⟩).serial ≤ n + 1 := by
    rw [x4 L hgl]
    have := hB.sr L (List.mem_of_getLast? hgl); omega
  have hfok : (J.fix ⟨0, true, i, t⟩).ok := ⟨by unfold MaxI; omega, by rw [x1]; unfold MaxI; show i ≤ _; omega, by rw [x2]; unfold MaxI; show t ≤ _; omega⟩
  have hch := chain_some hX.tame hX.mono hM.lay.read
  have hrdj : ∀ f j, j ≤ G.length → rdAll true ⟨0, 0, []⟩ ((G ++ [(⟨f, J.fix ⟨0, true, i, t⟩, []⟩ : Sg)]).drop j) = some ⟨i, t, []⟩ := by
    intro f j hj
    rw [List.drop_append_of_le_length hj]
    have h1 := anew_read (g0 := ⟨0, 0, []⟩) (G := G.drop j) (N := ⟨f, J.fix ⟨0, true, i, t⟩, []⟩) x3 rfl ?_
    · rw [h1, x1, x2]
    · rcases Nat.lt_or_ge j G.length with h | h
      · exact .inr (hch j h)
      · exact .inl (List.drop_of_length_le h)
  have hrd : ∀ f, rdAll true ⟨0, 0, []⟩ (G ++ [(⟨f, J.fix ⟨0, true, i, t⟩, []⟩ : Sg)]) = some ⟨i, t, []⟩ := fun f => by have := hrdj f 0 (Nat.zero_le _); rwa [List.drop_zero] at this
  have hsafe : ∀ f, Safe (G ++ [(⟨f, J.fix ⟨0, true, i, t⟩, []⟩ : Sg)]) := by
    intro f j k hjk hk _
    rw [hrdj f j (by simp at hk; omega)]; rfl
  have hrm : ∀ f, Roomy (G ++ [(⟨f, J.fix ⟨0, true, i, t⟩, []⟩ : Sg)]) J.many := fun f => by
    have h0 : 0 < G.length := List.length_pos_iff.2 hX.ne
    refine .inr ⟨G.length - 1, by simp; omega, .inl ?_⟩
    have e1 : G.length - 1 + 1 = G.length := by omega
    rw [List.getElem_append_right (by omega)]
    simp only [e1, Nat.sub_self, List.getElem_cons_zero]
    exact x3
  obtain ⟨f0, l0, hfr0, _, _⟩ := hM.free_some (fun g hg => by have := hser g hg; omega) hX.room
  have han := another_eq (J := J) (D := D) (h := ⟨0, true, i, t⟩) (by rw [hfr0]; simp)
  have hbe : J.beginJ D i t = if (J.another D ⟨0, true, i, t⟩).1 ≠ 0 then J.another D ⟨0, true, i, t⟩ else
        ((Jn.dropN ((J.another D ⟨0, true, i, t⟩).2.2.segs.length - 1) { (J.another D ⟨0, true, i, t⟩).2.2 with log := ⟨i, t, []⟩ } (J.another D ⟨0, true, i, t⟩).2.1).2.ans,
         Jn.dropN ((J.another D ⟨0, true, i, t⟩).2.2.segs.length - 1) { (J.another D ⟨0, true, i, t⟩).2.2 with log := ⟨i, t, []⟩ } (J.another D ⟨0, true, i, t⟩).2.1) := by
    rw [Jn.beginJ, if_neg hbr, if_neg (by unfold MaxI; omega)]
  rcases start_out hM hX.room hser hfok hrd hrm (.inl hX.room) (hX.tame.safe hM.lay.read) hsafe (by omega) with ⟨f, D1, f1, f2, f3, f4, f5, f6⟩ | ⟨D1, f1, f2⟩
  · rw [f2] at han
    rw [han] at hbe
    simp only [if_true, ne_eq, not_true_eq_false, if_false] at hbe
    have hM2 := f3.relog ⟨i, t, []⟩
    have hsl : (J.segs ++ [(⟨J.first + f, J.fix ⟨0, true, i, t⟩⟩ : Seg)]).length - 1 = G.length := by rw [List.length_append, hM.segLen]; simp
    rw [hsl] at hbe
    rcases dropN_out G.length hM2 (by simp) (fun j hj => hrdj f j hj) (hrm f) (hsafe f) (fun g hg => by
      rcases List.mem_append.1 hg with h | h
      · have := hser g h; omega
      · simp only [List.mem_singleton] at h
        subst h; show (J.fix ⟨0, true, i, t⟩).serial < 1000; omega) with ⟨D', e1, e2, e3, e4, e5⟩ | ⟨D', J', e1, e2, e3⟩
    · left
      have hd : (G ++ [(⟨f, J.fix ⟨0, true, i, t⟩, []⟩ : Sg)]).drop G.length = [⟨f, J.fix ⟨0, true, i, t⟩, []⟩] := List.drop_left
      rw [hd] at e2
      rw [e1] at hbe
      have hans : Jn.ans { ({ ({ J with segs := J.segs ++ [(⟨J.first + f, J.fix ⟨0, true, i, t⟩⟩ : Seg)] } : Jn) with log := ⟨i, t, []⟩ } : Jn) with segs := (J.segs ++ [(⟨J.first + f, J.fix ⟨0, true, i, t⟩⟩ : Seg)]).drop G.length } = 0 := by
        unfold Jn.ans; rw [e2.sound]; simp
      simp only [hans] at hbe
      refine ⟨D', _, _, hbe, rfl, ⟨e2, by simp, by have := hM.rng.2.1; show 1 < J.many; omega, List.pairwise_singleton _ _, ?_⟩, ⟨fun j hj => ?_, fun g hg => ?_, fun g hg => ?_, Nat.zero_le _, by show i ≤ _; omega, by show t ≤ _; omega, fun e he => by cases he⟩, by rw [e4, f4]⟩
      · intro k hk h0; simp at hk; omega
      · refine Nat.le_trans (e5 _) ?_
        show (D1.f (J.first + j)).b.length ≤ _
        by_cases hjf : j = f
        · subst hjf; omega
        · rw [f6 _ (by omega)]; have := hB.fl j hj; omega
      · simp only [List.mem_singleton] at hg
        subst hg; exact hsL
      · simp only [List.mem_singleton] at hg
        subst hg; exact Nat.zero_le _
    · right
      rw [e1] at hbe
      have hans : J'.ans = 70 := by unfold Jn.ans; rw [e2]; simp
      simp only [hans] at hbe
      exact ⟨D', J', hbe, e3.mono fun s' h => .inr h⟩
  · right
    rw [f1] at han
    rw [han] at hbe
    simp only [Bool.false_eq_true, if_false] at hbe
    rw [if_pos (by decide)] at hbe
    exact ⟨D1, _, hbe, f2⟩
end Go.Sx.Tryz
namespace Go.Sx.Tryz
open Go Go.Sx Go.Proofs
set_option linter.unusedVariables false
def Raised (s s' : PL) (ix : Nat) : Prop := s' = s ∨ ∃ i t, i ≤ ix ∧ s.has i t ∧ s' = s.lift i t
theorem PL.lift_self {s : PL} {i t : Nat} (hh : s.has i t) (hi : i = s.fi) : s.lift i t = s := by
  subst hi
  unfold PL.lift
  rw [hh.2.1 rfl, Nat.sub_self, List.drop_zero]
theorem raised_fn {s s' : PL} {ix : Nat} (hc : s.Con) (h : Raised s s' ix) : s.raised s'.fi s'.ft ix = (s', true) := by
  rcases h with rfl | ⟨i, t, h1, h2, rfl⟩
  · rw [PL.raised, if_pos ⟨rfl, rfl⟩]
  · rcases Nat.lt_or_ge s.fi i with hlt | hge
    · have h3 : ¬ (i = s.fi ∧ t = s.ft) := by omega
      have e1 : (s.lift i t).fi = i := rfl
      have e2 : (s.lift i t).ft = t := rfl
      rw [PL.raised, e1, e2, if_neg h3]
      obtain ⟨e, he, het⟩ := h2.2.2 hlt
      obtain ⟨hk, rfl⟩ := List.getElem?_eq_some_iff.1 he
      have hf : s.es.findIdx? (fun e => e.i == i && (e.t == t && decide (i ≤ ix))) = some (i - s.fi - 1) := by
        rw [List.findIdx?_eq_some_iff_getElem]
        refine ⟨hk, ?_, fun j hj => ?_⟩
        · have := hc _ hk
          simp only [Bool.and_eq_true, beq_iff_eq, decide_eq_true_eq]
          exact ⟨by omega, het, h1⟩
        · have := hc j (by omega)
          simp only [Bool.and_eq_true, beq_iff_eq, not_and]
          intro h; omega
      rw [hf]
      show ((⟨i, t, s.es.drop (i - s.fi - 1 + 1)⟩ : PL), true) = _
      rw [show i - s.fi - 1 + 1 = i - s.fi by omega]; rfl
    · have hi : i = s.fi := by have := h2.1; omega
      rw [PL.lift_self h2 hi, PL.raised, if_pos ⟨rfl, rfl⟩]
theorem lift_lift {s : PL} {a b c d : Nat} (h1 : s.has a b) (h2 : (s.lift a b).has c d) : s.has c d ∧ (s.lift a b).lift c d = s.lift c d := by
  have hac : a ≤ c := h2.1
  have hfa := h1.1
  refine ⟨⟨by omega, fun h => ?_, fun hlt => ?_⟩, ?_⟩
  · have ha : a = s.fi := by omega
    have : d = b := h2.2.1 (show c = a by omega)
    rw [this, h1.2.1 ha]
  · rcases Nat.lt_or_ge a c with h | h
    · obtain ⟨e, he, het⟩ := h2.2.2 h
      refine ⟨e, ?_, het⟩
      have he : (s.es.drop (a - s.fi))[c - a - 1]? = some e := he
      rw [List.getElem?_drop, show a - s.fi + (c - a - 1) = c - s.fi - 1 by omega] at he
      exact he
    · have hca : c = a := by omega
      have : d = b := h2.2.1 hca
      subst hca this
      exact h1.2.2 hlt
  · show (⟨c, d, (s.es.drop (a - s.fi)).drop (c - a)⟩ : PL) = ⟨c, d, s.es.drop (c - s.fi)⟩
    rw [List.drop_drop, show a - s.fi + (c - a) = c - s.fi by omega]
theorem Raised.trans {s s1 s2 : PL} {ix : Nat} (h1 : Raised s s1 ix) (h2 : Raised s1 s2 ix) : Raised s s2 ix := by
  rcases h1 with rfl | ⟨a, b, k1, k2, rfl⟩
  · exact h2
  · rcases h2 with rfl | ⟨c, d, l1, l2, rfl⟩
    · exact .inr ⟨a, b, k1, k2, rfl⟩
    · obtain ⟨m1, m2⟩ := lift_lift k2 l2
      exact .inr ⟨c, d, l1, m1, m2⟩
theorem Lg.pure_lift {g : Lg} {h : Hd} (hc : g.pure.Con) (hh : g.pure.has h.i h.t) : (g.lift h).pure = g.pure.lift h.i h.t := by
  have hfi := hh.1
  have hlen := hh.len
  have e1 : g.pure.fi = g.fi := rfl
  have e2 : g.pure.es = g.es.map (·.1) := rfl
  rw [e1] at hfi hlen
  rw [e2, List.length_map] at hlen
  have hci : ∀ k (hk : k < g.es.length), (g.es[k]).1.i = g.fi + k + 1 := by
    intro k hk
    have := hc k (by rw [e2, List.length_map]; exact hk)
    simp only [e2, List.getElem_map] at this
    exact this
  have hm : (match g.es.findIdx? (fun x => decide (h.i < x.1.i)) with | some k => k | none => g.es.length) = h.i - g.fi := by
    rcases Nat.lt_or_ge (h.i - g.fi) g.es.length with hlt | hge
    · have hf : g.es.findIdx? (fun x => decide (h.i < x.1.i)) = some (h.i - g.fi) := by
        rw [List.findIdx?_eq_some_iff_getElem]
        refine ⟨hlt, ?_, fun j hj => ?_⟩
        · have := hci _ hlt
          exact decide_eq_true (by omega)
        · have := hci j (by omega)
          simp only [decide_eq_true_eq]; omega
      rw [hf]
    · have hf : g.es.findIdx? (fun x => decide (h.i < x.1.i)) = none := by
        rw [List.findIdx?_eq_none_iff]
        intro x hx
        obtain ⟨k, hk, rfl⟩ := List.getElem_of_mem hx
        have := hci k hk
        exact decide_eq_false (by omega)
      rw [hf]
      show g.es.length = _
      omega
  have e : (g.lift h).es = g.es.drop (h.i - g.fi) := congrArg (fun n => g.es.drop n) hm
  show (⟨h.i, h.t, (g.lift h).es.map (·.1)⟩ : PL) = ⟨h.i, h.t, (g.es.map (·.1)).drop (h.i - g.fi)⟩
  rw [e, List.map_drop]
theorem trimN_out (ix : Nat) : ∀ (k : Nat) {D : Dk} {J : Jn} {G : List Sg} {s : PL}, Mid D J G s → G.length = k + 1 → G.length < J.many → (G.Pairwise fun a b => a.hd.i ≤ b.hd.i) → Tame G → J.log.pure = s → (∀ g ∈ G, g.hd.serial < 1000) →
    (∃ D' J' G', J.trimN ix k D = (0, D', J') ∧ (∀ x ∈ J'.log.es, x ∈ J.log.es) ∧ J' = { J with segs := J'.segs, log := J'.log } ∧ Rest D' J' G' J'.log.pure ∧ G'.Sublist G ∧ Raised s J'.log.pure ix ∧ D'.armed = D.armed ∧ ∀ i, (D'.f i).b.length ≤ (D.f i).b.length) ∨
    (∃ D' J', J.trimN ix k D = (70, D', J') ∧ Raised s J'.log.pure ix ∧ (∀ x ∈ J'.log.es, x ∈ J.log.es) ∧ After J.first J.many D' fun s' => s' = J'.log.pure)
  | k, D, J, G, s, hM, hlen, hroom, hmono, htame, hlog, hser => by
    have hne : G ≠ [] := by intro h; rw [h] at hlen; simp at hlen
    have hans : J.ans = 0 := by unfold Jn.ans; rw [hM.sound]; simp
    have stay : J.trimN ix k D = (J.ans, D, J) →
        (∃ D' J' G', J.trimN ix k D = (0, D', J') ∧ (∀ x ∈ J'.log.es, x ∈ J.log.es) ∧ J' = { J with segs := J'.segs, log := J'.log } ∧ Rest D' J' G' J'.log.pure ∧ G'.Sublist G ∧ Raised s J'.log.pure ix ∧ D'.armed = D.armed ∧ ∀ i, (D'.f i).b.length ≤ (D.f i).b.length) ∨
        (∃ D' J', J.trimN ix k D = (70, D', J') ∧ Raised s J'.log.pure ix ∧ (∀ x ∈ J'.log.es, x ∈ J.log.es) ∧ After J.first J.many D' fun s' => s' = J'.log.pure) := fun h =>
      .inl ⟨D, J, G, by rw [h, hans], fun x hx => hx, rfl, ⟨by rw [hlog]; exact hM, hne, hroom, hmono, htame⟩, List.Sublist.refl _, .inl hlog, rfl, fun i => Nat.le_refl _⟩
    cases k with
    | zero => exact stay rfl
    | succ k =>
      obtain ⟨A, B, L, hG⟩ : ∃ A B L, G = A :: B :: L := by
        cases G with
        | nil => simp at hlen
        | cons A L => cases L with
          | nil => simp at hlen
          | cons B L => exact ⟨A, B, L, rfl⟩
      have hidx : idxAt J.segs 1 = B.hd.i := by
        rw [hM.idxAt_eq (k := 1) (by omega)]
        subst hG; rfl
      by_cases hle : idxAt J.segs 1 ≤ ix
      · have hst : J.trimN ix (k + 1) D = if (J.dropAt D 0).1 = true then Jn.trimN ix k (J.dropAt D 0).2.2.lift (J.dropAt D 0).2.1 else (70, (J.dropAt D 0).2) := by
          rw [Jn.trimN, if_pos hle]
        have hread := hM.lay.read
        subst hG
        have hmem := htame.mem (G := L)
        have hm2 := List.pairwise_cons.1 (List.pairwise_cons.1 hmono).2
        obtain ⟨t1, t2⟩ := trim_first (PL.Con.nil 0 0) (hmem B List.mem_cons_self) (fun x hx => ⟨hmem x (List.mem_cons_of_mem _ hx), hm2.1 x hx⟩) hread
        rcases drop_out hM (k := 0) (by simp) t1 (.inl hroom) (htame.safe hread) hser with ⟨D1, d1, d2, d3, d4⟩ | ⟨D1, d1, d2⟩
        · rw [d1] at hst
          have hsegs : J.segs.eraseIdx 0 = ⟨J.first + B.file, B.hd⟩ :: L.map fun g => ⟨J.first + g.file, g.hd⟩ := by rw [hM.segs]; rfl
          have hlift : Jn.lift { J with segs := J.segs.eraseIdx 0 } = { ({ J with segs := J.segs.eraseIdx 0 } : Jn) with log := J.log.lift B.hd } := by
            unfold Jn.lift
            simp only [hsegs]
          simp only [if_true] at hst
          rw [hlift] at hst
          have hpl : (J.log.lift B.hd).pure = s.lift B.hd.i B.hd.t := by
            rw [Lg.pure_lift (by rw [hlog]; exact hM.lay.con) (by rw [hlog]; exact t2), hlog]
          have hsub : ∀ x ∈ (J.log.lift B.hd).es, x ∈ J.log.es := fun x hx => List.mem_of_mem_drop hx
          have hR1 : Raised s (s.lift B.hd.i B.hd.t) ix := .inr ⟨_, _, by rw [← hidx]; exact hle, t2, rfl⟩
          have hM2 := d2.relog (J.log.lift B.hd)
          have hl2 : (B :: L).length = k + 1 := by simpa using hlen
          rcases trimN_out ix k hM2 hl2 (by show (B :: L).length < J.many; simp at hroom ⊢; omega) (List.pairwise_cons.1 hmono).2 (htame.sub (List.sublist_cons_self _ _)) hpl (fun g hg => hser g (List.mem_cons_of_mem _ hg)) with ⟨D', J', G', e1, e2, e3, e4, e5, e6, e7, e8⟩ | ⟨D', J', e1, e2, e3, e4⟩
          · left
            exact ⟨D', J', G', by rw [hst]; exact e1, fun x hx => hsub x (e2 x hx), e3, e4, e5.trans (List.sublist_cons_self _ _), hR1.trans e6, by rw [e7, d3], fun i => Nat.le_trans (e8 i) (d4 i)⟩
          · right
            exact ⟨D', J', by rw [hst]; exact e1, hR1.trans e2, fun x hx => hsub x (e3 x hx), e4⟩
        · right
          rw [d1] at hst
          simp only [Bool.false_eq_true, if_false] at hst
          exact ⟨D1, _, hst, .inl hlog, fun x hx => hx, by rw [show ({ J with broken := true } : Jn).log.pure = s from hlog]; exact d2⟩
      · exact stay (by rw [Jn.trimN, if_neg hle])
theorem trim_out {D : Dk} {J : Jn} {G : List Sg} {s : PL} {n ix : Nat} (hX : Rest D J G s) (hB : Bnd D J G s n) (hn : n < 100) (hlog : J.log.pure = s) :
    (∃ D' J' G', J.trim D ix = (0, D', J') ∧ (∀ x ∈ J'.log.es, x ∈ J.log.es) ∧ J' = { J with segs := J'.segs, log := J'.log } ∧ Rest D' J' G' J'.log.pure ∧ Bnd D' J' G' J'.log.pure n ∧ Raised s J'.log.pure ix ∧ D'.armed = D.armed) ∨
    (∃ D' J', J.trim D ix = (70, D', J') ∧ Raised s J'.log.pure ix ∧ (∀ x ∈ J'.log.es, x ∈ J.log.es) ∧ After J.first J.many D' fun s' => s' = J'.log.pure) := by
  have hM := hX.mid
  have hbr : ¬ J.broken = true := by rw [hM.sound]; simp
  have h0 : 0 < G.length := List.length_pos_iff.2 hX.ne
  have ht : J.trim D ix = J.trimN ix (G.length - 1) D := by rw [Jn.trim, if_neg hbr, hM.segLen]
  rw [ht]
  rcases trimN_out ix (G.length - 1) hM (by omega) hX.room hX.mono hX.tame hlog (fun g hg => by have := hB.sr g hg; omega) with ⟨D', J', G', e1, e2, e3, e4, e5, e6, e7, e8⟩ | h
  · left
    refine ⟨D', J', G', e1, e2, e3, e4, sub_bnd hB (by rw [e3]) (by rw [e3]) (fun i hi => Nat.le_trans (e8 _) (hB.fl i hi)) (fun g hg => ⟨hB.sr g (e5.subset hg), hB.rl g (e5.subset hg)⟩) ?_, e6, e7⟩
    rcases e6 with h | ⟨i, t, h1, h2, h3⟩
    · rw [h]; exact ⟨hB.el, hB.li, hB.ft, hB.et⟩
    · rw [h3]
      have hl := PL.lift_last hM.lay.con h2
      refine ⟨?_, by rw [hl]; exact hB.li, ?_, fun e he => hB.et e (List.mem_of_mem_drop he)⟩
      · show (s.es.drop (i - s.fi)).length ≤ _
        rw [List.length_drop]; have := hB.el; omega
      · show t ≤ _
        rcases Nat.lt_or_ge s.fi i with hlt | hge
        · obtain ⟨e, he, het⟩ := h2.2.2 hlt
          rw [← het]; exact hB.et e (List.mem_of_getElem? he)
        · rw [h2.2.1 (by have := h2.1; omega)]; exact hB.ft
  · exact .inr h
theorem tick_armed (D : Dk) : D.tick.armed = D.armed := by unfold Dk.tick; split <;> rfl
theorem app_armed (D : Dk) (i : Nat) (x : List UInt8) : (D.app i x).2.armed = D.armed := by
  unfold Dk.app
  split
  · rfl
  · split
    · rfl
    · split
      · exact tick_armed _
      · exact tick_armed _
theorem syn_armed (D : Dk) (i : Nat) : (D.syn i).2.armed = D.armed := by
  unfold Dk.syn
  split
  · rfl
  · split
    · exact tick_armed _
    · exact tick_armed _
theorem drp_armed (D : Dk) (i : Nat) : (D.drp i).2.armed = D.armed := by
  unfold Dk.drp
  split
  · rfl
  · split
    · exact tick_armed _
    · exact tick_armed _
theorem write_armed (J : Jn) (D : Dk) (f : Nat) (x : List UInt8) : (J.write D f x).2.1.armed = D.armed := by
  unfold Jn.write
  simp only
  split
  · show (((D.app f x).2.syn f).2).armed = _
    rw [syn_armed, app_armed]
  · exact app_armed _ _ _
theorem start_armed (J : Jn) (D : Dk) (h : Hd) : (J.start D h).2.1.armed = D.armed := by
  unfold Jn.start
  split
  · rfl
  · split
    · exact write_armed _ _ _ _
    · exact write_armed _ _ _ _
theorem dropAt_armed (J : Jn) (D : Dk) (k : Nat) : (J.dropAt D k).2.1.armed = D.armed := by
  unfold Jn.dropAt
  split
  · exact drp_armed _ _
  · exact drp_armed _ _
theorem dropN_armed : ∀ (m : Nat) (J : Jn) (D : Dk), (J.dropN m D).1.armed = D.armed
  | 0, J, D => rfl
  | m + 1, J, D => by
    unfold Jn.dropN
    split
    · rw [dropN_armed m, dropAt_armed]
    · exact dropAt_armed _ _ _
theorem idleN_armed : ∀ (m : Nat) (J : Jn) (D : Dk), (J.idleN m D).1.armed = D.armed
  | 0, J, D => rfl
  | m + 1, J, D => by
    unfold Jn.idleN
    split
    · rfl
    · split
      · rw [idleN_armed m, dropAt_armed]
      · exact idleN_armed m J D
theorem idle_armed (J : Jn) (D : Dk) : (J.idle D).1.armed = D.armed := by
  unfold Jn.idle
  split
  · exact dropN_armed _ _ _
  · rw [idleN_armed]; exact dropN_armed _ _ _
theorem tick_un {D : Dk} (h : D.armed = false) : D.tick = D := by unfold Dk.tick; rw [if_neg (by rw [h]; simp)]
theorem blown_un {D : Dk} (h : D.armed = false) : D.blown = false := by unfold Dk.blown; rw [h]; rfl
theorem tidy_un {D : Dk} {J : Jn} {f n : Nat} {used : Bool} (ha : D.armed = false) (hd : D.down = false) (hb : J.broken = false) (hs : (D.f f).s ≤ (D.f f).b.length) (hn : n ≤ (D.f f).b.length) :
    ∃ D', J.tidy D f n (D.f f).b.length used = (D', J) ∧ D'.armed = false ∧ D'.down = false ∧ D'.f f = ⟨(if used = true then (D.f f).b.take n else []), (if used = true then (D.f f).b.take n else []).length⟩ ∧ ∀ j, j ≠ f → D'.f j = D.f j := by
  have hbr : ¬ J.broken = true := by rw [hb]; simp
  have hdn : ¬ D.down = true := by rw [hd]; simp
  have hbl : ¬ D.blown = true := by rw [blown_un ha]; simp
  unfold Jn.tidy
  by_cases h0 : (D.f f).b.length = 0
  · rw [if_pos (.inr h0)]
    have hnil : (D.f f).b = [] := List.eq_nil_of_length_eq_zero h0
    refine ⟨D, rfl, ha, hd, ?_, fun j hj => rfl⟩
    have : (if used = true then (D.f f).b.take n else []) = [] := by rw [hnil]; split <;> simp
    rw [this]
    have hs0 : (D.f f).s = 0 := by omega
    cases hx : D.f f with
    | mk b s =>
      rw [hx] at hnil hs0
      simp only at hnil hs0
      rw [hnil, hs0]; rfl
  · rw [if_neg (by intro h; rcases h with h | h; exact hbr h; exact h0 h)]
    have ta : ∀ x, (D.set f x).tick = D.set f x := fun x => tick_un ha
    cases used with
    | false =>
      rw [if_pos rfl]
      have hdrp : D.drp f = (0, D.set f ⟨[], 0⟩) := by
        unfold Dk.drp
        rw [if_neg hdn, if_neg hbl, ta]
      rw [hdrp]
      exact ⟨D.set f ⟨[], 0⟩, by simp only [Jn.note_zero], ha, hd, by rw [set_same]; rfl, fun j hj => set_ne _ _ hj⟩
    | true =>
      rw [if_neg (by simp)]
      have hsyn : ∀ E : Dk, E.armed = false → E.down = false → E.syn f = (0, E.set f ⟨(E.f f).b, (E.f f).b.length⟩) := by
        intro E h1 h2
        unfold Dk.syn
        rw [if_neg (by rw [h2]; simp), if_neg (by rw [blown_un h1]; simp)]
        have : (E.set f ⟨(E.f f).b, (E.f f).b.length⟩).armed = false := h1
        rw [tick_un this]
      by_cases hlt : n < (D.f f).b.length
      · rw [if_pos hlt]
        have hcut : D.cut f n = (0, D.set f ⟨(D.f f).b.take n, min n (D.f f).s⟩) := by
          unfold Dk.cut
          rw [if_neg hdn, if_neg (by omega), if_neg hbl, ta]
        rw [hcut, if_pos rfl]
        simp only [Jn.note_zero]
        rw [hsyn (D.set f ⟨(D.f f).b.take n, min n (D.f f).s⟩) ha hd, set_same]
        refine ⟨(D.set f ⟨(D.f f).b.take n, min n (D.f f).s⟩).set f ⟨(D.f f).b.take n, ((D.f f).b.take n).length⟩, by simp only [Jn.note_zero], ha, hd, by rw [set_same]; rfl, fun j hj => by rw [set_ne _ _ hj, set_ne _ _ hj]⟩
      · rw [if_neg hlt, hsyn _ ha hd]
        refine ⟨D.set f ⟨(D.f f).b, (D.f f).b.length⟩, by simp only [Jn.note_zero], ha, hd, ?_, fun j hj => set_ne _ _ hj⟩
        rw [set_same]
        have : (D.f f).b.take n = (D.f f).b := List.take_of_length_le (by omega)
        simp only [if_true, this]
theorem tidyK_un {D : Dk} {J : Jn} {first : Nat} {pn : Nat → Nat} {us : Nat → Bool} {many : Nat} (ha : D.armed = false) (hd : D.down = false) (hb : J.broken = false) (hs : ∀ i, i < many → (D.f (first + i)).s ≤ (D.f (first + i)).b.length) (hn : ∀ i, i < many → pn i ≤ (D.f (first + i)).b.length) :
    ∀ k, k ≤ many → ∃ D', tidyK first pn (fun n => (D.f (first + n)).b.length) us k (D, J) = (D', J) ∧ D'.armed = false ∧ D'.down = false ∧ (∀ i, i < k → D'.f (first + i) = ⟨(if us i = true then (D.f (first + i)).b.take (pn i) else []), (if us i = true then (D.f (first + i)).b.take (pn i) else []).length⟩) ∧ ∀ j, (∀ i, i < k → j ≠ first + i) → D'.f j = D.f j
  | 0, _ => ⟨D, rfl, ha, hd, (fun i h => by omega), fun j _ => rfl⟩
  | k + 1, hk => by
    obtain ⟨D1, h1, h2, h3, h4, h5⟩ := tidyK_un (J := J) (pn := pn) (us := us) ha hd hb hs hn k (by omega)
    have hf : D1.f (first + k) = D.f (first + k) := h5 _ fun i hi => by omega
    obtain ⟨D2, g1, g2, g3, g4, g5⟩ := tidy_un (J := J) (f := first + k) (n := pn k) (used := us k) h2 h3 hb (by rw [hf]; exact hs k (by omega)) (by rw [hf]; exact hn k (by omega))
    rw [hf] at g1 g4
    refine ⟨D2, ?_, g2, g3, fun i hi => ?_, fun j hj => ?_⟩
    · show (tidyK first pn _ us k (D, J)).2.tidy (tidyK first pn _ us k (D, J)).1 _ _ _ _ = _
      rw [h1]; exact g1
    · rcases Nat.lt_or_ge i k with h | h
      · rw [g5 _ (by omega)]; exact h4 i h
      · have : i = k := by omega
        subst this; exact g4
    · rw [g5 j (hj k (by omega))]
      exact h5 j fun i hi => hj i (by omega)
theorem lastNew_spec {D : Dk} {J : Jn} {G : List Sg} {s : PL} (hM : Mid D J G s) : ∀ k, k < G.length → (lastNew J.segs k = 0 ∨ ∃ h : lastNew J.segs k < G.length, G[lastNew J.segs k].hd.anew = true) ∧ ∀ j, lastNew J.segs k < j → j ≤ k → ∀ h : j < G.length, G[j].hd.anew = false
  | 0, _ => ⟨.inl rfl, fun j h1 h2 => by omega⟩
  | k + 1, h => by
    obtain ⟨h1, h2⟩ := lastNew_spec hM k (by omega)
    by_cases ha : G[k + 1].hd.anew = true
    · have e : lastNew J.segs (k + 1) = k + 1 := by unfold lastNew; rw [hM.anewAt_eq h, if_pos ha]
      rw [e]
      exact ⟨.inr ⟨h, ha⟩, fun j h1 h2 => by omega⟩
    · have e : lastNew J.segs (k + 1) = lastNew J.segs k := by
        conv => lhs; unfold lastNew
        rw [hM.anewAt_eq h, if_neg ha]
      rw [e]
      refine ⟨h1, fun j h3 h4 hj => ?_⟩
      rcases Nat.lt_or_ge j (k + 1) with h5 | h5
      · exact h2 j h3 (by omega) hj
      · have : j = k + 1 := by omega
        subst this; simpa using ha
theorem idle_any_out {D : Dk} {J : Jn} {G : List Sg} {s : PL} (hM : Mid D J G s) (hne : G ≠ []) (hR : Roomy G J.many) (hS : Safe G) (hser : ∀ g ∈ G, g.hd.serial < 1000) :
    (∃ D' J' G', J.idle D = (D', J') ∧ J' = { J with segs := J'.segs } ∧ Rest D' J' G' s ∧ G'.Sublist G ∧ D'.armed = D.armed ∧ ∀ i, (D'.f i).b.length ≤ (D.f i).b.length) ∨
    (∃ D' J', J.idle D = (D', J') ∧ J' = { J with segs := J'.segs, broken := true } ∧ After J.first J.many D' fun s' => s' = s) := by
  have h0 : 0 < G.length := List.length_pos_iff.2 hne
  obtain ⟨l1, l2⟩ := lastNew_spec hM (G.length - 1) (by omega)
  have hle := lastNew_le J.segs (G.length - 1)
  have hbe : J.begun D = J.dropN (lastNew J.segs (G.length - 1)) D := by unfold Jn.begun; rw [hM.segLen]
  generalize lastNew J.segs (G.length - 1) = m at *
  have hrd : ∀ j, j ≤ m → rdAll true ⟨0, 0, []⟩ (G.drop j) = some s := by
    intro j hj
    rcases l1 with l1 | ⟨l1, l3⟩
    · have : j = 0 := by omega
      subst this; exact hM.lay.read
    · have e1 : ∀ i, i ≤ m → ∀ s', rdAll true ⟨0, 0, []⟩ (G.drop i) = some s' → rdAll true ⟨0, 0, []⟩ (G.drop m) = some s' := by
        intro i hi s' hs'
        have e2 : G.drop i = (G.drop i).take (m - i) ++ G.drop m := by
          have := (List.take_append_drop (m - i) (G.drop i)).symm
          rw [List.drop_drop, show i + (m - i) = m by omega] at this
          exact this
        rw [e2, List.drop_eq_getElem_cons l1] at hs'
        rw [List.drop_eq_getElem_cons l1]
        exact anew_resets l3 hs'
      have h1 := e1 0 (Nat.zero_le _) s (by rw [List.drop_zero]; exact hM.lay.read)
      obtain ⟨s', hs'⟩ := Option.isSome_iff_exists.1 (hS j m hj l1 l3)
      have h2 := e1 j hj s' hs'
      rw [h1] at h2
      rw [hs', ← h2]
  rcases dropN_out m hM (by omega) hrd hR hS hser with ⟨D1, d1, d2, d3, d4, d5⟩ | ⟨D', J', d1, d2, d3⟩
  · have hbe2 : J.begun D = (D1, { J with segs := J.segs.drop m }) := by rw [hbe]; exact d1
    have htame : Tame (G.drop m) := by
      intro k hk h0
      rw [List.length_drop] at hk
      rw [List.getElem_drop]
      exact l2 (m + k) (by omega) (by omega) (by omega)
    have hlen : (G.drop m).length = G.length - m := List.length_drop ..
    have hi : J.idle D = Jn.idleN ((G.drop m).length - 1) { J with segs := J.segs.drop m } D1 := by
      unfold Jn.idle
      rw [hbe2]
      simp only
      rw [if_neg (by rw [hM.sound]; simp), List.length_drop, hM.segLen, hlen]
    have hne2 : G.drop m ≠ [] := by intro h; rw [h] at hlen; simp at hlen; omega
    have hR2 : Roomy (G.drop m) J.many := by
      rcases d3 with h | h
      · subst h; rw [List.drop_zero]; exact hR
      · exact .inl h
    rcases idleN_out ((G.drop m).length - 1) d2 htame (by omega) (strict_one hne2) hR2 (fun g hg => hser g (List.mem_of_mem_drop hg)) with ⟨D', J', G', e1, e2, e3, e4, e5, e6, e7, e8, e9, e10⟩ | ⟨D', J', e1, e2, e3⟩
    · left
      have hne' : G' ≠ [] := by
        intro h
        rw [h] at e7
        have := List.getLast?_eq_none_iff.1 e7.symm
        exact hne2 this
      have hm' : J'.many = J.many := by rw [e3]
      refine ⟨D', J', G', by rw [hi]; exact e1, e3, ⟨e2, hne', by rw [hm']; exact roomy_strict e8 e5 e4, e5.mono, e4⟩, e6.trans (List.drop_sublist _ _), by rw [e9, d4], fun i => Nat.le_trans (e10 i) (d5 i)⟩
    · right
      exact ⟨D', J', by rw [hi]; exact e1, e2, e3⟩
  · right
    have hbe2 : J.begun D = (D', J') := by rw [hbe]; exact d1
    refine ⟨D', J', ?_, d2, d3⟩
    unfold Jn.idle
    rw [hbe2]
    simp only
    rw [if_pos (by rw [d2])]
theorem open_out {D : Dk} {G : List Sg} {t : List UInt8} {s : PL} {d first many each : Nat} {g : Lg} (hL : Lay D first many G t s) (hr : first + many ≤ 32 ∧ 2 ≤ many ∧ many < 20) (ha : D.armed = false) (hd : D.down = false) (hs : ∀ i, i < many → (D.f (first + i)).s ≤ (D.f (first + i)).b.length) (hR : Roomy G many) (hS : Safe G) (hser : ∀ g ∈ G, g.hd.serial < 1000) :
    ∃ D' J' G', openedR (tidyK first (pnOf (G.map (·.file)) (rsOf G)) (fun n => (D.f (first + n)).b.length) (fun n => decide (n ∈ G.map (·.file))) many (D, ⟨d, first, many, each, g, G.map fun g => ⟨first + g.file, g.hd⟩, false⟩)) (decide (G.map (·.file) = [])) = (D', J') ∧
      J' = { d := d, first := first, many := many, each := each, log := g, segs := J'.segs, broken := false } ∧ Rest D' J' G' s ∧ D'.armed = false ∧ (G'.Sublist G ∨ ∀ x ∈ G', x.hd.serial = 0 ∧ x.rs = []) ∧ ∀ i, i < many → (D'.f (first + i)).b.length ≤ (D.f (first + i)).b.length + 60 := by
  have hpn : ∀ i, i < many → pnOf (G.map (·.file)) (rsOf G) i ≤ (D.f (first + i)).b.length := by
    intro i hi
    unfold pnOf
    split
    · rename_i hm
      obtain ⟨x, hx, rfl⟩ := List.mem_map.1 hm
      obtain ⟨k, hk, rfl⟩ := List.getElem_of_mem hx
      rw [hL.seg_cont hk, List.length_append]; omega
    · exact Nat.zero_le _
  obtain ⟨D1, h1, h2, h3, h4, h5⟩ := tidyK_un (J := ⟨d, first, many, each, g, G.map fun g => ⟨first + g.file, g.hd⟩, false⟩) (pn := pnOf (G.map (·.file)) (rsOf G)) (us := fun n => decide (n ∈ G.map (·.file))) ha hd rfl hs hpn many (Nat.le_refl _)
  rw [h1]
  have hused : ∀ k (hk : k < G.length), D1.f (first + G[k].file) = ⟨pbs (G[k].recs.map Rec.par), (pbs (G[k].recs.map Rec.par)).length⟩ := by
    intro k hk
    have hg := List.getElem_mem hk
    have hm : G[k].file ∈ G.map (·.file) := List.mem_map.2 ⟨_, hg, rfl⟩
    have e1 : (if (decide (G[k].file ∈ G.map (·.file))) = true then (D.f (first + G[k].file)).b.take (pnOf (G.map (·.file)) (rsOf G) G[k].file) else []) = pbs (G[k].recs.map Rec.par) := by
      rw [if_pos (decide_eq_true hm), pnOf, if_pos hm, hL.seg_cont hk, List.take_left, hL.rsOf_eq hg]
    rw [h4 _ (hL.file _ hg), e1]
  have hfree : ∀ i, i < many → (∀ g ∈ G, g.file ≠ i) → D1.f (first + i) = ⟨[], 0⟩ := by
    intro i hi hg
    have hm : ¬ i ∈ G.map (·.file) := by
      intro h
      obtain ⟨x, hx, rfl⟩ := List.mem_map.1 h
      exact hg x hx rfl
    rw [h4 i hi]
    have e1 : (if (decide (i ∈ G.map (·.file))) = true then (D.f (first + i)).b.take (pnOf (G.map (·.file)) (rsOf G) i) else []) = [] := by rw [if_neg (by simpa using hm)]
    rw [e1]; rfl
  have hlen1 : ∀ i, i < many → (D1.f (first + i)).b.length ≤ (D.f (first + i)).b.length := by
    intro i hi
    rw [h4 i hi]
    show (if _ then _ else _ : List UInt8).length ≤ _
    split
    · rw [List.length_take]; omega
    · exact Nat.zero_le _
  have hL1 : Lay D1 first many G [] s := by
    refine ⟨hL.file, hL.nodup, hL.ser, hL.ok, fun k hk => ?_, Tail.nil, fun i hi hg => by rw [hfree i hi hg]; exact Tail.nil, hL.read⟩
    have : (if k + 1 = G.length then ([] : List UInt8) else []) = [] := by split <;> rfl
    rw [this, List.append_nil, hused k hk]
  have hM : Mid D1 ⟨d, first, many, each, g, G.map fun g => ⟨first + g.file, g.hd⟩, false⟩ G s := by
    refine ⟨hL1, hr, rfl, rfl, h3, fun i hi hg => by show (D1.f (first + i)).b = []; rw [hfree i hi hg], fun i hi => ?_⟩
    show (D1.f (first + i)).s = (D1.f (first + i)).b.length
    rw [h4 i hi]
  have hno : ∀ {f m : Nat} {D2 : Dk} {P : PL → Prop}, D2.armed = false → ¬ After f m D2 P := fun h1 h2 => by rw [h2.2.1] at h1; cases h1
  rcases Decidable.em (G = []) with hG | hG
  · subst hG
    have hs0 : s = ⟨0, 0, []⟩ := (Option.some.inj hL.read).symm
    have hop : ∀ Y, openedR Y (decide (List.map (fun g : Sg => g.file) [] = [])) = (Y.2.start Y.1 ⟨0, false, 0, 0⟩).2.2.idle (Y.2.start Y.1 ⟨0, false, 0, 0⟩).2.1 := fun Y => by rw [openedR, if_pos (by decide)]
    rw [hop]
    obtain ⟨x1, x2, x3, x4, x5⟩ := fix_facts hM ⟨0, false, 0, 0⟩
    have hfx : (Jn.fix ⟨d, first, many, each, g, [], false⟩ ⟨0, false, 0, 0⟩) = ⟨0, false, 0, 0⟩ := rfl
    have hrd : ∀ f, rdAll true ⟨0, 0, []⟩ ([] ++ [(⟨f, ⟨0, false, 0, 0⟩, []⟩ : Sg)]) = some s := fun f => by rw [hs0]; rfl
    have hrm : ∀ f, Roomy ([] ++ [(⟨f, ⟨0, false, 0, 0⟩, []⟩ : Sg)]) many := fun f => .inl (by show 1 < many; omega)
    have htm : ∀ f, Tame ([] ++ [(⟨f, ⟨0, false, 0, 0⟩, []⟩ : Sg)]) := fun f k hk h0 => by simp at hk; omega
    rcases start_out hM (h := ⟨0, false, 0, 0⟩) (by show 0 < many; omega) (fun g hg => by cases hg) ⟨Nat.zero_le _, Nat.zero_le _, Nat.zero_le _⟩ hrd hrm hR hS (fun f => (htm f).safe (hrd f)) (by show (0 : Nat) < 1000; omega) with ⟨f, D2, f1, f2, f3, f4, f5, f6⟩ | ⟨D2, f1, f2⟩
    · rw [f2]
      rcases idle_any_out f3 (by simp) (hrm f) ((htm f).safe (hrd f)) (fun g hg => by simp only [List.nil_append, List.mem_singleton] at hg; subst hg; show (0 : Nat) < 1000; omega) with ⟨D', J', G', e1, e2, e3, e4, e5, e6⟩ | ⟨D', J', e1, e2, e3⟩
      · refine ⟨D', J', G', e1, e2, e3, by rw [e5, f4, h2], .inr fun x hx => ?_, fun i hi => ?_⟩
        · have := e4.subset hx
          simp only [List.nil_append, List.mem_singleton] at this
          subst this; exact ⟨rfl, rfl⟩
        · refine Nat.le_trans (e6 _) ?_
          have f5 : (D2.f (first + f)).b.length ≤ 60 := f5
          have f6 : ∀ i, i ≠ first + f → D2.f i = D1.f i := f6
          by_cases hif : i = f
          · subst hif; omega
          · rw [f6 _ (by omega)]; have := hlen1 i hi; omega
      · exfalso
        have := idle_armed ({ d := d, first := first, many := many, each := each, log := g, segs := [] ++ [⟨first + f, ⟨0, false, 0, 0⟩⟩], broken := false } : Jn) D2
        rw [show (Jn.idle ({ d := d, first := first, many := many, each := each, log := g, segs := [] ++ [⟨first + f, ⟨0, false, 0, 0⟩⟩], broken := false } : Jn) D2) = (D', J') from e1, f4, h2] at this
        exact hno this e3
    · exfalso
      have := start_armed (⟨d, first, many, each, g, [].map fun g : Sg => ⟨first + g.file, g.hd⟩, false⟩ : Jn) D1 ⟨0, false, 0, 0⟩
      rw [f1, h2] at this
      exact hno this f2
  · have hop : ∀ Y, openedR Y (decide (G.map (·.file) = [])) = Y.2.idle Y.1 := fun Y => by
      rw [openedR, if_neg (by simpa using hG)]
    rw [hop]
    rcases idle_any_out hM hG hR hS hser with ⟨D', J', G', e1, e2, e3, e4, e5, e6⟩ | ⟨D', J', e1, e2, e3⟩
    · exact ⟨D', J', G', e1, e2, e3, by rw [e5, h2], .inl e4, fun i hi => by have := e6 (first + i); have := hlen1 i hi; omega⟩
    · exfalso
      have := idle_armed (⟨d, first, many, each, g, G.map fun g => ⟨first + g.file, g.hd⟩, false⟩ : Jn) D1
      rw [show (Jn.idle (⟨d, first, many, each, g, G.map fun g => ⟨first + g.file, g.hd⟩, false⟩ : Jn) D1) = (D', J') from e1, h2] at this
      exact hno this e3
end Go.Sx.Tryz
namespace Go.Sx.Tryz
open Go Go.Sx Go.Proofs
set_option maxRecDepth 100000
set_option linter.unusedVariables false
noncomputable def c13 : Code := (Tryz.f13.body).getD .skip
def a13 : Ann := (.seq .leaf (.seq .leaf (.seq .leaf (.seq .leaf (.seq (.reg (.q 0 (.q 1 (.q 2 (.q 3 (.q 4 (.q 5 (.q 6 (.q 7 (.q 8 (.q 9 (.q 10 (.q 11 (.q 12 (.q 13 (.q 14 (.m 15 (.q 16 (.q 17 (.q 18 (.q 19 (.q 20 (.q 21 (.m 22 (.q 23 (.q 24 (.q 25 (.q 26 (.q 27 (.q 30 (.q 31 (.m 28 (.m 29 (.m 32 (.q 33 (.q 34 (.q 35 (.q 36 (.q 37 (.q 38 (.q 39 (.q 40 (.q 41 (.q 42 (.q 43 (.q 44 (.q 45 (.q 46 (.q 47 (.q 48 (.q 49 (.q 50 (.q 51 (.q 52 (.q 53 (.q 54 (.q 55 (.q 56 (.m 57 (.q 58 (.q 59 (.q 60 (.m 61 (.q 62 (.q 63 (.q 64 (.fin)))) (.nil))))) (.nil)))))))))))))))))))))))))) (.nil)) (.nil)) (.nil))))))))) (.nil)))))))) (.nil)))))))))))))))))) .leaf)))))
theorem ok13 : okC tab 96 true c13 a13 = true := by kernel_rfl
theorem vc13 (d_b d_o : Nat) (j_b j_o : Nat) (s_0 : Int) (s_1 : Int) (s_2 : Sl) (s_3 : Sl) (many_ : Int) (h : Heap) (R : Value → Heap → Prop)
  (hv : ∀ b1 h1, Fresh h (.cells #[.int .u64 s_0, .int .u64 s_1, .slice s_2.a s_2.l s_2.c, .slice s_3.a s_3.l s_3.c] 38) b1 h1 →
   CallsH Tryz.prog 49 #[.pointer (some ⟨j_b, j_o, none⟩)] h1 (fun r1 h2 => ∃ n1 : Int, ∃ n2 : Int, r1 = .tuple #[.int .u64 n1, .int .u64 n2] ∧
   CallsH Tryz.prog 50 #[.pointer (some ⟨j_b, j_o, none⟩)] h2 (fun r2 h3 => ∃ n3 : Int, ∃ n4 : Int, r2 = .tuple #[.int .u64 n3, .int .u64 n4] ∧
   CallsH Tryz.prog 52 #[.pointer (some ⟨d_b, d_o, none⟩), .int .i64 0, .int .i64 many_] h3 (fun r3 h4 => ∃ x1 : Sl, r3 = .slice x1.a x1.l x1.c ∧
   CallsH Tryz.prog 51 #[.slice x1.a x1.l x1.c] h4 (fun r4 h5 => ∃ n5 : Int, ∃ n6 : Int, ∃ x2 : Sl, ∃ x3 : Sl, ∃ n7 : Int, ∃ n8 : Int, r4 = .tuple #[.agg #[.int .u64 n5, .int .u64 n6, .slice x2.a x2.l x2.c, .slice x3.a x3.l x3.c, .int .i64 n7], .int .i64 n8] ∧
   ∀ b2 h6, Fresh h5 (.cells #[.int .u64 0, .int .u64 0, .slice none 0 0, .slice none 0 0, .int .i64 0] 119) b2 h6 →
   CanSt h6 b2 0 [.int .u64 n5, .int .u64 n6, .slice x2.a x2.l x2.c, .slice x3.a x3.l x3.c, .int .i64 n7] ∧ ∀ h7, Stored h6 b2 0 [.int .u64 n5, .int .u64 n6, .slice x2.a x2.l x2.c, .slice x3.a x3.l x3.c, .int .i64 n7] h7 →
   ∃ n9 : Int, cellH h7 b1 0 = some (.int .u64 n9) ∧
   CondP ((n1 : Int) == n9) (
   ∃ n10 : Int, cellH h7 b1 1 = some (.int .u64 n10) ∧
   CondP ((n2 : Int) == n10) (
   ∃ n11 : Int, ∃ n12 : Int, ∃ x4 : Sl, ∃ x5 : Sl, CellsAt h7 b1 0 [.int .u64 n11, .int .u64 n12, .slice x4.a x4.l x4.c, .slice x5.a x5.l x5.c] ∧
   CallsH Tryz.prog 18 #[.agg #[.int .u64 n11, .int .u64 n12, .slice x4.a x4.l x4.c, .slice x5.a x5.l x5.c]] h7 (fun r5 h8 => ∃ n13 : Int, ∃ n14 : Int, ∃ x6 : Sl, r5 = .agg #[.int .u64 n13, .int .u64 n14, .slice x6.a x6.l x6.c] ∧
   CondP ((n3 : Int) == n13) (
   ∃ n15 : Int, ∃ n16 : Int, ∃ x7 : Sl, ∃ x8 : Sl, CellsAt h8 b1 0 [.int .u64 n15, .int .u64 n16, .slice x7.a x7.l x7.c, .slice x8.a x8.l x8.c] ∧
   CallsH Tryz.prog 18 #[.agg #[.int .u64 n15, .int .u64 n16, .slice x7.a x7.l x7.c, .slice x8.a x8.l x8.c]] h8 (fun r6 h9 => ∃ n17 : Int, ∃ n18 : Int, ∃ x9 : Sl, r6 = .agg #[.int .u64 n17, .int .u64 n18, .slice x9.a x9.l x9.c] ∧
   CondP ((n4 : Int) == n18) (
   ∃ x10 : Sl, cellH h9 b1 3 = some (.slice x10.a x10.l x10.c) ∧
   CallsH Tryz.prog 36 #[.pointer (some ⟨j_b, j_o, none⟩)] h9 (fun r7 h10 => ∃ x11 : Sl, r7 = .slice x11.a x11.l x11.c ∧
   cellH h10 b1 3 = some (.slice x10.a x10.l x10.c) ∧
   CallsH Tryz.prog 31 #[.slice x11.a x11.l x11.c] h10 (fun r8 h11 => ∃ x12 : Sl, r8 = .slice x12.a x12.l x12.c ∧
   cellH h11 b1 3 = some (.slice x10.a x10.l x10.c) ∧
   CallsH Tryz.prog 30 #[.slice x12.a x12.l x12.c, .slice x10.a x10.l x10.c] h11 (fun r9 h12 => ∃ t1 : Bool, r9 = .bool t1 ∧
   CondP t1 (
   CondP ((n8 : Int) == 0) (
   ∃ n19 : Int, cellH h12 b2 0 = some (.int .u64 n19) ∧
   CondP ((n19 : Int) == n1) (
   ∃ n20 : Int, cellH h12 b2 1 = some (.int .u64 n20) ∧
   CondP ((n20 : Int) == n2) (
   ∃ x13 : Sl, cellH h12 b2 3 = some (.slice x13.a x13.l x13.c) ∧
   ∃ x14 : Sl, cellH h12 b1 3 = some (.slice x14.a x14.l x14.c) ∧
   CallsH Tryz.prog 30 #[.slice x13.a x13.l x13.c, .slice x14.a x14.l x14.c] h12 (fun r10 h13 => ∃ t2 : Bool, r10 = .bool t2 ∧
   CondP t2 (
   CallsH Tryz.prog 53 #[.pointer (some ⟨j_b, j_o, none⟩)] h13 (fun r11 h14 => ∃ t3 : Bool, r11 = .bool t3 ∧
   R (.bool (!t3)) h14)) (
   R (.bool false) h13))) (
   R (.bool false) h12)) (
   R (.bool false) h12)) (
   R (.bool false) h12)) (
   R (.bool false) h12))))) (
   R (.bool false) h9))) (
   R (.bool false) h8))) (
   R (.bool false) h7)) (
   R (.bool false) h7)))))) :
  CallsH Tryz.prog 13 #[.pointer (some ⟨d_b, d_o, none⟩), .pointer (some ⟨j_b, j_o, none⟩), .agg #[.int .u64 s_0, .int .u64 s_1, .slice s_2.a s_2.l s_2.c, .slice s_3.a s_3.l s_3.c], .int .i64 many_] h R :=
  calls_of_vc tabOk mixed Tryz.func13 (c := c13) (by kernel_rfl) (n := 96) rfl (rs := [.tmp 8]) (by kernel_rfl) ok13 (args := [.pointer (some ⟨d_b, d_o, none⟩), .pointer (some ⟨j_b, j_o, none⟩), .agg #[.int .u64 s_0, .int .u64 s_1, .slice s_2.a s_2.l s_2.c, .slice s_3.a s_3.l s_3.c], .int .i64 many_]) (Nat.le_of_ble_eq_true rfl) (Eq.mpr (by kernel_rfl) hv)
end Go.Sx.Tryz
namespace Go.Sx.Tryz
open Go Go.Sx Go.Proofs
set_option maxRecDepth 100000
set_option linter.unusedVariables false
noncomputable def c9 : Code := (Tryz.f9.body).getD .skip
def a9 : Ann := (.seq .leaf (.seq .leaf (.seq .leaf (.seq .leaf (.seq .leaf (.seq .leaf (.seq .leaf .leaf)))))))
theorem ok9 : okC tab 59 true c9 a9 = true := by kernel_rfl
theorem vc9  (h : Heap) (R : Value → Heap → Prop)
  (hv : CallsH Tryz.prog 10 #[] h (fun r1 h1 => ∃ p1 : Option Addr, r1 = .pointer p1 ∧
   CallsH Tryz.prog 11 #[.pointer p1, .int .i64 0, .int .i64 4, .int .i64 64] h1 (fun r2 h2 => ∃ p2 : Option Addr, ∃ n1 : Int, r2 = .tuple #[.pointer p2, .int .i64 n1] ∧
   CallsH Tryz.prog 34 #[.int .u64 1, .int .u64 1] h2 (fun r3 h3 => ∃ n2 : Int, ∃ n3 : Int, ∃ x1 : Sl, r3 = .agg #[.int .u64 n2, .int .u64 n3, .slice x1.a x1.l x1.c] ∧
   CallsH Tryz.prog 34 #[.int .u64 2, .int .u64 1] h3 (fun r4 h4 => ∃ n4 : Int, ∃ n5 : Int, ∃ x2 : Sl, r4 = .agg #[.int .u64 n4, .int .u64 n5, .slice x2.a x2.l x2.c] ∧
   CallsH Tryz.prog 34 #[.int .u64 3, .int .u64 1] h4 (fun r5 h5 => ∃ n6 : Int, ∃ n7 : Int, ∃ x3 : Sl, r5 = .agg #[.int .u64 n6, .int .u64 n7, .slice x3.a x3.l x3.c] ∧
   ∀ b1 h6, Fresh h5 (.cells #[.int .u64 n2, .int .u64 n3, .slice x1.a x1.l x1.c, .int .u64 n4, .int .u64 n5, .slice x2.a x2.l x2.c, .int .u64 n6, .int .u64 n7, .slice x3.a x3.l x3.c] 85) b1 h6 →
   CallsH Tryz.prog 33 #[.pointer p2, .slice (some ⟨b1, 0, none⟩) 3 3] h6 (fun r6 h7 => ∃ n8 : Int, r6 = .int .i64 n8 ∧
   CallsH Tryz.prog 35 #[.pointer p2, .int .u64 3] h7 (fun r7 h8 => ∃ n9 : Int, r7 = .int .i64 n9 ∧
   CallsH Tryz.prog 34 #[.int .u64 3, .int .u64 2] h8 (fun r8 h9 => ∃ n10 : Int, ∃ n11 : Int, ∃ x4 : Sl, r8 = .agg #[.int .u64 n10, .int .u64 n11, .slice x4.a x4.l x4.c] ∧
   ∀ b2 h10, Fresh h9 (.cells #[.int .u64 n10, .int .u64 n11, .slice x4.a x4.l x4.c] 85) b2 h10 →
   CallsH Tryz.prog 33 #[.pointer p2, .slice (some ⟨b2, 0, none⟩) 1 1] h10 (fun r9 h11 => ∃ n12 : Int, r9 = .int .i64 n12 ∧
   CallsH Tryz.prog 36 #[.pointer p2] h11 (fun r10 h12 => ∃ x5 : Sl, r10 = .slice x5.a x5.l x5.c ∧
   CondP ((n1 : Int) == 0) (
   CondP ((n8 : Int) == 0) (
   CondP ((n9 : Int) == 0) (
   CondP ((n12 : Int) == 0) (
   CondP ((((x5.l : Nat) : Int) : Int) == 3) (
   ((0 : Int) ≤ 2 ∧ (2 : Int) < ((x5.l : Nat) : Int)) ∧
   NilP x5.a (fun b3 o1 =>
   ∃ n13 : Int, cellH h12 b3 (o1 + 6 + 1) = some (.int .u64 n13) ∧
   CondP ((n13 : Int) == 2) (
   ((0 : Int) ≤ 1 ∧ (1 : Int) < ((x5.l : Nat) : Int)) ∧
   NilP x5.a (fun b4 o2 =>
   ∃ n14 : Int, cellH h12 b4 (o2 + 3 + 1) = some (.int .u64 n14) ∧
   R (.bool ((n14 : Int) == 1)) h12)) (
   R (.bool false) h12))) (
   R (.bool false) h12)) (
   R (.bool false) h12)) (
   R (.bool false) h12)) (
   R (.bool false) h12)) (
   R (.bool false) h12)))))))))))) :
  CallsH Tryz.prog 9 #[] h R :=
  calls_of_vc tabOk mixed Tryz.func9 (c := c9) (by kernel_rfl) (n := 59) rfl (rs := [.tmp 0]) (by kernel_rfl) ok9 (args := []) (Nat.le_of_ble_eq_true rfl) (Eq.mpr (by kernel_rfl) hv)
end Go.Sx.Tryz
