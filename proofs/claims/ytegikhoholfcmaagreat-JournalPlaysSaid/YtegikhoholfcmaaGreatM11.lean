/-
  Part 11 of the proof: P04, P05, P06, V18, V44, V45, V31, V30, V34, V52, V17.
-/
import Derived.Test.YtegikhoholfcmaaGreatM10
namespace Go.Sx.Tryz
open Go Go.Sx Go.Proofs
set_option linter.unusedVariables false
def Tame (G : List Sg) : Prop := ∀ k, ∀ h : k < G.length, 0 < k → G[k].hd.anew = false
theorem Tame.safe {G : List Sg} {s : PL} (h : Tame G) (hr : rdAll true ⟨0, 0, []⟩ G = some s) : Safe G := by
  intro j k hjk hk ha
  rcases Nat.eq_zero_or_pos k with h0 | h0
  · have : j = 0 := by omega
    subst this; rw [List.drop_zero, hr]; rfl
  · rw [h k hk h0] at ha; cases ha
theorem Tame.mem {G : List Sg} {x : Sg} {L : List Sg} (h : Tame (x :: L)) : ∀ y ∈ L, y.hd.anew = false := by
  intro y hy
  obtain ⟨k, hk, rfl⟩ := List.getElem_of_mem hy
  exact h (k + 1) (by simpa using hk) (by omega)
theorem Tame.sub {G G' : List Sg} (h : Tame G) (hs : G'.Sublist G) : Tame G' := by
  cases G with
  | nil => cases hs; exact h
  | cons x L =>
    intro k hk h0
    cases hs with
    | cons _ hs => exact h.mem (G := L) _ (hs.subset (List.getElem_mem hk))
    | cons_cons _ hs =>
      obtain ⟨k, rfl⟩ : ∃ m, k = m + 1 := ⟨k - 1, by omega⟩
      exact h.mem (G := L) _ (hs.subset (by simp))
namespace Mid
variable {D : Dk} {J : Jn} {G : List Sg} {s : PL}
theorem segLen (h : Mid D J G s) : J.segs.length = G.length := by rw [h.segs, List.length_map]
theorem file_lt (h : Mid D J G s) : ∀ x ∈ J.segs, x.file < 32 := by
  intro x hx
  rw [h.segs] at hx
  obtain ⟨g, hg, rfl⟩ := List.mem_map.1 hx
  have := h.lay.file g hg
  have := h.rng
  show J.first + g.file < 32; omega
theorem fileAt_eq (h : Mid D J G s) {k : Nat} (hk : k < G.length) : fileAt J.segs k = J.first + G[k].file := by
  unfold fileAt
  rw [h.segs, List.getElem?_map, List.getElem?_eq_getElem hk]; rfl
theorem idxAt_eq (h : Mid D J G s) {k : Nat} (hk : k < G.length) : idxAt J.segs k = G[k].hd.i := by
  unfold idxAt
  rw [h.segs, List.getElem?_map, List.getElem?_eq_getElem hk]; rfl
theorem anewAt_eq (h : Mid D J G s) {k : Nat} (hk : k < G.length) : anewAt J.segs k = G[k].hd.anew := by
  unfold anewAt
  rw [h.segs, List.getElem?_map, List.getElem?_eq_getElem hk]; rfl
theorem anyFile (h : Mid D J G s) (i : Nat) : (J.segs.any fun x => x.file == J.first + i) = decide (∃ g ∈ G, g.file = i) := by
  rw [h.segs, List.any_map]
  rw [Bool.eq_iff_iff, List.any_eq_true, decide_eq_true_iff]
  constructor
  · rintro ⟨g, hg, he⟩
    exact ⟨g, hg, by simpa using he⟩
  · rintro ⟨g, hg, he⟩
    exact ⟨g, hg, by simpa using he⟩
theorem free (h : Mid D J G s) (hser : ∀ g ∈ G, g.hd.serial < 1000) : J.free = ((List.range J.many).filter fun i => !decide (∃ g ∈ G, g.file = i)).map (J.first + ·) := by
  have hfull : J.full = false := by
    unfold Jn.full
    rw [h.segs, List.getLast?_map]
    cases hg : G.getLast? with
    | none => rfl
    | some g =>
      have := hser g (List.mem_of_getLast? hg)
      show decide (MaxI ≤ g.hd.serial) = false
      exact decide_eq_false (by unfold MaxI; omega)
  unfold Jn.free
  rw [if_neg (by rw [hfull]; simp)]
  unfold Jn.freeL
  rw [List.filter_map]
  congr 1
  refine List.filter_congr fun i _ => ?_
  show (!(J.segs.any fun x => x.file == J.first + i)) = _
  rw [h.anyFile]
theorem free_some (h : Mid D J G s) (hser : ∀ g ∈ G, g.hd.serial < 1000) (hroom : G.length < J.many) : ∃ f l, J.free = (J.first + f) :: l ∧ f < J.many ∧ ∀ g ∈ G, g.file ≠ f := by
  rw [h.free hser]
  cases hf : (List.range J.many).filter fun i => !decide (∃ g ∈ G, g.file = i) with
  | nil =>
    exfalso
    rw [List.filter_eq_nil_iff] at hf
    have : (List.range J.many).length ≤ (G.map (·.file)).length := nodup_len List.nodup_range fun i hi => by
      have := hf i hi
      simp only [Bool.not_eq_true', decide_eq_false_iff_not] at this
      obtain ⟨g, hg, he⟩ := Classical.not_not.1 this
      exact List.mem_map.2 ⟨g, hg, he⟩
    simp at this; omega
  | cons f l =>
    have hm : f ∈ (List.range J.many).filter fun i => !decide (∃ g ∈ G, g.file = i) := by rw [hf]; exact List.mem_cons_self
    obtain ⟨h1, h2⟩ := List.mem_filter.1 hm
    simp only [Bool.not_eq_true', decide_eq_false_iff_not] at h2
    exact ⟨f, l.map (J.first + ·), rfl, List.mem_range.1 h1, fun g hg he => h2 ⟨g, hg, he⟩⟩
theorem free_len (h : Mid D J G s) (hser : ∀ g ∈ G, g.hd.serial < 1000) : J.free.length + G.length ≤ J.many := by
  rw [h.free hser, List.length_map]
  have h1 : (((List.range J.many).filter fun i => !decide (∃ g ∈ G, g.file = i)) ++ G.map (·.file)).length ≤ (List.range J.many).length := by
    refine nodup_len ?_ fun x hx => ?_
    · refine List.pairwise_append.2 ⟨List.Nodup.sublist List.filter_sublist List.nodup_range, h.lay.nodup, ?_⟩
      intro a ha b hb e
      subst e
      obtain ⟨_, h2⟩ := List.mem_filter.1 ha
      obtain ⟨g, hg, he⟩ := List.mem_map.1 hb
      simp only [Bool.not_eq_true', decide_eq_false_iff_not] at h2
      exact h2 ⟨g, hg, he⟩
    · rcases List.mem_append.1 hx with hx | hx
      · exact (List.mem_filter.1 hx).1
      · obtain ⟨g, hg, rfl⟩ := List.mem_map.1 hx
        exact List.mem_range.2 (h.lay.file g hg)
  simpa using h1
end Mid
theorem PL.begin_fix (s : PL) (J : Jn) (h : Hd) (o : Bool) : s.begin (J.fix h) o = s.begin h o := by
  have e : (J.fix h).i = h.i ∧ (J.fix h).t = h.t ∧ (J.fix h).anew = h.anew := by
    unfold Jn.fix; split <;> exact ⟨rfl, rfl, rfl⟩
  unfold PL.begin
  rw [e.1, e.2.1, e.2.2]
theorem fix_facts {D : Dk} {J : Jn} {G : List Sg} {s : PL} (hM : Mid D J G s) (h : Hd) : (J.fix h).i = h.i ∧ (J.fix h).t = h.t ∧ (J.fix h).anew = h.anew ∧ (∀ g, G.getLast? = some g → (J.fix h).serial = g.hd.serial + 1) ∧ (G = [] → (J.fix h).serial = h.serial) := by
  unfold Jn.fix
  rw [hM.segs, List.getLast?_map]
  cases hg : G.getLast? with
  | none => exact ⟨rfl, rfl, rfl, (fun g h => by cases h), fun _ => rfl⟩
  | some g => exact ⟨rfl, rfl, rfl, (fun g' h => by cases h; rfl), fun h => by rw [h] at hg; cases hg⟩
theorem getLast_ser {G : List Sg} (hp : G.Pairwise fun a b => a.hd.serial < b.hd.serial) {g : Sg} (hg : g ∈ G) {l : Sg} (hl : G.getLast? = some l) : g.hd.serial ≤ l.hd.serial := by
  obtain ⟨k, hk, rfl⟩ := List.getElem_of_mem hg
  rw [List.getLast?_eq_getElem?, List.getElem?_eq_getElem (by omega)] at hl
  cases hl
  rw [List.pairwise_iff_getElem] at hp
  rcases Nat.lt_or_ge k (G.length - 1) with h | h
  · exact Nat.le_of_lt (hp k (G.length - 1) hk (by omega) h)
  · have : k = G.length - 1 := by omega
    subst this; exact Nat.le_refl _
theorem start_out {D : Dk} {J : Jn} {G : List Sg} {s s1 : PL} {h : Hd} (hM : Mid D J G s) (hroom : G.length < J.many) (hser : ∀ g ∈ G, g.hd.serial < 999) (hok : (J.fix h).ok) (hr : ∀ f, rdAll true ⟨0, 0, []⟩ (G ++ [⟨f, J.fix h, []⟩]) = some s1) (hR : ∀ f, Roomy (G ++ [⟨f, J.fix h, []⟩]) J.many) (hR0 : Roomy G J.many) (hS0 : Safe G) (hS : ∀ f, Safe (G ++ [⟨f, J.fix h, []⟩])) (hfs : (J.fix h).serial < 1000) :
    (∃ f D', f < J.many ∧ J.start D h = (true, D', { J with segs := J.segs ++ [⟨J.first + f, J.fix h⟩] }) ∧ Mid D' { J with segs := J.segs ++ [⟨J.first + f, J.fix h⟩] } (G ++ [⟨f, J.fix h, []⟩]) s1 ∧ D'.armed = D.armed ∧ (D'.f (J.first + f)).b.length ≤ 60 ∧ ∀ i, i ≠ J.first + f → D'.f i = D.f i) ∨
    (∃ D', J.start D h = (false, D', { J with broken := true }) ∧ After J.first J.many D' fun s' => s' = s ∨ s' = s1) := by
  obtain ⟨f, l, hfree, hf, hnew⟩ := hM.free_some (fun g hg => by have := hser g hg; omega) hroom
  have hclean := hM.clean f hf hnew
  have hbl := (J.fix h).body_len hok
  have hpl := parcelB_len 1 (J.fix h).body
  have hn10 := natB_le (n := (J.fix h).body.length) (by omega)
  have hst : J.start D h = if (J.write D (J.first + f) (parcelB 1 (J.fix h).body)).1 = true then (true, (J.write D (J.first + f) (parcelB 1 (J.fix h).body)).2.1, (J.write D (J.first + f) (parcelB 1 (J.fix h).body)).2.2.put ⟨J.first + f, J.fix h⟩)
    else (false, (J.write D (J.first + f) (parcelB 1 (J.fix h).body)).2.1, (J.write D (J.first + f) (parcelB 1 (J.fix h).body)).2.2) := by
    unfold Jn.start; rw [hfree]
  have hserf : ∀ g ∈ G, g.hd.serial < (J.fix h).serial := by
    intro g hg
    obtain ⟨_, _, _, k4, _⟩ := fix_facts hM h
    cases hl : G.getLast? with
    | none => rw [List.getLast?_eq_none_iff] at hl; rw [hl] at hg; cases hg
    | some l =>
      have := getLast_ser hM.lay.ser hg hl
      rw [k4 l hl]; omega
  rcases write_cases (f := J.first + f) (x := parcelB 1 (J.fix h).body) hM.up hM.sound (by rw [hclean, hpl]; simp; omega) with ⟨D', w1, w2, w3, w4⟩ | ⟨D', J', w1, w2, w3, w4, w5⟩
  · left
    have hsame : ∀ i, i ≠ J.first + f → D'.f i = D.f i := fun i hi => by rw [w4]; exact set_ne _ _ hi
    have hthis : D'.f (J.first + f) = ⟨parcelB 1 (J.fix h).body, (parcelB 1 (J.fix h).body).length⟩ := by
      rw [w4, hclean]; exact set_same _ _ _
    have hst2 : J.start D h = (true, D', { J with segs := J.segs ++ [⟨J.first + f, J.fix h⟩] }) := by rw [hst, w1]; rfl
    refine ⟨f, D', hf, hst2, ⟨?_, hM.rng, ?_, hM.sound, w2, fun i hi hg => ?_, fun i hi => ?_⟩, w3, by rw [hthis]; show (parcelB 1 (J.fix h).body).length ≤ 60; have := natB_len 1 (J.fix h).body.length (by omega) (by decide); omega, hsame⟩
    · exact hM.lay.put hf hnew hserf hok (by show (D'.f (J.first + f)).b = _; rw [hthis]) (fun i hi hne => by show (D'.f (J.first + i)).b = _; rw [hsame _ (by omega)]) (hr f)
    · show J.segs ++ _ = _
      rw [List.map_append, hM.segs]; rfl
    · show (D'.f (J.first + i)).b = []
      have hif : i ≠ f := by rintro rfl; exact hg ⟨i, J.fix h, []⟩ (List.mem_append_right _ List.mem_cons_self) rfl
      rw [hsame _ (by omega)]
      exact hM.clean i hi fun g h => hg g (List.mem_append_left _ h)
    · show (D'.f (J.first + i)).s = (D'.f (J.first + i)).b.length
      by_cases hif : i = f
      · subst hif; rw [hthis]
      · rw [hsame _ (by omega)]; exact hM.sync i hi
  · right
    refine ⟨D', by rw [hst, w1]; simp only [w5]; rfl, w2, w3, fun i hi => ?_, fun D2 hc => ?_⟩
    · by_cases hif : i = f
      · subst hif
        rw [w4, set_same]
        show (D.f (J.first + i)).s ≤ ((D.f (J.first + i)).b ++ _).length
        rw [hM.sync i hi, List.length_append]; omega
      · rw [w4, set_ne _ _ (by omega), hM.sync i hi]; exact Nat.le_refl _
    · obtain ⟨m, c1, c2⟩ := crs_write hf hM.sync w4 hc
      rw [hclean, List.nil_append] at c1
      by_cases hm : (parcelB 1 (J.fix h).body).length ≤ m
      · rw [List.take_of_length_le hm] at c1
        refine ⟨_, [], s1, hM.lay.put hf hnew hserf hok c1 c2 (hr f), hR f, .inr rfl, fun g hg => ?_, hS f⟩
        rcases List.mem_append.1 hg with h | h
        · have := hser g h; omega
        · simp only [List.mem_singleton] at h
          subst h; exact hfs
      · refine ⟨G, [], s, ⟨hM.lay.file, hM.lay.nodup, hM.lay.ser, hM.lay.ok, fun k hk => ?_, Tail.nil, fun i hi hg => ?_, hM.lay.read⟩, hR0, .inl rfl, fun g hg => by have := hser g hg; omega, hS0⟩
        · have hg := List.getElem_mem hk
          rw [c2 _ (hM.lay.file _ hg) (hnew _ hg)]; exact hM.lay.cont k hk
        · by_cases hif : i = f
          · subst hif
            rw [c1]
            refine ⟨1, (J.fix h).body, (parcelB 1 (J.fix h).body).drop m, by decide, by omega, (List.take_append_drop _ _).symm, fun e => ?_⟩
            have := congrArg List.length e
            rw [List.length_drop, List.length_nil] at this; omega
          · rw [c2 i hi hif]; exact hM.lay.junk i hi hg
theorem more_out {D : Dk} {J : Jn} {G : List Sg} {L : Sg} {s s1 : PL} {new : List Rec} (hM : Mid D J (G ++ [L]) s) (hok : ∀ r ∈ new, r.ok) (hlen : L.rs.length + new.length < 29000) (hr : body L.hd.i s new = some s1) (hfit : (D.f (J.first + L.file)).b.length + (pbs (new.map Rec.par)).length ≤ 1048576) (hR : Roomy (G ++ [L]) J.many) (hT : Tame (G ++ [L])) (hser : ∀ g ∈ G ++ [L], g.hd.serial < 1000) :
    (∃ D', J.write D J.cur (pbs (new.map Rec.par)) = (true, D', J) ∧ Mid D' J (G ++ [⟨L.file, L.hd, L.rs ++ new⟩]) s1 ∧ D'.armed = D.armed ∧ (D'.f (J.first + L.file)).b.length = (D.f (J.first + L.file)).b.length + (pbs (new.map Rec.par)).length ∧ ∀ i, i ≠ J.first + L.file → D'.f i = D.f i) ∨
    (∃ D', J.write D J.cur (pbs (new.map Rec.par)) = (false, D', { J with broken := true }) ∧ After J.first J.many D' fun s' => ∃ j, j ≤ new.length ∧ body L.hd.i s (new.take j) = some s') := by
  have hcur : J.cur = J.first + L.file := by
    unfold Jn.cur
    rw [hM.segLen]
    have := hM.fileAt_eq (k := (G ++ [L]).length - 1) (by simp)
    rw [this]
    congr 2
    simp
  rw [hcur]
  have hmemL : L ∈ G ++ [L] := List.mem_append_right _ List.mem_cons_self
  have hf := hM.lay.file L hmemL
  have hne : ∀ i, i < J.many → i ≠ L.file → J.first + i ≠ J.first + L.file := fun i _ h => by omega
  have hheads : ∀ rs, (G ++ [(⟨L.file, L.hd, rs⟩ : Sg)]).map (fun g => (⟨J.first + g.file, g.hd⟩ : Seg)) = (G ++ [L]).map fun g => ⟨J.first + g.file, g.hd⟩ := fun rs => by simp
  have hroomy : ∀ rs, Roomy (G ++ [(⟨L.file, L.hd, rs⟩ : Sg)]) J.many := by
    intro rs
    rcases hR with h | ⟨k, hk, h⟩
    · left; simpa using h
    · right
      refine ⟨k, by simpa using hk, ?_⟩
      have e : ∀ j (hj : j < (G ++ [L]).length) (hj2 : j < (G ++ [(⟨L.file, L.hd, rs⟩ : Sg)]).length), (G ++ [(⟨L.file, L.hd, rs⟩ : Sg)])[j].hd = (G ++ [L])[j].hd := by
        intro j hj hj2
        rcases Nat.lt_or_ge j G.length with h1 | h1
        · rw [List.getElem_append_left h1, List.getElem_append_left h1]
        · have : j = G.length := by simp at hj; omega
          subst this
          rw [List.getElem_append_right (Nat.le_refl _), List.getElem_append_right (Nat.le_refl _)]
          simp
      rw [e _ hk, e k (by omega)]; exact h
  have htame : ∀ rs, Tame (G ++ [(⟨L.file, L.hd, rs⟩ : Sg)]) := by
    intro rs k hk h0
    have := hT k (by simpa using hk) h0
    rcases Nat.lt_or_ge k G.length with h1 | h1
    · rw [List.getElem_append_left h1] at this ⊢; exact this
    · have hkk : k = G.length := by simp at hk; omega
      subst hkk
      rw [List.getElem_append_right (Nat.le_refl _)] at this ⊢
      simpa using this
  rcases write_cases (f := J.first + L.file) (x := pbs (new.map Rec.par)) hM.up hM.sound hfit with ⟨D', w1, w2, w3, w4⟩ | ⟨D', J', w1, w2, w3, w4, w5⟩
  · left
    have hsame : ∀ i, i ≠ J.first + L.file → D'.f i = D.f i := fun i hi => by rw [w4]; exact set_ne _ _ hi
    have hthis : D'.f (J.first + L.file) = ⟨(D.f (J.first + L.file)).b ++ pbs (new.map Rec.par), ((D.f (J.first + L.file)).b ++ pbs (new.map Rec.par)).length⟩ := by
      rw [w4]; exact set_same _ _ _
    refine ⟨D', w1, ⟨?_, hM.rng, ?_, hM.sound, w2, fun i hi hg => ?_, fun i hi => ?_⟩, w3, by rw [hthis]; simp, hsame⟩
    · exact hM.lay.more hok hlen Tail.nil (by rw [hthis, List.append_nil]) (fun i hi hn => by rw [hsame _ (hne i hi hn)]) hr
    · rw [hheads]; exact hM.segs
    · have hif : i ≠ L.file := by rintro rfl; exact hg _ (List.mem_append_right _ List.mem_cons_self) rfl
      rw [hsame _ (hne i hi hif)]
      refine hM.clean i hi fun g h => ?_
      rcases List.mem_append.1 h with h | h
      · exact hg g (List.mem_append_left _ h)
      · simp only [List.mem_singleton] at h
        subst h; exact fun e => hif e.symm
    · by_cases hif : i = L.file
      · subst hif; rw [hthis]
      · rw [hsame _ (hne i hi hif)]; exact hM.sync i hi
  · right
    refine ⟨D', by rw [w1, w5], w2, w3, fun i hi => ?_, fun D2 hc => ?_⟩
    · by_cases hif : i = L.file
      · subst hif
        rw [w4, set_same]
        show (D.f (J.first + L.file)).s ≤ ((D.f (J.first + L.file)).b ++ _).length
        rw [hM.sync _ hf, List.length_append]; omega
      · rw [w4, set_ne _ _ (hne i hi hif), hM.sync i hi]; exact Nat.le_refl _
    · obtain ⟨m, c1, c2⟩ := crs_write hf hM.sync w4 hc
      obtain ⟨j, t, t1, t2, t3, _⟩ := pbs_take (new.map Rec.par) m fun p hp => by
        obtain ⟨r, hr, rfl⟩ := List.mem_map.1 hp; exact Rec.pok (hok r hr)
      rw [t1, ← List.map_take] at c1
      rw [List.length_map] at t3
      have hsome : ∃ sj, body L.hd.i s (new.take j) = some sj := by
        have h1 : new = new.take j ++ new.drop j := (List.take_append_drop _ _).symm
        rw [h1, body_append] at hr
        obtain ⟨sj, h2, _⟩ := Option.bind_eq_some_iff.1 hr
        exact ⟨sj, h2⟩
      obtain ⟨sj, hsj⟩ := hsome
      have hL2 := hM.lay.more (new := new.take j) (fun r hr => hok r (List.mem_of_mem_take hr)) (by rw [List.length_take]; omega) t2 c1 c2 hsj
      refine ⟨_, t, sj, hL2, hroomy _, ⟨j, t3, hsj⟩, fun g hg => ?_, (htame _).safe hL2.read⟩
      rcases List.mem_append.1 hg with h | h
      · exact hser g (List.mem_append_left _ h)
      · simp only [List.mem_singleton] at h
        subst h; exact hser L hmemL
theorem drop_out {D : Dk} {J : Jn} {G : List Sg} {s s1 : PL} {k : Nat} (hM : Mid D J G s) (hk : k < G.length) (hr : rdAll true ⟨0, 0, []⟩ (G.eraseIdx k) = some s1) (hR : Roomy G J.many) (hS : Safe G) (hser : ∀ g ∈ G, g.hd.serial < 1000) :
    (∃ D', J.dropAt D k = (true, D', { J with segs := J.segs.eraseIdx k }) ∧ Mid D' { J with segs := J.segs.eraseIdx k } (G.eraseIdx k) s1 ∧ D'.armed = D.armed ∧ ∀ i, (D'.f i).b.length ≤ (D.f i).b.length) ∨
    (∃ D', J.dropAt D k = (false, D', { J with broken := true }) ∧ After J.first J.many D' fun s' => s' = s) := by
  have hfa := hM.fileAt_eq hk
  have hf := hM.lay.file _ (List.getElem_mem hk)
  obtain ⟨D', h1, h2⟩ := drp_cases (i := fileAt J.segs k) hM.up
  rcases h2 with ⟨h2, h3, h4⟩ | ⟨h2, h3, h4, h5⟩
  · left
    rw [hfa] at h4
    have hsame : ∀ i, i ≠ J.first + G[k].file → D'.f i = D.f i := fun i hi => by rw [h4]; exact set_ne _ _ hi
    have hthis : D'.f (J.first + G[k].file) = ⟨[], 0⟩ := by rw [h4]; exact set_same _ _ _
    have he : J.dropAt D k = (true, D', { J with segs := J.segs.eraseIdx k }) := by
      unfold Jn.dropAt
      rw [h2, if_pos rfl, Jn.note_zero]
    refine ⟨D', he, ⟨?_, hM.rng, ?_, hM.sound, h3, fun i hi hg => ?_, fun i hi => ?_⟩, h1, fun i => ?_⟩
    · exact hM.lay.erase hk (by show (D'.f (J.first + G[k].file)).b = []; rw [hthis]) (fun i hi hn => by show (D'.f (J.first + i)).b = _; rw [hsame _ (by omega)]) hr
    · show J.segs.eraseIdx k = _
      rw [hM.segs, List.eraseIdx_eq_take_drop_succ, List.eraseIdx_eq_take_drop_succ, List.map_append, List.map_take, List.map_drop]
    · show (D'.f (J.first + i)).b = []
      by_cases hif : i = G[k].file
      · subst hif; rw [hthis]
      · rw [hsame _ (by omega)]
        refine hM.clean i hi fun g hgm e => ?_
        obtain ⟨j, hj, rfl⟩ := List.getElem_of_mem hgm
        by_cases hjk : j = k
        · subst hjk; exact hif e.symm
        · exact hg _ (List.mem_eraseIdx_iff_getElem.2 ⟨j, hj, hjk, rfl⟩) e
    · show (D'.f (J.first + i)).s = (D'.f (J.first + i)).b.length
      by_cases hif : i = G[k].file
      · subst hif; rw [hthis]; rfl
      · rw [hsame _ (by omega)]; exact hM.sync i hi
    · by_cases hif : i = J.first + G[k].file
      · subst hif; rw [hthis]; exact Nat.zero_le _
      · rw [hsame _ hif]; exact Nat.le_refl _
  · right
    refine ⟨D', ?_, h3, by rw [h1, h5], fun i hi => by rw [h4, hM.sync i hi]; exact Nat.le_refl _, fun D2 hc => ⟨G, [], s, hM.lay.same (crs_same hM.sync h4 hc), hR, rfl, hser, hS⟩⟩
    unfold Jn.dropAt
    rw [h2, if_neg (by show ¬ (70 : Nat) = 0; omega)]
    have : J.note 70 = { J with broken := true } := by unfold Jn.note; simp
    rw [this]
end Go.Sx.Tryz
namespace Go.Sx.Tryz
open Go Go.Sx Go.Proofs
set_option linter.unusedVariables false
def Strict (G : List Sg) : Prop := G.Pairwise fun a b => a.hd.i < b.hd.i
theorem roomy_strict {G : List Sg} {many : Nat} (h : Roomy G many) (hs : Strict G) (ht : Tame G) : G.length < many := by
  rcases h with h | ⟨k, hk, h⟩
  · exact h
  · have h1 := ht (k + 1) hk (by omega)
    unfold Strict at hs
    rw [List.pairwise_iff_getElem] at hs
    have h2 := hs k (k + 1) (by omega) hk (by omega)
    rcases h with h | h
    · rw [h1] at h; cases h
    · omega
theorem eraseIdx_split {G : List Sg} {k : Nat} (h : k + 1 < G.length) : G = G.take k ++ G[k] :: G[k + 1] :: G.drop (k + 2) ∧ G.eraseIdx k = G.take k ++ G[k + 1] :: G.drop (k + 2) := by
  have e : G.drop k = G[k] :: G[k + 1] :: G.drop (k + 2) := by rw [List.drop_eq_getElem_cons (by omega), List.drop_eq_getElem_cons h]
  refine ⟨?_, ?_⟩
  · conv => lhs; rw [← List.take_append_drop k G, e]
  · rw [List.eraseIdx_eq_take_drop_succ, List.drop_eq_getElem_cons h]
theorem read_idle {G : List Sg} {s : PL} {k : Nat} (h : k + 1 < G.length) (ht : Tame G) (hle : G[k + 1].hd.i ≤ G[k].hd.i) (hr : rdAll true ⟨0, 0, []⟩ G = some s) : rdAll true ⟨0, 0, []⟩ (G.eraseIdx k) = some s := by
  obtain ⟨h1, h2⟩ := eraseIdx_split h
  rw [h2]
  rw [h1] at hr
  refine idle_at (A := G[k]) (ht (k + 1) h (by omega)) (fun hne => ht k (by omega) ?_) hle (PL.Con.nil 0 0) hr
  rcases Nat.eq_zero_or_pos k with h0 | h0
  · subst h0; simp at hne
  · exact h0
theorem eraseIdx_last {G : List Sg} {k : Nat} (h : k + 1 < G.length) : (G.eraseIdx k).getLast? = G.getLast? := by
  obtain ⟨h1, h2⟩ := eraseIdx_split h
  rw [h2]
  conv => rhs; rw [h1]
  rw [List.getLast?_append, List.getLast?_append, List.getLast?_cons_cons]
theorem idleN_out : ∀ (k : Nat) {D : Dk} {J : Jn} {G : List Sg} {s : PL}, Mid D J G s → Tame G → k < G.length → Strict (G.drop k) → Roomy G J.many → (∀ g ∈ G, g.hd.serial < 1000) →
    (∃ D' J' G', J.idleN k D = (D', J') ∧ Mid D' J' G' s ∧ J' = { J with segs := J'.segs } ∧ Tame G' ∧ Strict G' ∧ G'.Sublist G ∧ G'.getLast? = G.getLast? ∧ Roomy G' J.many ∧ D'.armed = D.armed ∧ ∀ i, (D'.f i).b.length ≤ (D.f i).b.length) ∨
    (∃ D' J', J.idleN k D = (D', J') ∧ J' = { J with segs := J'.segs, broken := true } ∧ After J.first J.many D' fun s' => s' = s)
  | 0, D, J, G, s, hM, ht, hk, hst, hR, hser => .inl ⟨D, J, G, rfl, hM, rfl, ht, by rw [List.drop_zero] at hst; exact hst, List.Sublist.refl _, rfl, hR, rfl, fun i => Nat.le_refl _⟩
  | k + 1, D, J, G, s, hM, ht, hk, hst, hR, hser => by
    have hb : ¬ J.broken = true := by rw [hM.sound]; simp
    have hstep : J.idleN (k + 1) D = if isIdle J.segs k = true then Jn.idleN k (J.dropAt D k).2.2 (J.dropAt D k).2.1 else Jn.idleN k J D := by
      rw [Jn.idleN, if_neg hb]
    have hid : isIdle J.segs k = decide (G[k + 1].hd.i ≤ G[k].hd.i) := by
      unfold isIdle
      rw [hM.anewAt_eq hk, hM.idxAt_eq hk, hM.idxAt_eq (by omega), ht (k + 1) hk (by omega), Bool.false_or]
    by_cases hle : G[k + 1].hd.i ≤ G[k].hd.i
    · have hi : isIdle J.segs k = true := by rw [hid]; exact decide_eq_true hle
      rw [if_pos hi] at hstep
      have hr := read_idle hk ht hle hM.lay.read
      have hel : (G.eraseIdx k).length = G.length - 1 := List.length_eraseIdx_of_lt (by omega)
      rcases drop_out hM (k := k) (by omega) hr hR (ht.safe hM.lay.read) hser with ⟨D1, d1, d2, d3, d4⟩ | ⟨D1, d1, d2⟩
      · rw [d1] at hstep
        have hdr : (G.eraseIdx k).drop k = G.drop (k + 1) := by
          rw [List.eraseIdx_eq_take_drop_succ, List.drop_append_of_le_length (by rw [List.length_take]; omega), List.drop_of_length_le (by rw [List.length_take]; omega), List.nil_append]
        have hlen := hM.lay.len
        rcases idleN_out k d2 (ht.sub (List.eraseIdx_sublist _ _)) (by omega) (by rw [hdr]; exact hst) (.inl (by rw [hel]; show G.length - 1 < J.many; omega)) (fun g hg => hser g (List.mem_of_mem_eraseIdx hg)) with ⟨D', J', G', e1, e2, e3, e4, e5, e6, e7, e8, e9, e10⟩ | ⟨D', J', e1, e2, e3⟩
        · exact .inl ⟨D', J', G', by rw [hstep]; exact e1, e2, e3, e4, e5, e6.trans (List.eraseIdx_sublist _ _), by rw [e7, eraseIdx_last hk], e8, by rw [e9, d3], fun i => Nat.le_trans (e10 i) (d4 i)⟩
        · exact .inr ⟨D', J', by rw [hstep]; exact e1, e2, e3⟩
      · rw [d1] at hstep
        have hfix : Jn.idleN k { J with broken := true } D1 = (D1, { J with broken := true }) := by
          cases k with
          | zero => rfl
          | succ k => rw [Jn.idleN, if_pos rfl]
        exact .inr ⟨D1, { J with broken := true }, by rw [hstep]; exact hfix, rfl, d2⟩
    · have hi : ¬ isIdle J.segs k = true := by rw [hid]; simpa using hle
      rw [if_neg hi] at hstep
      rw [hstep]
      refine idleN_out k hM ht (by omega) ?_ hR hser
      unfold Strict at hst ⊢
      rw [List.drop_eq_getElem_cons (by omega)]
      refine List.pairwise_cons.2 ⟨fun g hg => ?_, hst⟩
      rw [List.drop_eq_getElem_cons hk] at hg hst
      rcases List.mem_cons.1 hg with rfl | hg
      · omega
      · have := (List.pairwise_cons.1 hst).1 g hg
        omega
theorem lastNew_tame {D : Dk} {J : Jn} {G : List Sg} {s : PL} (hM : Mid D J G s) (ht : Tame G) : ∀ k, k < G.length → lastNew J.segs k = 0
  | 0, _ => rfl
  | k + 1, h => by
    unfold lastNew
    rw [hM.anewAt_eq h, ht (k + 1) h (by omega)]
    exact lastNew_tame hM ht k (by omega)
theorem begun_tame {D : Dk} {J : Jn} {G : List Sg} {s : PL} (hM : Mid D J G s) (ht : Tame G) (hne : G ≠ []) : J.begun D = (D, J) := by
  have h0 : 0 < G.length := List.length_pos_iff.2 hne
  unfold Jn.begun
  rw [hM.segLen, lastNew_tame hM ht _ (by omega)]; rfl
theorem strict_one {G : List Sg} (h : G ≠ []) : Strict (G.drop (G.length - 1)) := by
  have h0 : 0 < G.length := List.length_pos_iff.2 h
  have : G.drop (G.length - 1) = [G[G.length - 1]] := by
    rw [List.drop_eq_getElem_cons (by omega), List.drop_of_length_le (by omega)]
  unfold Strict
  rw [this]; exact List.pairwise_singleton _ _
theorem idle_out {D : Dk} {J : Jn} {G : List Sg} {s : PL} (hM : Mid D J G s) (ht : Tame G) (hne : G ≠ []) (hR : Roomy G J.many) (hser : ∀ g ∈ G, g.hd.serial < 1000) :
    (∃ D' J' G', J.idle D = (D', J') ∧ Mid D' J' G' s ∧ J' = { J with segs := J'.segs } ∧ Tame G' ∧ Strict G' ∧ G'.Sublist G ∧ G'.getLast? = G.getLast? ∧ Roomy G' J.many ∧ D'.armed = D.armed ∧ ∀ i, (D'.f i).b.length ≤ (D.f i).b.length) ∨
    (∃ D' J', J.idle D = (D', J') ∧ J' = { J with segs := J'.segs, broken := true } ∧ After J.first J.many D' fun s' => s' = s) := by
  have hb := begun_tame hM ht hne
  have hi : J.idle D = J.idleN (G.length - 1) D := by
    unfold Jn.idle
    rw [hb]
    simp only
    rw [if_neg (by rw [hM.sound]; simp), hM.segLen]
  rw [hi]
  have h0 : 0 < G.length := List.length_pos_iff.2 hne
  exact idleN_out _ hM ht (by omega) (strict_one hne) hR hser
structure Rest (D : Dk) (J : Jn) (G : List Sg) (s : PL) : Prop where
  mid : Mid D J G s
  ne : G ≠ []
  room : G.length < J.many
  mono : G.Pairwise fun a b => a.hd.i ≤ b.hd.i
  tame : Tame G
theorem Strict.mono {G : List Sg} (h : Strict G) : G.Pairwise fun a b => a.hd.i ≤ b.hd.i := h.imp fun h => Nat.le_of_lt h
structure Bnd (D : Dk) (J : Jn) (G : List Sg) (s : PL) (n : Nat) : Prop where
  fl : ∀ i, i < J.many → (D.f (J.first + i)).b.length ≤ 3000 * n + 100
  sr : ∀ g ∈ G, g.hd.serial ≤ n
  rl : ∀ g ∈ G, g.rs.length ≤ 5 * n
  el : s.es.length ≤ 5 * n
  li : s.last.1 ≤ 10 * n
  ft : s.ft ≤ 10 * n
  et : ∀ e ∈ s.es, e.t ≤ 10 * n
theorem PL.last_mem (s : PL) : s.es = [] ∧ s.last = (s.fi, s.ft) ∨ ∃ e ∈ s.es, s.last = (e.i, e.t) := by
  cases h : s.es.getLast? with
  | none =>
    rw [List.getLast?_eq_none_iff] at h
    exact .inl ⟨h, PL.last_nil h⟩
  | some e =>
    refine .inr ⟨e, List.mem_of_getLast? h, ?_⟩
    unfold PL.last; rw [h]
theorem Bnd.lt {D : Dk} {J : Jn} {G : List Sg} {s : PL} {n : Nat} (h : Bnd D J G s n) : s.last.2 ≤ 10 * n := by
  rcases s.last_mem with ⟨_, e⟩ | ⟨x, hx, e⟩
  · rw [e]; exact h.ft
  · rw [e]; exact h.et x hx
theorem Bnd.fi {D : Dk} {J : Jn} {G : List Sg} {s : PL} {n : Nat} (h : Bnd D J G s n) (hc : s.Con) : s.fi ≤ 10 * n := by
  have := hc.last; have := h.li; omega
theorem Bnd.up {D : Dk} {J : Jn} {G : List Sg} {s : PL} {n m : Nat} (h : Bnd D J G s n) (hm : n ≤ m) : Bnd D J G s m :=
  ⟨fun i hi => by have := h.fl i hi; omega, fun g hg => by have := h.sr g hg; omega, fun g hg => by have := h.rl g hg; omega, by have := h.el; omega, by have := h.li; omega, by have := h.ft; omega, fun e he => by have := h.et e he; omega⟩
theorem begin_last {s : PL} (hc : s.Con) (n : Nat) : s.begin ⟨n, false, s.last.1, s.last.2⟩ false = some s := by
  unfold PL.begin
  rw [if_neg (by simp)]
  show s.to s.last.1 s.last.2 = some s
  rw [PL.to_of hc (PL.has_last hc), PL.cutAt_last hc]
theorem snoc_of_ne {G : List Sg} (h : G ≠ []) : ∃ G0 L, G = G0 ++ [L] := ⟨G.dropLast, G.getLast h, (List.dropLast_concat_getLast h).symm⟩
theorem ents_pbs (l : List Ent) : entB l = pbs ((l.map Rec.en).map Rec.par) := by
  unfold entB pbs
  rw [List.map_map, List.flatMap_map]; rfl
theorem read_last {D : Dk} {J : Jn} {G : List Sg} {s : PL} (hM : Mid D J G s) (hne : G ≠ []) (f : Nat) : rdAll true ⟨0, 0, []⟩ (G ++ [⟨f, J.fix ⟨0, false, s.last.1, s.last.2⟩, []⟩]) = some s := by
  rw [rd_head hne hM.lay.read, PL.begin_fix, begin_last hM.lay.con]
theorem Tame.put {G : List Sg} {f : Nat} {h : Hd} (ht : Tame G) (ha : h.anew = false) : Tame (G ++ [⟨f, h, []⟩]) := by
  intro k hk h0
  rcases Nat.lt_or_ge k G.length with h1 | h1
  · rw [List.getElem_append_left h1]; exact ht k h1 h0
  · have : k = G.length := by simp at hk; omega
    subst this
    rw [List.getElem_append_right (Nat.le_refl _)]
    simpa using ha
theorem append_out {D : Dk} {J : Jn} {G : List Sg} {s : PL} {n : Nat} {l : List Ent} (hX : Rest D J G s) (hB : Bnd D J G s n) (hn : n < 100) (hlog : J.log.last.1.i = s.last.1 ∧ J.log.last.1.t = s.last.2) (hl : l.length ≤ 4) (hok : okAll s.last l = true) (hli : ∀ e ∈ l, e.t ≤ 10 * n + 10 ∧ e.i ≤ 10 * n + 10) :
    (∃ D' J' G', J.appD D l = (0, D', J') ∧ J' = { J with segs := J'.segs } ∧ Rest D' J' G' { s with es := s.es ++ l } ∧ Bnd D' J' G' { s with es := s.es ++ l } (n + 1) ∧ D'.armed = D.armed) ∨
    (∃ D' J', J.appD D l = (70, D', J') ∧ J' = { J with segs := J'.segs, broken := true } ∧ After J.first J.many D' fun s' => ∃ j, j ≤ l.length ∧ s' = { s with es := s.es ++ l.take j }) := by
  have hM := hX.mid
  have hcon := hM.lay.con
  have hser : ∀ g ∈ G, g.hd.serial < 999 := fun g hg => by have := hB.sr g hg; omega
  have hbr : ¬ J.broken = true := by rw [hM.sound]; simp
  have hlp : (J.log.last.1.i, J.log.last.1.t) = s.last := by rw [hlog.1, hlog.2]
  have hae : J.appD D l = if (J.turn D).2.broken = true then (70, J.turn D) else
      if ((J.turn D).2.write (J.turn D).1 (J.turn D).2.cur (entB l)).1 = true then (0, ((J.turn D).2.write (J.turn D).1 (J.turn D).2.cur (entB l)).2)
      else (70, ((J.turn D).2.write (J.turn D).1 (J.turn D).2.cur (entB l)).2) := by rw [Jn.appD, if_neg hbr, hlp, if_neg (by rw [hok]; simp)]
  have hentl : (entB l).length ≤ 2240 := by
    have := entB_len (okAll_ok hok)
    have h2 : l.length * 560 ≤ 4 * 560 := Nat.mul_le_mul_right _ hl
    omega
  have hrec : ∀ r ∈ l.map Rec.en, r.ok := by
    intro r hr
    obtain ⟨e, he, rfl⟩ := List.mem_map.1 hr
    exact okAll_ok hok e he
  have wr : ∀ (D1 : Dk) (J1 : Jn) (G0 : List Sg) (L : Sg), Mid D1 J1 (G0 ++ [L]) s → (G0 ++ [L]).length < J1.many → (G0 ++ [L]).Pairwise (fun a b => a.hd.i ≤ b.hd.i) → Tame (G0 ++ [L]) → J1 = { J with segs := J1.segs } → D1.armed = D.armed → (∀ g ∈ G0 ++ [L], g.hd.serial ≤ n + 1) → (∀ g ∈ G0 ++ [L], g.rs.length ≤ 5 * n) → (∀ i, i < J.many → (D1.f (J.first + i)).b.length ≤ 3000 * n + 100) → J.turn D = (D1, J1) →
      (∃ D' J' G', J.appD D l = (0, D', J') ∧ J' = { J with segs := J'.segs } ∧ Rest D' J' G' { s with es := s.es ++ l } ∧ Bnd D' J' G' { s with es := s.es ++ l } (n + 1) ∧ D'.armed = D.armed) ∨
      (∃ D' J', J.appD D l = (70, D', J') ∧ J' = { J with segs := J'.segs, broken := true } ∧ After J.first J.many D' fun s' => ∃ j, j ≤ l.length ∧ s' = { s with es := s.es ++ l.take j }) := by
    intro D1 J1 G0 L hM1 hroom1 hmono1 htame1 hJ1 harm hsr hrl hfl hturn
    have hf1 : J1.first = J.first := by rw [hJ1]
    have hm1 : J1.many = J.many := by rw [hJ1]
    have hmemL : L ∈ G0 ++ [L] := List.mem_append_right _ List.mem_cons_self
    have hLf := hM1.lay.file L hmemL
    have hbody : body L.hd.i s (l.map Rec.en) = some { s with es := s.es ++ l } := body_ents hok
    have hLlen := hrl L hmemL
    rw [hturn] at hae
    simp only at hae
    rw [if_neg (by rw [hM1.sound]; simp), ents_pbs] at hae
    rcases more_out hM1 hrec (by rw [List.length_map]; omega) hbody (by rw [← ents_pbs, hf1]; have := hfl _ (by rw [← hm1]; exact hLf); omega) (.inl hroom1) htame1 (fun g hg => by have := hsr g hg; omega) with ⟨D', w1, w2, w3, w4, w5⟩ | ⟨D', w1, w2⟩
    · left
      rw [w1] at hae
      refine ⟨D', J1, _, hae, hJ1, ⟨w2, by simp, by simpa using hroom1, ?_, ?_⟩, ⟨fun i hi => ?_, fun g hg => ?_, fun g hg => ?_, ?_, ?_, ?_, fun e he => ?_⟩, by rw [w3, harm]⟩
      · refine List.pairwise_append.2 ⟨(List.pairwise_append.1 hmono1).1, List.pairwise_singleton _ _, ?_⟩
        intro a ha b hb
        simp only [List.mem_singleton] at hb
        subst hb
        exact (List.pairwise_append.1 hmono1).2.2 a ha L List.mem_cons_self
      · intro k hk h0
        have := htame1 k (by simpa using hk) h0
        rcases Nat.lt_or_ge k G0.length with h1 | h1
        · rw [List.getElem_append_left h1] at this ⊢; exact this
        · have hkk : k = G0.length := by simp at hk; omega
          subst hkk
          rw [List.getElem_append_right (Nat.le_refl _)] at this ⊢
          simpa using this
      · rw [hm1] at hi
        have h1 := hfl i hi
        rw [hf1]
        by_cases hif : i = L.file
        · subst hif
          rw [hf1] at w4
          rw [w4, ← ents_pbs]; omega
        · rw [w5 _ (by rw [hf1]; omega)]; omega
      · rcases List.mem_append.1 hg with h | h
        · exact hsr g (List.mem_append_left _ h)
        · simp only [List.mem_singleton] at h
          subst h; exact hsr L hmemL
      · rcases List.mem_append.1 hg with h | h
        · have := hrl g (List.mem_append_left _ h); omega
        · simp only [List.mem_singleton] at h
          subst h
          show (L.rs ++ l.map Rec.en).length ≤ _
          rw [List.length_append, List.length_map]; omega
      · show (s.es ++ l).length ≤ _
        have := hB.el
        rw [List.length_append]; omega
      · rcases PL.last_mem { s with es := s.es ++ l } with ⟨h, _⟩ | ⟨e, he, h⟩
        · have h : s.es ++ l = [] := h
          obtain ⟨h3, h4⟩ := List.append_eq_nil_iff.1 h
          have : (PL.last { s with es := s.es ++ l }).1 = s.last.1 := by rw [h4, List.append_nil]
          rw [this]; have := hB.li; omega
        · rw [h]
          have he : e ∈ s.es ++ l := he
          show e.i ≤ _
          rcases List.mem_append.1 he with he | he
          · obtain ⟨k, hk, rfl⟩ := List.getElem_of_mem he
            have := hcon k hk
            have := hcon.last
            have := hB.li
            omega
          · have := (hli e he).2; omega
      · have := hB.ft
        show s.ft ≤ _; omega
      · have he : e ∈ s.es ++ l := he
        rcases List.mem_append.1 he with he | he
        · have := hB.et e he; omega
        · have := (hli e he).1; omega
    · right
      rw [w1] at hae
      refine ⟨D', { J1 with broken := true }, hae, by rw [hJ1], ?_⟩
      rw [hf1, hm1] at w2
      refine w2.mono fun s' ⟨j, h1, h2⟩ => ?_
      rw [List.length_map] at h1
      refine ⟨j, h1, ?_⟩
      rw [← List.map_take] at h2
      have h3 : okAll s.last (l.take j) = true := by
        have h4 : l = l.take j ++ l.drop j := (List.take_append_drop _ _).symm
        rw [h4, okAll_append, Bool.and_eq_true] at hok
        exact hok.1
      rw [body_ents h3] at h2
      exact (Option.some.inj h2).symm
  obtain ⟨G0, L, hGL⟩ := snoc_of_ne hX.ne
  by_cases hturn : J.each ≤ (D.f J.cur).b.length ∧ 1 < J.free.length
  · have ht : J.turn D = (J.start D ⟨0, false, s.last.1, s.last.2⟩).2 := by
      unfold Jn.turn; rw [if_pos hturn, hlog.1, hlog.2]
    have hfl := hM.free_len (fun g hg => by have := hser g hg; omega)
    obtain ⟨x1, x2, x3, x4, x5⟩ := fix_facts hM ⟨0, false, s.last.1, s.last.2⟩
    have hsL : (J.fix ⟨0, false, s.last.1, s.last.2⟩).serial ≤ n + 1 := by
      have hgl : G.getLast? = some L := by rw [hGL]; simp
      rw [x4 L hgl]
      have := hB.sr L (List.mem_of_getLast? hgl); omega
    have hfok : (J.fix ⟨0, false, s.last.1, s.last.2⟩).ok := by
      have := hB.li
      have := hB.lt
      exact ⟨by unfold MaxI; omega, by rw [x1]; unfold MaxI; show s.last.1 ≤ _; omega, by rw [x2]; unfold MaxI; show s.last.2 ≤ _; omega⟩
    have hlen2 : ∀ f, (G ++ [(⟨f, J.fix ⟨0, false, s.last.1, s.last.2⟩, []⟩ : Sg)]).length < J.many := fun f => by
      rw [List.length_append, List.length_singleton]
      have := hturn.2
      omega
    have htm : ∀ f, Tame (G ++ [(⟨f, J.fix ⟨0, false, s.last.1, s.last.2⟩, []⟩ : Sg)]) := fun f => hX.tame.put x3
    rcases start_out hM hX.room hser hfok (read_last hM hX.ne) (fun f => .inl (hlen2 f)) (.inl hX.room) (hX.tame.safe hM.lay.read) (fun f => (htm f).safe (read_last hM hX.ne f)) (by omega) with ⟨f, D1, f1, f2, f3, f4, f5, f6⟩ | ⟨D1, f1, f2⟩
    · rw [f2] at ht
      refine wr D1 _ G ⟨f, J.fix ⟨0, false, s.last.1, s.last.2⟩, []⟩ f3 (hlen2 f) ?_ (htm f) rfl f4 (fun g hg => ?_) (fun g hg => ?_) (fun i hi => ?_) ht
      · refine List.pairwise_append.2 ⟨hX.mono, List.pairwise_singleton _ _, ?_⟩
        intro a ha b hb
        simp only [List.mem_singleton] at hb
        subst hb
        show a.hd.i ≤ (J.fix _).i
        rw [x1]
        show a.hd.i ≤ s.last.1
        have hmono := hX.mono
        have hr := hM.lay.read
        rw [hGL] at hr hmono ha
        have hLl : L.hd.i ≤ s.last.1 := by
          have hrs : ∃ o g0, g0.Con ∧ rdSeg o g0 L = some s := by
            rcases Decidable.em (G0 = []) with h0 | h0
            · subst h0
              have hr : rdAll true ⟨0, 0, []⟩ [L] = some s := hr
              refine ⟨true, ⟨0, 0, []⟩, PL.Con.nil 0 0, ?_⟩
              obtain ⟨g1, h1, h2⟩ := Option.bind_eq_some_iff.1 hr
              rw [h1]; exact h2
            · rw [rdAll_append _ _ _ _ h0] at hr
              obtain ⟨g1, h1, h2⟩ := Option.bind_eq_some_iff.1 hr
              obtain ⟨g2, h3, h4⟩ := Option.bind_eq_some_iff.1 h2
              refine ⟨false, g1, rdAll_con (PL.Con.nil 0 0) h1, ?_⟩
              rw [h3]; exact h4
          obtain ⟨o, g0, hc0, hrs⟩ := hrs
          obtain ⟨g1, k1, k2, k3, k4, k5, k6, k7⟩ := rdSeg_info hc0 hrs
          obtain ⟨m1, m2, m3, m4, m5⟩ := body_pre k3 k4 k2
          have := m1.last
          omega
        rcases List.mem_append.1 ha with h | h
        · have := (List.pairwise_append.1 hmono).2.2 a h L List.mem_cons_self
          omega
        · simp only [List.mem_singleton] at h
          subst h; exact hLl
      · rcases List.mem_append.1 hg with h | h
        · have := hB.sr g h; omega
        · simp only [List.mem_singleton] at h
          subst h; exact hsL
      · rcases List.mem_append.1 hg with h | h
        · exact hB.rl g h
        · simp only [List.mem_singleton] at h
          subst h; exact Nat.zero_le _
      · by_cases hif : i = f
        · subst hif; omega
        · rw [f6 _ (by omega)]; exact hB.fl i hi
    · rw [f1] at ht
      right
      rw [ht] at hae
      simp only at hae
      rw [if_pos trivial] at hae
      refine ⟨D1, _, hae, rfl, f2.mono fun s' h => ⟨0, Nat.zero_le _, ?_⟩⟩
      rw [List.take_zero, List.append_nil]
      rcases h with h | h <;> exact h
  · have ht : J.turn D = (D, J) := by unfold Jn.turn; rw [if_neg hturn]
    subst hGL
    exact wr D J G0 L hM hX.room hX.mono hX.tame rfl rfl (fun g hg => by have := hB.sr g hg; omega) hB.rl hB.fl ht
end Go.Sx.Tryz
namespace Go.Sx.Tryz
open Go Go.Sx Go.Proofs
set_option linter.unusedVariables false
theorem newest_le {G0 : List Sg} {L : Sg} {s : PL} (hr : rdAll true ⟨0, 0, []⟩ (G0 ++ [L]) = some s) : L.hd.i ≤ s.last.1 := by
  have hrs : ∃ o g0, g0.Con ∧ rdSeg o g0 L = some s := by
    rcases Decidable.em (G0 = []) with h0 | h0
    · subst h0
      have hr : rdAll true ⟨0, 0, []⟩ [L] = some s := hr
      refine ⟨true, ⟨0, 0, []⟩, PL.Con.nil 0 0, ?_⟩
      obtain ⟨g1, h1, h2⟩ := Option.bind_eq_some_iff.1 hr
      rw [h1]; exact h2
    · rw [rdAll_append _ _ _ _ h0] at hr
      obtain ⟨g1, h1, h2⟩ := Option.bind_eq_some_iff.1 hr
      obtain ⟨g2, h3, h4⟩ := Option.bind_eq_some_iff.1 h2
      refine ⟨false, g1, rdAll_con (PL.Con.nil 0 0) h1, ?_⟩
      rw [h3]; exact h4
  obtain ⟨o, g0, hc0, hrs⟩ := hrs
  obtain ⟨g1, k1, k2, k3, k4, k5, k6, k7⟩ := rdSeg_info hc0 hrs
  obtain ⟨m1, m2, m3, m4, m5⟩ := body_pre k3 k4 k2
  have := m1.last
  omega
theorem PL.has_cut {g : PL} {m i t : Nat} (h : (g.cutAt m).has i t) : g.has i t := by
  refine ⟨h.1, h.2.1, fun hlt => ?_⟩
  obtain ⟨e, he, het⟩ := h.2.2 hlt
  refine ⟨e, ?_, het⟩
  have he : (g.es.take (m - g.fi))[i - g.fi - 1]? = some e := he
  rw [List.getElem?_take] at he
  split at he
  · exact he
  · cases he
theorem begin_cut {s : PL} (hc : s.Con) {m : Nat} (h1 : s.fi ≤ m) (h2 : m ≤ s.last.1) (n : Nat) : s.begin ⟨n, false, (s.cutAt m).last.1, (s.cutAt m).last.2⟩ false = some (s.cutAt m) := by
  have hl := (hc.cutAt m).last
  have hlen : (s.cutAt m).es.length = m - s.fi := by
    have := hc.last
    show (s.es.take (m - s.fi)).length = _
    rw [List.length_take]; omega
  have hf : (s.cutAt m).fi = s.fi := rfl
  unfold PL.begin
  rw [if_neg (by simp)]
  show s.to (s.cutAt m).last.1 (s.cutAt m).last.2 = _
  rw [PL.to_of hc (PL.has_cut (PL.has_last (hc.cutAt m)))]
  have : (s.cutAt m).last.1 = m := by omega
  rw [this]
theorem Lg.pure_upto (g : Lg) (fr : Nat) : (g.upto fr).pure = g.pure.cutAt (fr - 1) := by
  unfold Lg.upto Lg.pure PL.cutAt
  simp only [List.map_take]
theorem Bnd.cutAt {D : Dk} {J : Jn} {G : List Sg} {s : PL} {n m : Nat} (h : Bnd D J G s n) (hc : s.Con) : (s.cutAt m).es.length ≤ 5 * n ∧ (s.cutAt m).last.1 ≤ 10 * n ∧ (s.cutAt m).ft ≤ 10 * n ∧ ∀ e ∈ (s.cutAt m).es, e.t ≤ 10 * n := by
  have h1 : (s.cutAt m).es.length ≤ s.es.length := by show (s.es.take _).length ≤ _; rw [List.length_take]; omega
  have hl := (hc.cutAt m).last
  have hl2 := hc.last
  have hf : (s.cutAt m).fi = s.fi := rfl
  have := h.el
  have := h.li
  exact ⟨by omega, by omega, h.ft, fun e he => h.et e (List.mem_of_mem_take he)⟩
theorem sub_bnd {D D' : Dk} {J J' : Jn} {G G' : List Sg} {s s' : PL} {n : Nat} (h : Bnd D J G s n) (hf : J'.first = J.first) (hm : J'.many = J.many) (hfl : ∀ i, i < J.many → (D'.f (J.first + i)).b.length ≤ 3000 * n + 100) (hg : ∀ g ∈ G', g.hd.serial ≤ n ∧ g.rs.length ≤ 5 * n) (hs : s'.es.length ≤ 5 * n ∧ s'.last.1 ≤ 10 * n ∧ s'.ft ≤ 10 * n ∧ ∀ e ∈ s'.es, e.t ≤ 10 * n) : Bnd D' J' G' s' n :=
  ⟨fun i hi => by rw [hf]; exact hfl i (by rw [← hm]; exact hi), fun g h => (hg g h).1, fun g h => (hg g h).2, hs.1, hs.2.1, hs.2.2.1, hs.2.2.2⟩
theorem another_eq {J : Jn} {D : Dk} {h : Hd} (hf : J.free ≠ []) : J.another D h = ((if (J.start D h).1 = true then 0 else 70), (J.start D h).2) := by unfold Jn.another; rw [if_neg hf]
theorem Mid.relog {D : Dk} {J : Jn} {G : List Sg} {s : PL} (h : Mid D J G s) (l : Lg) : Mid D { J with log := l } G s := ⟨h.lay, h.rng, h.segs, h.sound, h.up, h.clean, h.sync⟩
theorem cut_out {D : Dk} {J : Jn} {G : List Sg} {s : PL} {n fr : Nat} (hX : Rest D J G s) (hB : Bnd D J G s n) (hn : n < 100) (hlog : J.log.pure = s) (h1 : s.fi < fr) (h2 : fr ≤ s.last.1 + 1) :
    (∃ D' J' G', J.cutJ D fr = (0, D', J') ∧ J' = { J with segs := J'.segs, log := J.log.upto fr } ∧ Rest D' J' G' (s.cutAt (fr - 1)) ∧ Bnd D' J' G' (s.cutAt (fr - 1)) (n + 1) ∧ D'.armed = D.armed) ∨
    (∃ D' J', J.cutJ D fr = (70, D', J') ∧ After J.first J.many D' fun s' => s' = s ∨ s' = s.cutAt (fr - 1)) := by
  have hM := hX.mid
  have hcon := hM.lay.con
  have hser : ∀ g ∈ G, g.hd.serial < 999 := fun g hg => by have := hB.sr g hg; omega
  have hbr : ¬ J.broken = true := by rw [hM.sound]; simp
  have hpl := Lg.pure_last J.log
  rw [hlog] at hpl
  have hl1 : J.log.last.1.i = s.last.1 := by rw [hpl]
  have hfi : J.log.fi = s.fi := by rw [← hlog]; rfl
  have hmay : ¬ mayB J.log.fi J.log.last.1.i fr = false := by
    rw [hl1, hfi]
    unfold mayB
    simp only [Bool.and_eq_false_iff, decide_eq_false_iff_not]
    omega
  have hpu := Lg.pure_upto J.log fr
  rw [hlog] at hpu
  have hpul := Lg.pure_last (J.log.upto fr)
  rw [hpu] at hpul
  obtain ⟨G0, L, hGL⟩ := snoc_of_ne hX.ne
  have hidx : idxAt J.segs (J.segs.length - 1) = L.hd.i := by
    have h0 : 0 < G.length := List.length_pos_iff.2 hX.ne
    rw [hM.segLen, hM.idxAt_eq (by omega)]
    subst hGL
    simp
  have hce : J.cutJ D fr = if fr ≤ L.hd.i then
      (if (J.another D ⟨0, false, (s.cutAt (fr - 1)).last.1, (s.cutAt (fr - 1)).last.2⟩).1 ≠ 0 then J.another D ⟨0, false, (s.cutAt (fr - 1)).last.1, (s.cutAt (fr - 1)).last.2⟩ else
      ((Jn.idle { (J.another D ⟨0, false, (s.cutAt (fr - 1)).last.1, (s.cutAt (fr - 1)).last.2⟩).2.2 with log := J.log.upto fr } (J.another D ⟨0, false, (s.cutAt (fr - 1)).last.1, (s.cutAt (fr - 1)).last.2⟩).2.1).2.ans,
       Jn.idle { (J.another D ⟨0, false, (s.cutAt (fr - 1)).last.1, (s.cutAt (fr - 1)).last.2⟩).2.2 with log := J.log.upto fr } (J.another D ⟨0, false, (s.cutAt (fr - 1)).last.1, (s.cutAt (fr - 1)).last.2⟩).2.1))
      else if (J.write D J.cur (parcelB 3 (natB fr))).1 = true then
        (0, (J.write D J.cur (parcelB 3 (natB fr))).2.1, { (J.write D J.cur (parcelB 3 (natB fr))).2.2 with log := J.log.upto fr })
      else (70, (J.write D J.cur (parcelB 3 (natB fr))).2) := by
    rw [Jn.cutJ, if_neg hbr, if_neg hmay, hidx]
    rw [show (J.log.upto fr).last.1.i = (s.cutAt (fr - 1)).last.1 by rw [hpul], show (J.log.upto fr).last.1.t = (s.cutAt (fr - 1)).last.2 by rw [hpul]]
    rfl
  have hbc := hB.cutAt (m := fr - 1) hcon
  have hcl : (s.cutAt (fr - 1)).last.1 = fr - 1 := by
    have hl := (hcon.cutAt (fr - 1)).last
    have hlen : (s.cutAt (fr - 1)).es.length = fr - 1 - s.fi := by
      have := hcon.last
      show (s.es.take (fr - 1 - s.fi)).length = _
      rw [List.length_take]; omega
    have hf : (s.cutAt (fr - 1)).fi = s.fi := rfl
    omega
  have hct : (s.cutAt (fr - 1)).last.2 ≤ 10 * n := by
    rcases PL.last_mem (s.cutAt (fr - 1)) with ⟨_, e⟩ | ⟨x, hx, e⟩
    · rw [e]; exact hbc.2.2.1
    · rw [e]; exact hbc.2.2.2 x hx
  by_cases hle : fr ≤ L.hd.i
  · rw [if_pos hle] at hce
    obtain ⟨x1, x2, x3, x4, x5⟩ := fix_facts hM ⟨0, false, (s.cutAt (fr - 1)).last.1, (s.cutAt (fr - 1)).last.2⟩
    have hgl : G.getLast? = some L := by rw [hGL]; simp
    have hsL : (J.fix ⟨0, false, (s.cutAt (fr - 1)).last.1, (s.cutAt (fr - 1)).last.2⟩).serial ≤ n + 1 := by
      rw [x4 L hgl]
      have := hB.sr L (List.mem_of_getLast? hgl); omega
    have hfok : (J.fix ⟨0, false, (s.cutAt (fr - 1)).last.1, (s.cutAt (fr - 1)).last.2⟩).ok :=
      ⟨by unfold MaxI; omega, by rw [x1]; unfold MaxI; have := hbc.2.1; show (s.cutAt (fr - 1)).last.1 ≤ _; omega, by rw [x2]; unfold MaxI; show (s.cutAt (fr - 1)).last.2 ≤ _; omega⟩
    have hrd : ∀ f, rdAll true ⟨0, 0, []⟩ (G ++ [⟨f, J.fix ⟨0, false, (s.cutAt (fr - 1)).last.1, (s.cutAt (fr - 1)).last.2⟩, []⟩]) = some (s.cutAt (fr - 1)) := fun f => by
      rw [rd_head hX.ne hM.lay.read, PL.begin_fix, begin_cut hcon (by omega) (by omega)]
    have htm : ∀ f, Tame (G ++ [(⟨f, J.fix ⟨0, false, (s.cutAt (fr - 1)).last.1, (s.cutAt (fr - 1)).last.2⟩, []⟩ : Sg)]) := fun f => hX.tame.put x3
    have hrm : ∀ f, Roomy (G ++ [(⟨f, J.fix ⟨0, false, (s.cutAt (fr - 1)).last.1, (s.cutAt (fr - 1)).last.2⟩, []⟩ : Sg)]) J.many := fun f => by
      have h0 : 0 < G.length := List.length_pos_iff.2 hX.ne
      refine .inr ⟨G.length - 1, by simp; omega, .inr ?_⟩
      rw [List.getElem_append_left (show G.length - 1 < G.length by omega)]
      have e1 : G.length - 1 + 1 = G.length := by omega
      rw [List.getElem_append_right (by omega)]
      have e2 : (G[G.length - 1]'(by omega)) = L := by
        rw [List.getLast?_eq_getElem?, List.getElem?_eq_getElem (by omega)] at hgl
        exact Option.some.inj hgl
      rw [e2]
      simp only [e1, Nat.sub_self, List.getElem_cons_zero]
      rw [x1]
      show (s.cutAt (fr - 1)).last.1 ≤ _
      omega
    obtain ⟨f0, l0, hfr0, _, _⟩ := hM.free_some (fun g hg => by have := hser g hg; omega) hX.room
    have han := another_eq (J := J) (D := D) (h := ⟨0, false, (s.cutAt (fr - 1)).last.1, (s.cutAt (fr - 1)).last.2⟩) (by rw [hfr0]; simp)
    rcases start_out hM hX.room hser hfok hrd hrm (.inl hX.room) (hX.tame.safe hM.lay.read) (fun f => (htm f).safe (hrd f)) (by omega) with ⟨f, D1, f1, f2, f3, f4, f5, f6⟩ | ⟨D1, f1, f2⟩
    · rw [f2] at han
      rw [han] at hce
      simp only [if_true, ne_eq, not_true_eq_false, if_false] at hce
      have hser2 : ∀ g ∈ G ++ [(⟨f, J.fix ⟨0, false, (s.cutAt (fr - 1)).last.1, (s.cutAt (fr - 1)).last.2⟩, []⟩ : Sg)], g.hd.serial ≤ n + 1 ∧ g.rs.length ≤ 5 * (n + 1) := by
        intro g hg
        rcases List.mem_append.1 hg with h | h
        · have := hB.sr g h; have := hB.rl g h; omega
        · simp only [List.mem_singleton] at h
          subst h; exact ⟨hsL, Nat.zero_le _⟩
      have hM2 := f3.relog (J.log.upto fr)
      rcases idle_out hM2 (htm f) (by simp) (hrm f) (fun g hg => by have := (hser2 g hg).1; omega) with ⟨D', J', G', e1, e2, e3, e4, e5, e6, e7, e8, e9, e10⟩ | ⟨D', J', e1, e2, e3⟩
      · left
        rw [e1] at hce
        have hans : J'.ans = 0 := by unfold Jn.ans; rw [e2.sound]; simp
        simp only [hans] at hce
        have hf' : J'.first = J.first := by rw [e3]
        have hm' : J'.many = J.many := by rw [e3]
        have hne' : G' ≠ [] := by
          intro h; rw [h] at e7; simp at e7
        refine ⟨D', J', G', hce, by rw [e3], ⟨e2, hne', by rw [hm']; exact roomy_strict e8 e5 e4, e5.mono, e4⟩, sub_bnd (hB.up (Nat.le_succ n)) hf' hm' (fun i hi => ?_) (fun g hg => hser2 g (e6.subset hg)) ⟨by have := hbc.1; omega, by have := hbc.2.1; omega, by have := hbc.2.2.1; omega, fun e he => by have := hbc.2.2.2 e he; omega⟩, by rw [e9, f4]⟩
        refine Nat.le_trans (e10 _) ?_
        by_cases hif : i = f
        · subst hif; omega
        · rw [f6 _ (by omega)]; have := hB.fl i hi; omega
      · right
        rw [e1] at hce
        have hans : J'.ans = 70 := by unfold Jn.ans; rw [e2]; simp
        simp only [hans] at hce
        exact ⟨D', J', hce, e3.mono fun s' h => .inr h⟩
    · right
      rw [f1] at han
      rw [han] at hce
      have h70 : (if (false, D1, ({ J with broken := true } : Jn)).1 = true then 0 else 70) = 70 := rfl
      simp only [Bool.false_eq_true, if_false] at hce
      rw [if_pos (by decide)] at hce
      exact ⟨D1, _, hce, f2⟩
  · rw [if_neg hle] at hce
    have hpb : parcelB 3 (natB fr) = pbs ([Rec.ct fr].map Rec.par) := by
      show _ = pbs [(3, natB fr)]
      rw [pbs_cons]; show _ = _ ++ []; rw [List.append_nil]
    have hplen := parcelB_len 3 (natB fr)
    have hnl := natB_le (n := fr) (by have := hB.li; omega)
    have hnl2 := natB_len 1 (natB fr).length (by omega) (by decide)
    rw [hpb] at hce
    have hbody : body L.hd.i s [Rec.ct fr] = some (s.cutAt (fr - 1)) := by
      rw [body_cons]
      have : bodyStep L.hd.i s (.ct fr) = some (s.cutAt (fr - 1)) := by
        simp only [bodyStep]
        rw [if_pos ⟨by omega, by unfold mayB; simp only [Bool.and_eq_true, decide_eq_true_eq]; omega⟩]; rfl
      rw [this]; rfl
    subst hGL
    have hmemL : L ∈ G0 ++ [L] := List.mem_append_right _ List.mem_cons_self
    have hLl := hB.rl L hmemL
    have hLf := hM.lay.file L hmemL
    have hpl2 : (pbs ([Rec.ct fr].map Rec.par)).length ≤ 20 := by rw [← hpb, hplen]; omega
    rcases more_out hM (new := [Rec.ct fr]) (fun r hr => by simp only [List.mem_singleton] at hr; subst hr; show fr < 18446744073709551616; have := hB.li; omega) (by simp; omega) hbody (by have := hB.fl _ hLf; omega) (.inl hX.room) hX.tame (fun g hg => by have := hser g hg; omega) with ⟨D', w1, w2, w3, w4, w5⟩ | ⟨D', w1, w2⟩
    · left
      rw [w1] at hce
      simp only [if_true] at hce
      have hM2 := w2.relog (J.log.upto fr)
      refine ⟨D', _, _, hce, rfl, ⟨hM2, by simp, by have := hX.room; simpa using this, ?_, ?_⟩, sub_bnd (hB.up (Nat.le_succ n)) rfl rfl (fun i hi => ?_) (fun g hg => ?_) ⟨by have := hbc.1; omega, by have := hbc.2.1; omega, by have := hbc.2.2.1; omega, fun e he => by have := hbc.2.2.2 e he; omega⟩, w3⟩
      · refine List.pairwise_append.2 ⟨(List.pairwise_append.1 hX.mono).1, List.pairwise_singleton _ _, ?_⟩
        intro a ha b hb
        simp only [List.mem_singleton] at hb
        subst hb
        exact (List.pairwise_append.1 hX.mono).2.2 a ha L List.mem_cons_self
      · intro k hk h0
        have := hX.tame k (by simpa using hk) h0
        rcases Nat.lt_or_ge k G0.length with h1 | h1
        · rw [List.getElem_append_left h1] at this ⊢; exact this
        · have hkk : k = G0.length := by simp at hk; omega
          subst hkk
          rw [List.getElem_append_right (Nat.le_refl _)] at this ⊢
          simpa using this
      · have h3 := hB.fl i hi
        by_cases hif : i = L.file
        · subst hif; rw [w4]; omega
        · rw [w5 _ (by omega)]; omega
      · rcases List.mem_append.1 hg with h | h
        · have := hB.sr g (List.mem_append_left _ h); have := hB.rl g (List.mem_append_left _ h); omega
        · simp only [List.mem_singleton] at h
          subst h
          have := hB.sr L hmemL
          refine ⟨by show L.hd.serial ≤ _; omega, ?_⟩
          show (L.rs ++ [Rec.ct fr]).length ≤ _
          rw [List.length_append, List.length_singleton]; omega
    · right
      rw [w1] at hce
      simp only [Bool.false_eq_true, if_false] at hce
      refine ⟨D', _, hce, w2.mono fun s' ⟨j, h1, h2⟩ => ?_⟩
      have h1 : j = 0 ∨ j = 1 := by simp at h1; omega
      rcases h1 with rfl | rfl
      · left
        rw [List.take_zero] at h2
        exact (Option.some.inj h2).symm
      · right
        have h2 : body L.hd.i s [Rec.ct fr] = some s' := h2
        rw [hbody] at h2
        exact (Option.some.inj h2).symm
theorem Safe.drop {G : List Sg} (h : Safe G) (m : Nat) : Safe (G.drop m) := by
  intro j k hjk hk ha
  rw [List.length_drop] at hk
  rw [List.getElem_drop] at ha
  have := h (m + j) (m + k) (by omega) (by omega) ha
  rw [List.drop_drop]; exact this
theorem dropN_out : ∀ (m : Nat) {D : Dk} {J : Jn} {G : List Sg} {s : PL}, Mid D J G s → m < G.length → (∀ j, j ≤ m → rdAll true ⟨0, 0, []⟩ (G.drop j) = some s) → Roomy G J.many → Safe G → (∀ g ∈ G, g.hd.serial < 1000) →
    (∃ D', J.dropN m D = (D', { J with segs := J.segs.drop m }) ∧ Mid D' { J with segs := J.segs.drop m } (G.drop m) s ∧ (m = 0 ∨ (G.drop m).length < J.many) ∧ D'.armed = D.armed ∧ ∀ i, (D'.f i).b.length ≤ (D.f i).b.length) ∨
    (∃ D' J', J.dropN m D = (D', J') ∧ J' = { J with segs := J'.segs, broken := true } ∧ After J.first J.many D' fun s' => s' = s)
  | 0, D, J, G, s, hM, hm, hr, hR, hS, hser => .inl ⟨D, by rw [List.drop_zero]; rfl, by rw [List.drop_zero, List.drop_zero]; exact hM, .inl rfl, rfl, fun i => Nat.le_refl _⟩
  | m + 1, D, J, G, s, hM, hm, hr, hR, hS, hser => by
    have he : G.eraseIdx 0 = G.drop 1 := by cases G <;> rfl
    have hes : J.segs.eraseIdx 0 = J.segs.drop 1 := by cases J.segs <;> rfl
    have hlen := hM.lay.len
    rcases drop_out hM (k := 0) (by omega) (by rw [he]; exact hr 1 (by omega)) hR hS hser with ⟨D1, d1, d2, d3, d4⟩ | ⟨D1, d1, d2⟩
    · have hst : J.dropN (m + 1) D = Jn.dropN m { J with segs := J.segs.drop 1 } D1 := by
        rw [Jn.dropN, d1, if_pos rfl, hes]
      rw [he, hes] at d2
      have hl1 : (G.drop 1).length < J.many := by rw [List.length_drop]; omega
      rcases dropN_out m d2 (by rw [List.length_drop]; omega) (fun j hj => by rw [List.drop_drop]; exact hr (1 + j) (by omega)) (.inl hl1) (hS.drop 1) (fun g hg => hser g (List.mem_of_mem_drop hg)) with ⟨D', e1, e2, e3, e4, e5⟩ | ⟨D', J', e1, e2, e3⟩
      · left
        simp only [List.drop_drop] at e1 e2 e3
        rw [show 1 + m = m + 1 by omega] at e1 e2 e3
        refine ⟨D', by rw [hst]; exact e1, e2, .inr ?_, by rw [e4, d3], fun i => Nat.le_trans (e5 i) (d4 i)⟩
        rw [List.length_drop]; omega
      · exact .inr ⟨D', J', by rw [hst]; exact e1, e2, e3⟩
    · right
      refine ⟨D1, { J with broken := true }, ?_, rfl, d2⟩
      rw [Jn.dropN, d1]; rfl
theorem chain_some : ∀ {G : List Sg} {s : PL}, Tame G → (G.Pairwise fun a b => a.hd.i ≤ b.hd.i) → rdAll true ⟨0, 0, []⟩ G = some s → ∀ j, j < G.length → (rdAll true ⟨0, 0, []⟩ (G.drop j)).isSome = true
  | [], s, _, _, _, j, h => by simp at h
  | [A], s, ht, hm, hr, j, h => by
    have : j = 0 := by simp at h; omega
    subst this; rw [List.drop_zero, hr]; rfl
  | A :: B :: L, s, ht, hm, hr, j, h => by
    cases j with
    | zero => rw [List.drop_zero, hr]; rfl
    | succ j =>
      have hmem := ht.mem (G := L)
      have hm2 := List.pairwise_cons.1 (List.pairwise_cons.1 hm).2
      obtain ⟨h1, _⟩ := trim_first (PL.Con.nil 0 0) (hmem B List.mem_cons_self) (fun x hx => ⟨hmem x (List.mem_cons_of_mem _ hx), hm2.1 x hx⟩) hr
      rw [List.drop_succ_cons]
      exact chain_some (ht.sub (List.sublist_cons_self _ _)) (List.pairwise_cons.1 hm).2 h1 j (by simpa using h)
theorem anew_read {g0 : PL} {G : List Sg} {N : Sg} (hb : N.hd.anew = true) (hn : N.rs = []) (hr : G = [] ∨ (rdAll true g0 G).isSome = true) : rdAll true g0 (G ++ [N]) = some ⟨N.hd.i, N.hd.t, []⟩ := by
  have h1 : ∀ o g, rdAll o g [N] = some ⟨N.hd.i, N.hd.t, []⟩ := by
    intro o g
    show (rdSeg o g N).bind (fun g => some g) = _
    unfold rdSeg
    rw [begin_anew g o hb, hn]; rfl
  rcases Decidable.em (G = []) with rfl | hne
  · exact h1 _ _
  · rw [rdAll_append _ _ _ _ hne]
    have := hr.resolve_left hne
    obtain ⟨g, hg⟩ := Option.isSome_iff_exists.1 this
    rw [hg]; exact h1 _ _
theorem begin_out {D : Dk} {J : Jn} {G : List Sg} {s : PL} {n i t : Nat} (hX : Rest D J G s) (hB : Bnd D J G s n) (hn : n < 100) (hi : i ≤ 10 * n + 10) (ht : t ≤ 10 * n + 10) :
    (∃ D' J' G', J.beginJ D i t = (0, D', J') ∧ J' = { J with segs := J'.segs, log := ⟨i, t, []⟩ } ∧ Rest D' J' G' ⟨i, t, []⟩ ∧ Bnd D' J' G' ⟨i, t, []⟩ (n + 1) ∧ D'.armed = D.armed) ∨
    (∃ D' J', J.beginJ D i t = (70, D', J') ∧ After J.first J.many D' fun s' => s' = s ∨ s' = ⟨i, t, []⟩) := by
  have hM := hX.mid
  have hser : ∀ g ∈ G, g.hd.serial < 999 := fun g hg => by have := hB.sr g hg; omega
  have hbr : ¬ J.broken = true := by rw [hM.sound]; simp
  obtain ⟨x1, x2, x3, x4, x5⟩ := fix_facts hM ⟨0, true, i, t⟩
  obtain ⟨G0, L, hGL⟩ := snoc_of_ne hX.ne
  have hgl : G.getLast? = some L := by rw [hGL]; simp
  have hsL : (J.fix ⟨0, true, i, t⟩).serial ≤ n + 1 := by
    rw [x4 L hgl]
    have := hB.sr L (List.mem_of_getLast? hgl); omega
  have hfok : (J.fix ⟨0, true, i, t⟩).ok := ⟨by unfold MaxI; omega, by rw [x1]; unfold MaxI; show i ≤ _; omega, by rw [x2]; unfold MaxI; show t ≤ _; omega⟩
  have hch := chain_some hX.tame hX.mono hM.lay.read
  have hrdj : ∀ f j, j ≤ G.length → rdAll true ⟨0, 0, []⟩ ((G ++ [(⟨f, J.fix ⟨0, true, i, t⟩, []⟩ : Sg)]).drop j) = some ⟨i, t, []⟩ := by
    intro f j hj
    rw [List.drop_append_of_le_length hj]
    have h1 := anew_read (g0 := ⟨0, 0, []⟩) (G := G.drop j) (N := ⟨f, J.fix ⟨0, true, i, t⟩, []⟩) x3 rfl ?_
    · rw [h1, x1, x2]
    · rcases Nat.lt_or_ge j G.length with h | h
      · exact .inr (hch j h)
      · exact .inl (List.drop_of_length_le h)
  have hrd : ∀ f, rdAll true ⟨0, 0, []⟩ (G ++ [(⟨f, J.fix ⟨0, true, i, t⟩, []⟩ : Sg)]) = some ⟨i, t, []⟩ := fun f => by have := hrdj f 0 (Nat.zero_le _); rwa [List.drop_zero] at this
  have hsafe : ∀ f, Safe (G ++ [(⟨f, J.fix ⟨0, true, i, t⟩, []⟩ : Sg)]) := by
    intro f j k hjk hk _
    rw [hrdj f j (by simp at hk; omega)]; rfl
  have hrm : ∀ f, Roomy (G ++ [(⟨f, J.fix ⟨0, true, i, t⟩, []⟩ : Sg)]) J.many := fun f => by
    have h0 : 0 < G.length := List.length_pos_iff.2 hX.ne
    refine .inr ⟨G.length - 1, by simp; omega, .inl ?_⟩
    have e1 : G.length - 1 + 1 = G.length := by omega
    rw [List.getElem_append_right (by omega)]
    simp only [e1, Nat.sub_self, List.getElem_cons_zero]
    exact x3
  obtain ⟨f0, l0, hfr0, _, _⟩ := hM.free_some (fun g hg => by have := hser g hg; omega) hX.room
  have han := another_eq (J := J) (D := D) (h := ⟨0, true, i, t⟩) (by rw [hfr0]; simp)
  have hbe : J.beginJ D i t = if (J.another D ⟨0, true, i, t⟩).1 ≠ 0 then J.another D ⟨0, true, i, t⟩ else
        ((Jn.dropN ((J.another D ⟨0, true, i, t⟩).2.2.segs.length - 1) { (J.another D ⟨0, true, i, t⟩).2.2 with log := ⟨i, t, []⟩ } (J.another D ⟨0, true, i, t⟩).2.1).2.ans,
         Jn.dropN ((J.another D ⟨0, true, i, t⟩).2.2.segs.length - 1) { (J.another D ⟨0, true, i, t⟩).2.2 with log := ⟨i, t, []⟩ } (J.another D ⟨0, true, i, t⟩).2.1) := by
    rw [Jn.beginJ, if_neg hbr, if_neg (by unfold MaxI; omega)]
  rcases start_out hM hX.room hser hfok hrd hrm (.inl hX.room) (hX.tame.safe hM.lay.read) hsafe (by omega) with ⟨f, D1, f1, f2, f3, f4, f5, f6⟩ | ⟨D1, f1, f2⟩
  · rw [f2] at han
    rw [han] at hbe
    simp only [if_true, ne_eq, not_true_eq_false, if_false] at hbe
    have hM2 := f3.relog ⟨i, t, []⟩
    have hsl : (J.segs ++ [(⟨J.first + f, J.fix ⟨0, true, i, t⟩⟩ : Seg)]).length - 1 = G.length := by rw [List.length_append, hM.segLen]; simp
    rw [hsl] at hbe
    rcases dropN_out G.length hM2 (by simp) (fun j hj => hrdj f j hj) (hrm f) (hsafe f) (fun g hg => by
      rcases List.mem_append.1 hg with h | h
      · have := hser g h; omega
      · simp only [List.mem_singleton] at h
        subst h; show (J.fix ⟨0, true, i, t⟩).serial < 1000; omega) with ⟨D', e1, e2, e3, e4, e5⟩ | ⟨D', J', e1, e2, e3⟩
    · left
      have hd : (G ++ [(⟨f, J.fix ⟨0, true, i, t⟩, []⟩ : Sg)]).drop G.length = [⟨f, J.fix ⟨0, true, i, t⟩, []⟩] := List.drop_left
      rw [hd] at e2
      rw [e1] at hbe
      have hans : Jn.ans { ({ ({ J with segs := J.segs ++ [(⟨J.first + f, J.fix ⟨0, true, i, t⟩⟩ : Seg)] } : Jn) with log := ⟨i, t, []⟩ } : Jn) with segs := (J.segs ++ [(⟨J.first + f, J.fix ⟨0, true, i, t⟩⟩ : Seg)]).drop G.length } = 0 := by
        unfold Jn.ans; rw [e2.sound]; simp
      simp only [hans] at hbe
      refine ⟨D', _, _, hbe, rfl, ⟨e2, by simp, by have := hM.rng.2.1; show 1 < J.many; omega, List.pairwise_singleton _ _, ?_⟩, ⟨fun j hj => ?_, fun g hg => ?_, fun g hg => ?_, Nat.zero_le _, by show i ≤ _; omega, by show t ≤ _; omega, fun e he => by cases he⟩, by rw [e4, f4]⟩
      · intro k hk h0; simp at hk; omega
      · refine Nat.le_trans (e5 _) ?_
        show (D1.f (J.first + j)).b.length ≤ _
        by_cases hjf : j = f
        · subst hjf; omega
        · rw [f6 _ (by omega)]; have := hB.fl j hj; omega
      · simp only [List.mem_singleton] at hg
        subst hg; exact hsL
      · simp only [List.mem_singleton] at hg
        subst hg; exact Nat.zero_le _
    · right
      rw [e1] at hbe
      have hans : J'.ans = 70 := by unfold Jn.ans; rw [e2]; simp
      simp only [hans] at hbe
      exact ⟨D', J', hbe, e3.mono fun s' h => .inr h⟩
  · right
    rw [f1] at han
    rw [han] at hbe
    simp only [Bool.false_eq_true, if_false] at hbe
    rw [if_pos (by decide)] at hbe
    exact ⟨D1, _, hbe, f2⟩
end Go.Sx.Tryz
namespace Go.Sx.Tryz
open Go Go.Sx Go.Proofs
set_option maxRecDepth 100000
set_option linter.unusedVariables false
noncomputable def c18 : Code := (Tryz.f18.body).getD .skip
def a18 : Ann := (.seq .leaf (.seq .leaf .leaf))
theorem ok18 : okC tab 9 true c18 a18 = true := by kernel_rfl
theorem vc18 (s_0 : Int) (s_1 : Int) (s_2 : Sl) (s_3 : Sl) (h : Heap) (R : Value → Heap → Prop)
  (hv : ∀ b1 h1, Fresh h (.cells #[.int .u64 s_0, .int .u64 s_1, .slice s_2.a s_2.l s_2.c, .slice s_3.a s_3.l s_3.c] 38) b1 h1 →
   ∀ b2 h2, Fresh h1 (.cells #[.int .u64 0, .int .u64 0, .slice none 0 0] 35) b2 h2 →
   ∃ n1 : Int, ∃ n2 : Int, ∃ x1 : Sl, CellsAt h2 b1 0 [.int .u64 n1, .int .u64 n2, .slice x1.a x1.l x1.c] ∧
   ∃ x2 : Sl, cellH h2 b1 3 = some (.slice x2.a x2.l x2.c) ∧
   CallsH Tryz.prog 54 #[.agg #[.int .u64 n1, .int .u64 n2, .slice x1.a x1.l x1.c, .slice x2.a x2.l x2.c, .int .i64 0]] h2 (fun r1 h3 => ∃ n3 : Int, ∃ n4 : Int, ∃ x3 : Sl, r1 = .agg #[.int .u64 n3, .int .u64 n4, .slice x3.a x3.l x3.c] ∧
   CanSt h3 b2 0 [.int .u64 n3, .int .u64 n4, .slice x3.a x3.l x3.c] ∧ ∀ h4, Stored h3 b2 0 [.int .u64 n3, .int .u64 n4, .slice x3.a x3.l x3.c] h4 →
   ∃ n5 : Int, ∃ n6 : Int, ∃ x4 : Sl, CellsAt h4 b2 0 [.int .u64 n5, .int .u64 n6, .slice x4.a x4.l x4.c] ∧
   R (.agg #[.int .u64 n5, .int .u64 n6, .slice x4.a x4.l x4.c]) h4)) :
  CallsH Tryz.prog 18 #[.agg #[.int .u64 s_0, .int .u64 s_1, .slice s_2.a s_2.l s_2.c, .slice s_3.a s_3.l s_3.c]] h R :=
  calls_of_vc tabOk mixed Tryz.func18 (c := c18) (by kernel_rfl) (n := 9) rfl (rs := [.cell 2 35]) (by kernel_rfl) ok18 (args := [.agg #[.int .u64 s_0, .int .u64 s_1, .slice s_2.a s_2.l s_2.c, .slice s_3.a s_3.l s_3.c]]) (Nat.le_of_ble_eq_true rfl) (Eq.mpr (by kernel_rfl) hv)
end Go.Sx.Tryz
namespace Go.Sx.Tryz
open Go Go.Sx Go.Proofs
set_option maxRecDepth 100000
set_option linter.unusedVariables false
noncomputable def c44 : Code := (Tryz.f44.body).getD .skip
def a44 : Ann := (.seq .leaf (.seq (.reg (.q 0 (.q 4 (.q 5 (.q 6 (.q 7 (.m 1 (.q 2 (.q 3 (.m 8 (.q 9 (.q 10 (.q 11 (.q 12 (.q 13 (.fin)))))) (.nil)))) (.nil)))))))) .leaf))
theorem ok44 : okC tab 18 true c44 a44 = true := by kernel_rfl
theorem vc44 (s_0 : Int) (s_1 : Int) (s_2 : Sl) (s_3 : Sl) (o_0 : Int) (o_1 : Int) (o_2 : Int) (o_3 : Int) (o_4 : Int) (o_5 : Sl) (h : Heap) (R : Value → Heap → Prop)
  (hv : ∀ b1 h1, Fresh h (.cells #[.int .u64 s_0, .int .u64 s_1, .slice s_2.a s_2.l s_2.c, .slice s_3.a s_3.l s_3.c] 38) b1 h1 →
   ∀ b2 h2, Fresh h1 (.cells #[.int .i64 o_0, .int .i64 o_1, .int .i64 o_2, .int .u64 o_3, .int .u64 o_4, .slice o_5.a o_5.l o_5.c] 40) b2 h2 →
   ∃ n1 : Int, ∃ n2 : Int, ∃ x1 : Sl, ∃ x2 : Sl, CellsAt h2 b1 0 [.int .u64 n1, .int .u64 n2, .slice x1.a x1.l x1.c, .slice x2.a x2.l x2.c] ∧
   ∃ n3 : Int, cellH h2 b2 3 = some (.int .u64 n3) ∧
   (20 : Int) ≠ 0 ∧
   ∃ n4 : Int, ∃ n5 : Int, ∃ x3 : Sl, ∃ x4 : Sl, CellsAt h2 b1 0 [.int .u64 n4, .int .u64 n5, .slice x3.a x3.l x3.c, .slice x4.a x4.l x4.c] ∧
   CallsH Tryz.prog 18 #[.agg #[.int .u64 n1, .int .u64 n2, .slice x1.a x1.l x1.c, .slice x2.a x2.l x2.c]] h2 (fun r1 h3 => ∃ n6 : Int, ∃ n7 : Int, ∃ x5 : Sl, r1 = .agg #[.int .u64 n6, .int .u64 n7, .slice x5.a x5.l x5.c] ∧
   CellsAt h3 b1 0 [.int .u64 n4, .int .u64 n5, .slice x3.a x3.l x3.c, .slice x4.a x4.l x4.c] ∧
   cellH h3 b2 3 = some (.int .u64 n3) ∧
   CallsH Tryz.prog 18 #[.agg #[.int .u64 n4, .int .u64 n5, .slice x3.a x3.l x3.c, .slice x4.a x4.l x4.c]] h3 (fun r2 h4 => ∃ n8 : Int, ∃ n9 : Int, ∃ x6 : Sl, r2 = .agg #[.int .u64 n8, .int .u64 n9, .slice x6.a x6.l x6.c] ∧
   cellH h4 b2 3 = some (.int .u64 n3) ∧
   R (.int .u64 (IntKind.u64.wrap ((IntKind.u64.wrap (n6 + 1)) - (if (IntKind.u64.wrap (n8 + 1)) < (Int.tmod n3 20) then (IntKind.u64.wrap (n8 + 1)) else (Int.tmod n3 20))))) h4))) :
  CallsH Tryz.prog 44 #[.agg #[.int .u64 s_0, .int .u64 s_1, .slice s_2.a s_2.l s_2.c, .slice s_3.a s_3.l s_3.c], .agg #[.int .i64 o_0, .int .i64 o_1, .int .i64 o_2, .int .u64 o_3, .int .u64 o_4, .slice o_5.a o_5.l o_5.c]] h R :=
  calls_of_vc tabOk mixed Tryz.func44 (c := c44) (by kernel_rfl) (n := 18) rfl (rs := [.tmp 4]) (by kernel_rfl) ok44 (args := [.agg #[.int .u64 s_0, .int .u64 s_1, .slice s_2.a s_2.l s_2.c, .slice s_3.a s_3.l s_3.c], .agg #[.int .i64 o_0, .int .i64 o_1, .int .i64 o_2, .int .u64 o_3, .int .u64 o_4, .slice o_5.a o_5.l o_5.c]]) (Nat.le_of_ble_eq_true rfl) (Eq.mpr (by kernel_rfl) hv)
end Go.Sx.Tryz
namespace Go.Sx.Tryz
open Go Go.Sx Go.Proofs
set_option maxRecDepth 100000
set_option linter.unusedVariables false
noncomputable def c45 : Code := (Tryz.f45.body).getD .skip
def a45 : Ann := (.seq .leaf (.seq .leaf (.seq .leaf .leaf)))
theorem ok45 : okC tab 18 true c45 a45 = true := by kernel_rfl
theorem vc45 (s_0 : Int) (s_1 : Int) (s_2 : Sl) (s_3 : Sl) (from_ : Int) (h : Heap) (R : Value → Heap → Prop)
  (hv : ∀ b1 h1, Fresh h (.cells #[.int .u64 s_0, .int .u64 s_1, .slice s_2.a s_2.l s_2.c, .slice s_3.a s_3.l s_3.c] 38) b1 h1 →
   ∀ b2 h2, Fresh h1 (.cells #[.int .u64 0, .int .u64 0, .slice none 0 0, .slice none 0 0] 38) b2 h2 →
   ∀ b3 h3, Fresh h2 (.cells #[] 35) b3 h3 →
   ∃ x1 : Sl, cellH h3 b1 3 = some (.slice x1.a x1.l x1.c) ∧
   ∃ n1 : Int, cellH h3 b1 0 = some (.int .u64 n1) ∧
   ((0 : Int) ≤ (0 : Int) ∧ (0 : Int) ≤ IntKind.u64.wrap ((IntKind.u64.wrap (from_ - 1)) - n1) ∧ IntKind.u64.wrap ((IntKind.u64.wrap (from_ - 1)) - n1) ≤ ((x1.c : Nat) : Int)) ∧
   RunK Tryz.prog (.sl) (Builtin.append_ #[36, 36] 36 #[.slice (some ⟨b3, 0, none⟩) 0 0, .slice (subA x1.a 0 x1.c 3) ((IntKind.u64.wrap ((IntKind.u64.wrap (from_ - 1)) - n1)).toNat) x1.c]) h3 (fun x2 h4 =>
   CanSt h4 b1 3 [.slice x2.a x2.l x2.c] ∧ ∀ h5, Stored h4 b1 3 [.slice x2.a x2.l x2.c] h5 →
   ∃ n2 : Int, ∃ n3 : Int, ∃ x3 : Sl, ∃ x4 : Sl, CellsAt h5 b1 0 [.int .u64 n2, .int .u64 n3, .slice x3.a x3.l x3.c, .slice x4.a x4.l x4.c] ∧
   CanSt h5 b2 0 [.int .u64 n2, .int .u64 n3, .slice x3.a x3.l x3.c, .slice x4.a x4.l x4.c] ∧ ∀ h6, Stored h5 b2 0 [.int .u64 n2, .int .u64 n3, .slice x3.a x3.l x3.c, .slice x4.a x4.l x4.c] h6 →
   ∃ n4 : Int, ∃ n5 : Int, ∃ x5 : Sl, ∃ x6 : Sl, CellsAt h6 b2 0 [.int .u64 n4, .int .u64 n5, .slice x5.a x5.l x5.c, .slice x6.a x6.l x6.c] ∧
   R (.agg #[.int .u64 n4, .int .u64 n5, .slice x5.a x5.l x5.c, .slice x6.a x6.l x6.c]) h6)) :
  CallsH Tryz.prog 45 #[.agg #[.int .u64 s_0, .int .u64 s_1, .slice s_2.a s_2.l s_2.c, .slice s_3.a s_3.l s_3.c], .int .u64 from_] h R :=
  calls_of_vc tabOk mixed Tryz.func45 (c := c45) (by kernel_rfl) (n := 18) rfl (rs := [.cell 4 38]) (by kernel_rfl) ok45 (args := [.agg #[.int .u64 s_0, .int .u64 s_1, .slice s_2.a s_2.l s_2.c, .slice s_3.a s_3.l s_3.c], .int .u64 from_]) (Nat.le_of_ble_eq_true rfl) (Eq.mpr (by kernel_rfl) hv)
end Go.Sx.Tryz
namespace Go.Sx.Tryz
open Go Go.Sx Go.Proofs
set_option maxRecDepth 100000
set_option linter.unusedVariables false
noncomputable def c31 : Code := (Tryz.f31.body).getD .skip
def a31 : Ann := (.seq .leaf (.seq .leaf (.seq (.seq .leaf (.inn (.loop [(3, .one (.sl)), (8, .one (.i .i64))] (.seq .leaf (.seq (.br .leaf .leaf) (.seq (.inn (.seq .leaf .leaf)) .leaf)))))) (.seq .leaf .leaf))))
theorem ok31 : okC tab 18 true c31 a31 = true := by kernel_rfl
theorem vc31 (l_ : Sl) (h : Heap) (R : Value → Heap → Prop)
  (hv : ∃ (I1 : Sl → Int → Heap → Prop) (mu1 : Sl → Int → Heap → Nat), I1 ⟨none, 0, 0⟩ 0 h ∧ (∀ x1 : Sl, ∀ n1 : Int, ∀ h1, I1 x1 n1 h1 → ∀ _ : Env,
   CondP (decide ((n1 : Int) < ((l_.l : Nat) : Int))) (
   ((0 : Int) ≤ n1 ∧ (n1 : Int) < ((l_.l : Nat) : Int)) ∧
   NilP l_.a (fun b1 o1 =>
   ∃ n2 : Int, ∃ n3 : Int, ∃ x2 : Sl, CellsAt h1 b1 (o1 + n1.toNat * 3) [.int .u64 n2, .int .u64 n3, .slice x2.a x2.l x2.c] ∧
   ∀ b2 h2, Fresh h1 (.cells #[.int .u64 0, .int .u64 0, .slice none 0 0] 85) b2 h2 →
   CanSt h2 b2 0 [.int .u64 n2, .int .u64 n3, .slice x2.a x2.l x2.c] ∧ ∀ h3, Stored h2 b2 0 [.int .u64 n2, .int .u64 n3, .slice x2.a x2.l x2.c] h3 →
   ∃ n4 : Int, ∃ n5 : Int, ∃ x3 : Sl, CellsAt h3 b2 0 [.int .u64 n4, .int .u64 n5, .slice x3.a x3.l x3.c] ∧
   ∀ b3 h4, Fresh h3 (.cells #[.int .u64 n4, .int .u64 n5, .slice x3.a x3.l x3.c] 35) b3 h4 →
   RunK Tryz.prog (.sl) (Builtin.append_ #[36, 36] 36 #[.slice x1.a x1.l x1.c, .slice (some ⟨b3, 0, none⟩) 1 1]) h4 (fun x4 h5 =>
   I1 x4 (IntKind.i64.wrap (n1 + 1)) h5 ∧ mu1 x4 (IntKind.i64.wrap (n1 + 1)) h5 < mu1 x1 n1 h1))) (
   R (.slice x1.a x1.l x1.c) h1))) :
  CallsH Tryz.prog 31 #[.slice l_.a l_.l l_.c] h R :=
  calls_of_vc tabOk mixed Tryz.func31 (c := c31) (by kernel_rfl) (n := 18) rfl (rs := [.tmp 2]) (by kernel_rfl) ok31 (args := [.slice l_.a l_.l l_.c]) (Nat.le_of_ble_eq_true rfl) (Eq.mpr (by kernel_rfl) hv)
end Go.Sx.Tryz
namespace Go.Sx.Tryz
open Go Go.Sx Go.Proofs
set_option maxRecDepth 100000
set_option linter.unusedVariables false
noncomputable def c30 : Code := (Tryz.f30.body).getD .skip
def a30 : Ann := (.seq .leaf (.seq (.seq .leaf (.br (.seq .leaf .leaf) .leaf)) (.seq (.seq .leaf (.inn (.loop [(13, .one (.i .i64))] (.seq .leaf (.seq (.br .leaf .leaf) (.seq (.inn (.seq .leaf (.seq (.reg (.q 0 (.q 1 (.q 2 (.q 3 (.q 4 (.q 5 (.q 6 (.q 7 (.q 8 (.q 9 (.q 10 (.q 11 (.q 12 (.q 13 (.q 14 (.q 15 (.q 16 (.q 17 (.q 18 (.q 19 (.q 20 (.q 21 (.q 22 (.q 23 (.q 24 (.q 25 (.q 26 (.q 27 (.q 28 (.q 29 (.q 30 (.q 31 (.q 32 (.q 33 (.q 34 (.q 35 (.q 36 (.q 37 (.q 38 (.fin))))))))))))))))))))))))))))))))))))))))) (.br (.seq .leaf .leaf) .leaf)))) .leaf)))))) (.seq .leaf .leaf))))
theorem ok30 : okC tab 56 true c30 a30 = true := by kernel_rfl
theorem vc30 (a_ : Sl) (b_ : Sl) (h : Heap) (R : Value → Heap → Prop)
  (hv : CondP ((((a_.l : Nat) : Int) : Int) != ((b_.l : Nat) : Int)) (
   R (.bool false) h) (
   ∃ (I1 : Int → Heap → Prop) (mu1 : Int → Heap → Nat), I1 0 h ∧ (∀ n1 : Int, ∀ h1, I1 n1 h1 → ∀ _ : Env,
   CondP (decide ((n1 : Int) < ((a_.l : Nat) : Int))) (
   ((0 : Int) ≤ n1 ∧ (n1 : Int) < ((a_.l : Nat) : Int)) ∧
   NilP a_.a (fun b1 o1 =>
   ∃ n2 : Int, cellH h1 b1 (o1 + n1.toNat * 3) = some (.int .u64 n2) ∧
   ((0 : Int) ≤ n1 ∧ (n1 : Int) < ((b_.l : Nat) : Int)) ∧
   NilP b_.a (fun b2 o2 =>
   ∃ n3 : Int, cellH h1 b2 (o2 + n1.toNat * 3) = some (.int .u64 n3) ∧
   CondP ((n2 : Int) != n3) (
   R (.bool false) h1) (
   ((0 : Int) ≤ n1 ∧ (n1 : Int) < ((a_.l : Nat) : Int)) ∧
   NilP a_.a (fun b3 o3 =>
   ∃ n4 : Int, cellH h1 b3 (o3 + n1.toNat * 3 + 1) = some (.int .u64 n4) ∧
   ((0 : Int) ≤ n1 ∧ (n1 : Int) < ((b_.l : Nat) : Int)) ∧
   NilP b_.a (fun b4 o4 =>
   ∃ n5 : Int, cellH h1 b4 (o4 + n1.toNat * 3 + 1) = some (.int .u64 n5) ∧
   CondP ((n4 : Int) != n5) (
   R (.bool false) h1) (
   ((0 : Int) ≤ n1 ∧ (n1 : Int) < ((a_.l : Nat) : Int)) ∧
   NilP a_.a (fun b5 o5 =>
   ∃ x1 : Sl, cellH h1 b5 (o5 + n1.toNat * 3 + 2) = some (.slice x1.a x1.l x1.c) ∧
   ∃ s1 : ByteArray, StrOf h1 x1.a x1.l s1 ∧
   ((0 : Int) ≤ n1 ∧ (n1 : Int) < ((b_.l : Nat) : Int)) ∧
   NilP b_.a (fun b6 o6 =>
   ∃ x2 : Sl, cellH h1 b6 (o6 + n1.toNat * 3 + 2) = some (.slice x2.a x2.l x2.c) ∧
   ∃ s2 : ByteArray, StrOf h1 x2.a x2.l s2 ∧
   CondP (!((s1 : ByteArray).toList == (s2 : ByteArray).toList)) (
   R (.bool false) h1) (
   I1 (IntKind.i64.wrap (n1 + 1)) h1 ∧ mu1 (IntKind.i64.wrap (n1 + 1)) h1 < mu1 n1 h1)))))))))) (
   R (.bool true) h1)))) :
  CallsH Tryz.prog 30 #[.slice a_.a a_.l a_.c, .slice b_.a b_.l b_.c] h R :=
  calls_of_vc tabOk mixed Tryz.func30 (c := c30) (by kernel_rfl) (n := 56) rfl (rs := [.tmp 4]) (by kernel_rfl) ok30 (args := [.slice a_.a a_.l a_.c, .slice b_.a b_.l b_.c]) (Nat.le_of_ble_eq_true rfl) (Eq.mpr (by kernel_rfl) hv)
end Go.Sx.Tryz
namespace Go.Sx.Tryz
open Go Go.Sx Go.Proofs
set_option maxRecDepth 100000
set_option linter.unusedVariables false
noncomputable def c34 : Code := (Tryz.f34.body).getD .skip
def a34 : Ann := (.seq .leaf (.seq .leaf .leaf))
theorem ok34 : okC tab 10 true c34 a34 = true := by kernel_rfl
theorem vc34 (index_ : Int) (term_ : Int) (h : Heap) (R : Value → Heap → Prop)
  (hv : ∀ b1 h1, Fresh h (.cells #[.int .u64 0, .int .u64 0, .slice none 0 0] 85) b1 h1 →
   ∀ b2 h2, Fresh h1 (.cells #[.int .u8 120] 5) b2 h2 →
   RunK Tryz.prog (.sl) (convert 33 33 (.slice (some ⟨b2, 0, none⟩) 1 1)) h2 (fun x1 h3 =>
   CanSt h3 b1 0 [.int .u64 index_, .int .u64 term_, .slice x1.a x1.l x1.c] ∧ ∀ h4, Stored h3 b1 0 [.int .u64 index_, .int .u64 term_, .slice x1.a x1.l x1.c] h4 →
   ∃ n1 : Int, ∃ n2 : Int, ∃ x2 : Sl, CellsAt h4 b1 0 [.int .u64 n1, .int .u64 n2, .slice x2.a x2.l x2.c] ∧
   R (.agg #[.int .u64 n1, .int .u64 n2, .slice x2.a x2.l x2.c]) h4)) :
  CallsH Tryz.prog 34 #[.int .u64 index_, .int .u64 term_] h R :=
  calls_of_vc tabOk mixed Tryz.func34 (c := c34) (by kernel_rfl) (n := 10) rfl (rs := [.cell 4 85]) (by kernel_rfl) ok34 (args := [.int .u64 index_, .int .u64 term_]) (Nat.le_of_ble_eq_true rfl) (Eq.mpr (by kernel_rfl) hv)
end Go.Sx.Tryz
namespace Go.Sx.Tryz
open Go Go.Sx Go.Proofs
set_option maxRecDepth 100000
set_option linter.unusedVariables false
noncomputable def c52 : Code := (Tryz.f52.body).getD .skip
def a52 : Ann := (.seq .leaf (.seq .leaf (.seq (.seq .leaf (.inn (.loop [(7, .one (.sl)), (10, .one (.i .i64))] (.seq .leaf (.seq (.br .leaf .leaf) (.seq (.inn (.seq .leaf .leaf)) .leaf)))))) (.seq .leaf .leaf))))
theorem ok52 : okC tab 23 true c52 a52 = true := by kernel_rfl
theorem vc52 (d_b d_o : Nat) (first_ : Int) (many_ : Int) (h : Heap) (R : Value → Heap → Prop)
  (hv : ∃ (I1 : Sl → Int → Heap → Prop) (mu1 : Sl → Int → Heap → Nat), I1 ⟨none, 0, 0⟩ 0 h ∧ (∀ x1 : Sl, ∀ n1 : Int, ∀ h1, I1 x1 n1 h1 → ∀ _ : Env,
   CondP (decide ((n1 : Int) < many_)) (
   CallsH Tryz.prog 37 #[.pointer (some ⟨d_b, d_o, none⟩), .int .i64 (IntKind.i64.wrap (first_ + n1))] h1 (fun r1 h2 => ∃ x2 : Sl, r1 = .slice x2.a x2.l x2.c ∧
   ∀ b1 h3, Fresh h2 (.cells #[.slice x2.a x2.l x2.c] 33) b1 h3 →
   RunK Tryz.prog (.sl) (Builtin.append_ #[98, 98] 98 #[.slice x1.a x1.l x1.c, .slice (some ⟨b1, 0, none⟩) 1 1]) h3 (fun x3 h4 =>
   I1 x3 (IntKind.i64.wrap (n1 + 1)) h4 ∧ mu1 x3 (IntKind.i64.wrap (n1 + 1)) h4 < mu1 x1 n1 h1))) (
   R (.slice x1.a x1.l x1.c) h1))) :
  CallsH Tryz.prog 52 #[.pointer (some ⟨d_b, d_o, none⟩), .int .i64 first_, .int .i64 many_] h R :=
  calls_of_vc tabOk mixed Tryz.func52 (c := c52) (by kernel_rfl) (n := 23) rfl (rs := [.tmp 6]) (by kernel_rfl) ok52 (args := [.pointer (some ⟨d_b, d_o, none⟩), .int .i64 first_, .int .i64 many_]) (Nat.le_of_ble_eq_true rfl) (Eq.mpr (by kernel_rfl) hv)
end Go.Sx.Tryz
namespace Go.Sx.Tryz
open Go Go.Sx Go.Proofs
set_option maxRecDepth 100000
set_option linter.unusedVariables false
noncomputable def c17 : Code := (Tryz.f17.body).getD .skip
def a17 : Ann := (.seq .leaf (.seq .leaf (.seq (.join [(28, .one (.b))] .leaf (.br (.seq .leaf .leaf) .leaf)) (.seq (.seq .leaf (.inn (.loop [(33, .one (.i .i64))] (.seq .leaf (.seq (.br .leaf .leaf) (.seq (.inn (.seq .leaf (.join [(52, .one (.b))] .leaf (.br (.seq .leaf .leaf) .leaf)))) .leaf)))))) (.seq .leaf .leaf)))))
theorem ok17 : okC tab 66 true c17 a17 = true := by kernel_rfl
theorem vc17 (s_0 : Int) (s_1 : Int) (s_2 : Sl) (s_3 : Sl) (j_b j_o : Nat) (most_ : Int) (h : Heap) (R : Value → Heap → Prop)
  (hv : ∀ b1 h1, Fresh h (.cells #[.int .u64 s_0, .int .u64 s_1, .slice s_2.a s_2.l s_2.c, .slice s_3.a s_3.l s_3.c] 38) b1 h1 →
   ∀ b2 h2, Fresh h1 (.cells #[.int .u64 0, .int .u64 0, .slice none 0 0, .slice none 0 0] 38) b2 h2 →
   CallsH Tryz.prog 49 #[.pointer (some ⟨j_b, j_o, none⟩)] h2 (fun r1 h3 => ∃ n1 : Int, ∃ n2 : Int, r1 = .tuple #[.int .u64 n1, .int .u64 n2] ∧
   ∃ J1 : Bool → Heap → Prop, (∀ t1 : Bool, ∀ h4, J1 t1 h4 → ∀ _ : Env,
   CondP t1 (
   ∃ n3 : Int, ∃ n4 : Int, ∃ x1 : Sl, ∃ x2 : Sl, CellsAt h4 b1 0 [.int .u64 n3, .int .u64 n4, .slice x1.a x1.l x1.c, .slice x2.a x2.l x2.c] ∧
   CanSt h4 b2 0 [.int .u64 n3, .int .u64 n4, .slice x1.a x1.l x1.c, .slice x2.a x2.l x2.c] ∧ ∀ h5, Stored h4 b2 0 [.int .u64 n3, .int .u64 n4, .slice x1.a x1.l x1.c, .slice x2.a x2.l x2.c] h5 →
   ∃ n5 : Int, ∃ n6 : Int, ∃ x3 : Sl, ∃ x4 : Sl, CellsAt h5 b2 0 [.int .u64 n5, .int .u64 n6, .slice x3.a x3.l x3.c, .slice x4.a x4.l x4.c] ∧
   R (.tuple #[.agg #[.int .u64 n5, .int .u64 n6, .slice x3.a x3.l x3.c, .slice x4.a x4.l x4.c], .bool true]) h5) (
   ∃ x5 : Sl, cellH h4 b1 3 = some (.slice x5.a x5.l x5.c) ∧
   ∃ (I1 : Int → Heap → Prop) (mu1 : Int → Heap → Nat), I1 0 h4 ∧ (∀ n7 : Int, ∀ h6, I1 n7 h6 → ∀ _ : Env,
   CondP (decide ((n7 : Int) < ((x5.l : Nat) : Int))) (
   ((0 : Int) ≤ n7 ∧ (n7 : Int) < ((x5.l : Nat) : Int)) ∧
   NilP x5.a (fun b3 o1 =>
   ∃ n8 : Int, ∃ n9 : Int, ∃ x6 : Sl, CellsAt h6 b3 (o1 + n7.toNat * 3) [.int .u64 n8, .int .u64 n9, .slice x6.a x6.l x6.c] ∧
   ∀ b4 h7, Fresh h6 (.cells #[.int .u64 0, .int .u64 0, .slice none 0 0] 35) b4 h7 →
   CanSt h7 b4 0 [.int .u64 n8, .int .u64 n9, .slice x6.a x6.l x6.c] ∧ ∀ h8, Stored h7 b4 0 [.int .u64 n8, .int .u64 n9, .slice x6.a x6.l x6.c] h8 →
   ∃ J2 : Bool → Heap → Prop, (∀ t2 : Bool, ∀ h9, J2 t2 h9 → ∀ _ : Env,
   CondP t2 (
   ∀ b5 h10, Fresh h9 (.cells #[] 35) b5 h10 →
   ∃ x7 : Sl, cellH h10 b1 3 = some (.slice x7.a x7.l x7.c) ∧
   ((0 : Int) ≤ IntKind.i64.wrap (n7 + 1) ∧ IntKind.i64.wrap (n7 + 1) ≤ ((x7.l : Nat) : Int)) ∧
   RunK Tryz.prog (.sl) (Builtin.append_ #[36, 36] 36 #[.slice (some ⟨b5, 0, none⟩) 0 0, .slice (subA x7.a ((IntKind.i64.wrap (n7 + 1)).toNat) x7.c 3) (x7.l - ((IntKind.i64.wrap (n7 + 1)).toNat)) (x7.c - ((IntKind.i64.wrap (n7 + 1)).toNat))]) h10 (fun x8 h11 =>
   CanSt h11 b2 0 [.int .u64 n1, .int .u64 n2, .slice none 0 0, .slice x8.a x8.l x8.c] ∧ ∀ h12, Stored h11 b2 0 [.int .u64 n1, .int .u64 n2, .slice none 0 0, .slice x8.a x8.l x8.c] h12 →
   ∃ n10 : Int, ∃ n11 : Int, ∃ x9 : Sl, ∃ x10 : Sl, CellsAt h12 b2 0 [.int .u64 n10, .int .u64 n11, .slice x9.a x9.l x9.c, .slice x10.a x10.l x10.c] ∧
   R (.tuple #[.agg #[.int .u64 n10, .int .u64 n11, .slice x9.a x9.l x9.c, .slice x10.a x10.l x10.c], .bool true]) h12)) (
   I1 (IntKind.i64.wrap (n7 + 1)) h9 ∧ mu1 (IntKind.i64.wrap (n7 + 1)) h9 < mu1 n7 h6)) ∧
   ∃ n12 : Int, cellH h8 b4 0 = some (.int .u64 n12) ∧
   CondP ((n12 : Int) == n1) (
   ∃ n13 : Int, cellH h8 b4 1 = some (.int .u64 n13) ∧
   CondP ((n13 : Int) == n2) (
   J2 (decide ((n1 : Int) ≤ most_)) h8) (
   J2 false h8)) (
   J2 false h8))) (
   ∃ n14 : Int, ∃ n15 : Int, ∃ x11 : Sl, ∃ x12 : Sl, CellsAt h6 b1 0 [.int .u64 n14, .int .u64 n15, .slice x11.a x11.l x11.c, .slice x12.a x12.l x12.c] ∧
   CanSt h6 b2 0 [.int .u64 n14, .int .u64 n15, .slice x11.a x11.l x11.c, .slice x12.a x12.l x12.c] ∧ ∀ h13, Stored h6 b2 0 [.int .u64 n14, .int .u64 n15, .slice x11.a x11.l x11.c, .slice x12.a x12.l x12.c] h13 →
   ∃ n16 : Int, ∃ n17 : Int, ∃ x13 : Sl, ∃ x14 : Sl, CellsAt h13 b2 0 [.int .u64 n16, .int .u64 n17, .slice x13.a x13.l x13.c, .slice x14.a x14.l x14.c] ∧
   R (.tuple #[.agg #[.int .u64 n16, .int .u64 n17, .slice x13.a x13.l x13.c, .slice x14.a x14.l x14.c], .bool false]) h13)))) ∧
   ∃ n18 : Int, cellH h3 b1 0 = some (.int .u64 n18) ∧
   CondP ((n1 : Int) == n18) (
   ∃ n19 : Int, cellH h3 b1 1 = some (.int .u64 n19) ∧
   J1 ((n2 : Int) == n19) h3) (
   J1 false h3))) :
  CallsH Tryz.prog 17 #[.agg #[.int .u64 s_0, .int .u64 s_1, .slice s_2.a s_2.l s_2.c, .slice s_3.a s_3.l s_3.c], .pointer (some ⟨j_b, j_o, none⟩), .int .u64 most_] h R :=
  calls_of_vc tabOk mixed Tryz.func17 (c := c17) (by kernel_rfl) (n := 66) rfl (rs := [.cell 6 38, .tmp 7]) (by kernel_rfl) ok17 (args := [.agg #[.int .u64 s_0, .int .u64 s_1, .slice s_2.a s_2.l s_2.c, .slice s_3.a s_3.l s_3.c], .pointer (some ⟨j_b, j_o, none⟩), .int .u64 most_]) (Nat.le_of_ble_eq_true rfl) (Eq.mpr (by kernel_rfl) hv)
end Go.Sx.Tryz
