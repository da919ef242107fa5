/- Texts Tdo, Tsg, Tso of the proof, each as a section; no premises beyond those that each theorem states. -/
import Derived.Shelf.SlIter.Collect
import Derived.Shelf.SlSortCmp.Whole1
import Derived.Shelf.SlSortCmp.WholeK
import Derived.Ground.GgzProg
import Derived.Ground.SlsfProg
import Derived.Test.YtmcbnhkcjhlbaaaGreatDoorRows
import Derived.Shelf.SlSortCmp.NoneTotal
import Derived.Test.YtmcbnhkcjhlbaaaGreatDoorP13
import Derived.Test.YtmcbnhkcjhlbaaaGreatDoorP18
set_option linter.unusedVariables false
set_option linter.unusedSimpArgs false
section
namespace Go.Proofs.YtmcbnhkcjhlbaaaGreatDoor.Tp
open Go.RowKit
open Kit (Chg)
open Go.Proofs.YtmcbnhkcjhlbaaaGreatDoor.One

def keptB (os : List FE) (e : FE) : Bool := os.any fun o => decide (o.p = e.p) && decide (o.kind = e.kind)
theorem keptB_iff {os : List FE} {e : FE} : keptB os e = true ↔ ∃ o ∈ os, o.p = e.p ∧ o.kind = e.kind := by
  unfold keptB
  rw [List.any_eq_true]
  constructor
  · rintro ⟨o, ho, h⟩
    rw [Bool.and_eq_true, decide_eq_true_eq, decide_eq_true_eq] at h
    exact ⟨o, ho, h⟩
  · rintro ⟨o, ho, h1, h2⟩
    exact ⟨o, ho, by rw [decide_eq_true h1, decide_eq_true h2]; rfl⟩
theorem keptB_false {os : List FE} {e : FE} : keptB os e = false ↔ ∀ o ∈ os, o.p = e.p → o.kind ≠ e.kind := by
  rw [Bool.eq_false_iff, Ne, keptB_iff]
  constructor
  · exact fun h o ho h1 h2 => h ⟨o, ho, h1, h2⟩
  · rintro h ⟨o, ho, h1, h2⟩
    exact h o ho h1 h2
def CV.p (c : CV) : Bs := c.path.data.toList
def takeOf (c : CV) : Option Bs := if c.kind = 1 then some c.p else if c.kind = 2 then some c.frm.data.toList else none
def putOf (c : CV) : Option Bs := if c.kind = 2 ∨ c.kind = 3 then some c.p else none
def modOf (c : CV) : Option Bs := if c.kind = 4 then some c.p else none
structure DiffOf (os bs : List FE) (L : List CV) : Prop where
  good : ∀ c ∈ L, c.good
  tnd : (L.filterMap takeOf).Nodup
  tmem : ∀ p, p ∈ L.filterMap takeOf ↔ ∃ e ∈ os, e.p = p ∧ keptB bs e = false
  anew : ∀ c ∈ L, c.kind = 2 ∨ c.kind = 3 → c.x.e ∈ bs ∧ keptB os c.x.e = false
  pnd : (L.filterMap putOf).Nodup
  pall : ∀ e ∈ bs, keptB os e = false → e.p ∈ L.filterMap putOf
  mod : ∀ c ∈ L, c.kind = 4 → c.x.e ∈ bs ∧ keptB os c.x.e = true
  mnd : (L.filterMap modOf).Nodup
  mall : ∀ e ∈ bs, ∀ o ∈ os, o.p = e.p → o.kind = e.kind → o ≠ e → e.p ∈ L.filterMap modOf
  src : ∀ c ∈ L, c.kind = 2 → ∃ o ∈ os, o.path = c.frm ∧ o.kind = c.x.e.kind ∧ sameC o c.x.e = true
theorem DiffOf.perm {os bs : List FE} {L L' : List CV} (h : DiffOf os bs L) (hp : L'.Perm L) : DiffOf os bs L' :=
  ⟨fun c hc => h.good c (hp.mem_iff.1 hc), (hp.filterMap _).nodup_iff.2 h.tnd, fun p => by rw [(hp.filterMap _).mem_iff]; exact h.tmem p, fun c hc => h.anew c (hp.mem_iff.1 hc), (hp.filterMap _).nodup_iff.2 h.pnd,
   fun e he hk => (hp.filterMap _).mem_iff.2 (h.pall e he hk), fun c hc => h.mod c (hp.mem_iff.1 hc), (hp.filterMap _).nodup_iff.2 h.mnd, fun e he o ho h1 h2 h3 => (hp.filterMap _).mem_iff.2 (h.mall e he o ho h1 h2 h3), fun c hc => h.src c (hp.mem_iff.1 hc)⟩
structure Mid (os bs : List FE) (j : Nat) (L : List CV) (g : Bs → Bool) : Prop where
  good : ∀ c ∈ L, c.good
  tnd : (L.filterMap takeOf).Nodup
  tg : ∀ p, (g p = true ∨ p ∈ L.filterMap takeOf) ↔ ∃ e ∈ os, e.p = p ∧ keptB bs e = false
  tdis : ∀ p ∈ L.filterMap takeOf, g p = false
  anew : ∀ c ∈ L, c.kind = 2 ∨ c.kind = 3 → c.x.e ∈ bs.take j ∧ keptB os c.x.e = false
  pnd : (L.filterMap putOf).Nodup
  pall : ∀ e ∈ bs.take j, keptB os e = false → e.p ∈ L.filterMap putOf
  mod : ∀ c ∈ L, c.kind = 4 → c.x.e ∈ bs.take j ∧ keptB os c.x.e = true
  mnd : (L.filterMap modOf).Nodup
  mall : ∀ e ∈ bs.take j, ∀ o ∈ os, o.p = e.p → o.kind = e.kind → o ≠ e → e.p ∈ L.filterMap modOf
  src : ∀ c ∈ L, c.kind = 2 → ∃ o ∈ os, o.path = c.frm ∧ o.kind = c.x.e.kind ∧ sameC o c.x.e = true
  ppath : ∀ p ∈ L.filterMap putOf, ∃ e ∈ bs.take j, e.p = p
  mpath : ∀ p ∈ L.filterMap modOf, ∃ e ∈ bs.take j, e.p = p
theorem Mid.start {os bs : List FE} {g : Bs → Bool} (hg : ∀ p, g p = true ↔ ∃ e ∈ os, e.p = p ∧ keptB bs e = false) : Mid os bs 0 [] g :=
  ⟨by simp, by simp, fun p => by rw [← hg p]; simp, by simp, by simp, by simp, by simp, by simp, by simp, by simp, by simp, by simp, by simp⟩
theorem Mid.done {os bs : List FE} {j : Nat} {L : List CV} {g : Bs → Bool} (h : Mid os bs j L g) (hj : bs.length ≤ j) (hg : ∀ p, g p = false) : DiffOf os bs L := by
  have e : bs.take j = bs := List.take_of_length_le hj
  refine ⟨h.good, h.tnd, fun p => ?_, fun c hc hk => by have := h.anew c hc hk; rwa [e] at this, h.pnd, fun x hx => h.pall x (by rw [e]; exact hx), fun c hc hk => by have := h.mod c hc hk; rwa [e] at this, h.mnd, fun x hx => h.mall x (by rw [e]; exact hx), h.src⟩
  rw [← h.tg p]
  simp [hg]
theorem mem_take_succ {bs : List FE} {j : Nat} (hj : j < bs.length) {e : FE} : e ∈ bs.take (j + 1) ↔ e ∈ bs.take j ∨ e = bs[j] := by
  rw [List.take_succ_eq_append_getElem hj, List.mem_append, List.mem_singleton]
theorem take_ne {bs : List FE} (hb : bs.Pairwise (fun a b => cmpP a.p b.p < 0)) {j : Nat} (hj : j < bs.length) {e : FE} (he : e ∈ bs.take j) : e.p ≠ bs[j].p := by
  obtain ⟨i, hi, h⟩ := List.mem_iff_getElem.1 he
  rw [List.length_take] at hi
  rw [List.getElem_take] at h
  have h1 := List.pairwise_iff_getElem.1 hb i j (by omega) hj (by omega)
  rw [h] at h1
  exact cmpP_lt_ne h1
theorem good_p {c : CV} (h : c.good) (hk : c.kind ≠ 1) : c.p = c.x.e.p := by
  rcases h.k with k | k | k | k
  · exact absurd k hk
  · show c.path.data.toList = _
    rw [(h.mov k).1]; rfl
  · show c.path.data.toList = _
    rw [(h.put (.inl k)).1]; rfl
  · show c.path.data.toList = _
    rw [(h.put (.inr k)).1]; rfl
theorem Mid.skip {os bs : List FE} {j : Nat} {L : List CV} {g : Bs → Bool} (h : Mid os bs j L g) (ha : os.Pairwise (fun a b => cmpP a.p b.p < 0)) (hj : j < bs.length) {o : FE} (ho : o ∈ os) (he : o = bs[j]) : Mid os bs (j + 1) L g := by
  have hsub : ∀ e, e ∈ bs.take j → e ∈ bs.take (j + 1) := fun e he => (mem_take_succ hj).2 (.inl he)
  refine ⟨h.good, h.tnd, h.tg, h.tdis, fun c hc hk => ⟨hsub _ (h.anew c hc hk).1, (h.anew c hc hk).2⟩, h.pnd, fun e hm hk => ?_, fun c hc hk => ⟨hsub _ (h.mod c hc hk).1, (h.mod c hc hk).2⟩, h.mnd, fun e hm o' ho' h1 h2 h3 => ?_, h.src, fun p hp => ?_, fun p hp => ?_⟩
  · rcases (mem_take_succ hj).1 hm with h1 | h1
    · exact h.pall e h1 hk
    · rw [keptB_false] at hk
      exact absurd (by rw [h1, he]) (hk o ho (by rw [h1, he]))
  · rcases (mem_take_succ hj).1 hm with h4 | h4
    · exact h.mall e h4 o' ho' h1 h2 h3
    · have : o' = o := asc_inj ha ho' ho (by rw [h1, h4, he])
      exact absurd (by rw [this, he, h4]) h3
  · obtain ⟨e, h1, h2⟩ := h.ppath p hp
    exact ⟨e, hsub e h1, h2⟩
  · obtain ⟨e, h1, h2⟩ := h.mpath p hp
    exact ⟨e, hsub e h1, h2⟩
theorem fm_snoc (f : CV → Option Bs) (L : List CV) (c : CV) : (L ++ [c]).filterMap f = L.filterMap f ++ (f c).toList := by
  cases h : f c <;> simp [List.filterMap_append, h]
theorem nodup_snoc {l : List Bs} {p : Bs} (h : l.Nodup) (hp : p ∉ l) : (l ++ [p]).Nodup := by
  rw [List.nodup_append]
  refine ⟨h, by simp, fun a ha b hb e => ?_⟩
  rw [List.mem_singleton] at hb
  rw [hb] at e
  exact hp (e ▸ ha)
theorem Mid.change {os bs : List FE} {j : Nat} {L : List CV} {g : Bs → Bool} (h : Mid os bs j L g) (ha : os.Pairwise (fun a b => cmpP a.p b.p < 0)) (hb : bs.Pairwise (fun a b => cmpP a.p b.p < 0)) (hj : j < bs.length) {o : FE} (ho : o ∈ os) (hp : o.p = bs[j].p) (hk : o.kind = bs[j].kind) (c : CV) (hc : c.good) (h4 : c.kind = 4) (hx : c.x.e = bs[j]) : Mid os bs (j + 1) (L ++ [c]) g := by
  have hsub : ∀ e, e ∈ bs.take j → e ∈ bs.take (j + 1) := fun e he => (mem_take_succ hj).2 (.inl he)
  have hcp : c.p = bs[j].p := by rw [good_p hc (by omega), hx]
  have t1 : takeOf c = none := by unfold takeOf; rw [if_neg (by omega), if_neg (by omega)]
  have t2 : putOf c = none := by unfold putOf; rw [if_neg (by omega)]
  have t3 : modOf c = some bs[j].p := by unfold modOf; rw [if_pos h4, hcp]
  have hin : bs[j] ∈ bs.take (j + 1) := (mem_take_succ hj).2 (.inr rfl)
  refine ⟨?_, ?_, ?_, ?_, ?_, ?_, ?_, ?_, ?_, ?_, ?_, ?_, ?_⟩
  · intro x hx'
    rcases List.mem_append.1 hx' with h1 | h1
    · exact h.good x h1
    · rw [List.mem_singleton.1 h1]; exact hc
  · rw [fm_snoc, t1]; simpa using h.tnd
  · rw [fm_snoc, t1]; simpa using h.tg
  · rw [fm_snoc, t1]; simpa using h.tdis
  · intro x hx' hk'
    rcases List.mem_append.1 hx' with h1 | h1
    · exact ⟨hsub _ (h.anew x h1 hk').1, (h.anew x h1 hk').2⟩
    · rw [List.mem_singleton.1 h1] at hk'; omega
  · rw [fm_snoc, t2]; simpa using h.pnd
  · intro e hm hk'
    rw [fm_snoc, t2]
    rcases (mem_take_succ hj).1 hm with h1 | h1
    · simpa using h.pall e h1 hk'
    · rw [keptB_false] at hk'
      exact absurd (by rw [h1, hk]) (hk' o ho (by rw [h1, hp]))
  · intro x hx' hk'
    rcases List.mem_append.1 hx' with h1 | h1
    · exact ⟨hsub _ (h.mod x h1 hk').1, (h.mod x h1 hk').2⟩
    · rw [List.mem_singleton.1 h1, hx]
      exact ⟨hin, keptB_iff.2 ⟨o, ho, hp, hk⟩⟩
  · rw [fm_snoc, t3]
    refine nodup_snoc h.mnd (fun hm => ?_)
    obtain ⟨e, h1, h2⟩ := h.mpath _ hm
    exact take_ne hb hj h1 h2
  · intro e hm o' ho' h1 h2 h3
    rw [fm_snoc, t3]
    rcases (mem_take_succ hj).1 hm with h5 | h5
    · exact List.mem_append_left _ (h.mall e h5 o' ho' h1 h2 h3)
    · rw [h5]; simp
  · intro x hx' hk'
    rcases List.mem_append.1 hx' with h1 | h1
    · exact h.src x h1 hk'
    · rw [List.mem_singleton.1 h1] at hk'; omega
  · rw [fm_snoc, t2]
    intro p hp'
    obtain ⟨e, h1, h2⟩ := h.ppath p (by simpa using hp')
    exact ⟨e, hsub e h1, h2⟩
  · rw [fm_snoc, t3]
    intro p hp'
    rcases List.mem_append.1 hp' with h1 | h1
    · obtain ⟨e, h2, h3⟩ := h.mpath p h1
      exact ⟨e, hsub e h2, h3⟩
    · simp at h1
      exact ⟨bs[j], hin, h1.symm⟩
theorem Mid.add {os bs : List FE} {j : Nat} {L : List CV} {g g' : Bs → Bool} (h : Mid os bs j L g) (hb : bs.Pairwise (fun a b => cmpP a.p b.p < 0)) (hj : j < bs.length) (hk : keptB os bs[j] = false) (c : CV) (hc : c.good) (hx : c.x.e = bs[j])
    (h23 : (c.kind = 3 ∧ g' = g) ∨ (c.kind = 2 ∧ g c.frm.data.toList = true ∧ (∀ p, g' p = if p = c.frm.data.toList then false else g p) ∧ ∃ o ∈ os, o.path = c.frm ∧ o.kind = c.x.e.kind ∧ sameC o c.x.e = true)) : Mid os bs (j + 1) (L ++ [c]) g' := by
  have hsub : ∀ e, e ∈ bs.take j → e ∈ bs.take (j + 1) := fun e he => (mem_take_succ hj).2 (.inl he)
  have hk1 : c.kind = 2 ∨ c.kind = 3 := by rcases h23 with h | h; exact .inr h.1; exact .inl h.1
  have hcp : c.p = bs[j].p := by rw [good_p hc (by omega), hx]
  have t2 : putOf c = some bs[j].p := by unfold putOf; rw [if_pos hk1, hcp]
  have t3 : modOf c = none := by unfold modOf; rw [if_neg (by omega)]
  have hin : bs[j] ∈ bs.take (j + 1) := (mem_take_succ hj).2 (.inr rfl)
  have ht : ((L ++ [c]).filterMap takeOf).Nodup ∧ (∀ p, (g' p = true ∨ p ∈ (L ++ [c]).filterMap takeOf) ↔ (g p = true ∨ p ∈ L.filterMap takeOf)) ∧ ∀ p ∈ (L ++ [c]).filterMap takeOf, g' p = false := by
    rw [fm_snoc]
    rcases h23 with ⟨h3, rfl⟩ | ⟨h2, hg, hg', _⟩
    · have t1 : takeOf c = none := by unfold takeOf; rw [if_neg (by omega), if_neg (by omega)]
      rw [t1]
      exact ⟨by simpa using h.tnd, fun p => by simp, by simpa using h.tdis⟩
    · have t1 : takeOf c = some c.frm.data.toList := by unfold takeOf; rw [if_neg (by omega), if_pos h2]
      rw [t1]
      refine ⟨nodup_snoc h.tnd (fun hm => ?_), fun p => ?_, fun p hp => ?_⟩
      · have := h.tdis _ hm
        rw [hg] at this
        cases this
      · rw [hg' p, List.mem_append]
        by_cases e : p = c.frm.data.toList
        · rw [if_pos e, e]
          simp [hg]
        · rw [if_neg e]
          simp [e]
      · rw [hg' p]
        rcases List.mem_append.1 hp with h1 | h1
        · split
          · rfl
          · exact h.tdis p h1
        · simp at h1
          rw [if_pos h1]
  refine ⟨?_, ht.1, fun p => by rw [ht.2.1 p]; exact h.tg p, ht.2.2, ?_, ?_, ?_, ?_, ?_, ?_, ?_, ?_, ?_⟩
  · intro x hx'
    rcases List.mem_append.1 hx' with h1 | h1
    · exact h.good x h1
    · rw [List.mem_singleton.1 h1]; exact hc
  · intro x hx' hk'
    rcases List.mem_append.1 hx' with h1 | h1
    · exact ⟨hsub _ (h.anew x h1 hk').1, (h.anew x h1 hk').2⟩
    · rw [List.mem_singleton.1 h1, hx]
      exact ⟨hin, hk⟩
  · rw [fm_snoc, t2]
    refine nodup_snoc h.pnd (fun hm => ?_)
    obtain ⟨e, h1, h2⟩ := h.ppath _ hm
    exact take_ne hb hj h1 h2
  · intro e hm hk'
    rw [fm_snoc, t2]
    rcases (mem_take_succ hj).1 hm with h1 | h1
    · exact List.mem_append_left _ (h.pall e h1 hk')
    · rw [h1]; simp
  · intro x hx' hk'
    rcases List.mem_append.1 hx' with h1 | h1
    · exact ⟨hsub _ (h.mod x h1 hk').1, (h.mod x h1 hk').2⟩
    · rw [List.mem_singleton.1 h1] at hk'; omega
  · rw [fm_snoc, t3]; simpa using h.mnd
  · intro e hm o' ho' h1 h2 h3
    rw [fm_snoc, t3]
    rcases (mem_take_succ hj).1 hm with h5 | h5
    · simpa using h.mall e h5 o' ho' h1 h2 h3
    · rw [keptB_false] at hk
      exact absurd (by rw [h2, h5]) (hk o' ho' (by rw [h1, h5]))
  · intro x hx' hk'
    rcases List.mem_append.1 hx' with h1 | h1
    · exact h.src x h1 hk'
    · rw [List.mem_singleton.1 h1] at hk' ⊢
      rcases h23 with h4 | h4
      · omega
      · exact h4.2.2.2
  · rw [fm_snoc, t2]
    intro p hp'
    rcases List.mem_append.1 hp' with h1 | h1
    · obtain ⟨e, h2, h3⟩ := h.ppath p h1
      exact ⟨e, hsub e h2, h3⟩
    · simp at h1
      exact ⟨bs[j], hin, h1.symm⟩
  · rw [fm_snoc, t3]
    intro p hp'
    obtain ⟨e, h1, h2⟩ := h.mpath p (by simpa using hp')
    exact ⟨e, hsub e h1, h2⟩
theorem Mid.rem {os bs : List FE} {j : Nat} {L : List CV} {g g' : Bs → Bool} (h : Mid os bs j L g) (c : CV) (hc : c.good) (h1 : c.kind = 1) (hg : g c.p = true) (hg' : ∀ p, g' p = if p = c.p then false else g p) : Mid os bs j (L ++ [c]) g' := by
  have t1 : takeOf c = some c.p := by unfold takeOf; rw [if_pos h1]
  have t2 : putOf c = none := by unfold putOf; rw [if_neg (by omega)]
  have t3 : modOf c = none := by unfold modOf; rw [if_neg (by omega)]
  have hne : ∀ x ∈ L ++ [c], x.kind ≠ 1 → x ∈ L := fun x hx hk => by
    rcases List.mem_append.1 hx with h2 | h2
    · exact h2
    · rw [List.mem_singleton.1 h2] at hk
      exact absurd h1 hk
  refine ⟨?_, ?_, ?_, ?_, ?_, ?_, ?_, ?_, ?_, ?_, ?_, ?_, ?_⟩
  · intro x hx'
    rcases List.mem_append.1 hx' with h2 | h2
    · exact h.good x h2
    · rw [List.mem_singleton.1 h2]; exact hc
  · rw [fm_snoc, t1]
    refine nodup_snoc h.tnd (fun hm => ?_)
    have := h.tdis _ hm
    rw [hg] at this
    cases this
  · intro p
    rw [← h.tg p, fm_snoc, t1, hg' p, List.mem_append]
    by_cases e : p = c.p
    · rw [if_pos e, e]
      simp [hg]
    · rw [if_neg e]
      simp [e]
  · rw [fm_snoc, t1]
    intro p hp
    rw [hg' p]
    rcases List.mem_append.1 hp with h2 | h2
    · split
      · rfl
      · exact h.tdis p h2
    · simp at h2
      rw [if_pos h2]
  · exact fun x hx hk => h.anew x (hne x hx (by omega)) hk
  · rw [fm_snoc, t2]; simpa using h.pnd
  · intro e he hk
    rw [fm_snoc, t2]; simpa using h.pall e he hk
  · exact fun x hx hk => h.mod x (hne x hx (by omega)) hk
  · rw [fm_snoc, t3]; simpa using h.mnd
  · intro e he o ho h2 h3 h4
    rw [fm_snoc, t3]; simpa using h.mall e he o ho h2 h3 h4
  · exact fun x hx hk => h.src x (hne x hx (by omega)) hk
  · rw [fm_snoc, t2]; intro p hp; exact h.ppath p (by simpa using hp)
  · rw [fm_snoc, t3]; intro p hp; exact h.mpath p (by simpa using hp)
theorem movP_kind {e : FE} {c : Int × ByteArray} (h : movP e = some c) : e.kind = c.1 ∧ (c.1 = 1 ∨ c.1 = 3) := by
  unfold movP at h
  split at h
  · rename_i h1
    cases h
    exact ⟨h1.1, .inl rfl⟩
  · split at h
    · rename_i h1
      cases h
      exact ⟨h1, .inr rfl⟩
    · cases h
theorem movP_same {o e : FE} {c : Int × ByteArray} (ho : movP o = some c) (he : movP e = some c) (ok1 : o.ok) (ok2 : e.ok) (hb1 : ∀ x ∈ o.data, x < 256) (hb2 : ∀ x ∈ e.data, x < 256) : o.kind = e.kind ∧ sameC o e = true := by
  obtain ⟨k1, k2⟩ := movP_kind ho
  obtain ⟨k3, _⟩ := movP_kind he
  refine ⟨by rw [k1, k3], sameC_iff.2 ?_⟩
  unfold movP at ho he
  rcases k2 with k | k
  · have q1 : o.kind = 1 := by rw [k1, k]
    have q2 : e.kind = 1 := by rw [k3, k]
    split at ho
    · split at he
      · cases ho
        injection he with he
        have h2 := congrArg Prod.snd he
        refine ⟨?_, (strB_inj hb2 hb1 h2).symm⟩
        apply ByteArray.ext
        apply Array.toList_inj.1
        have s1 : o.link.data.toList = [] := List.eq_nil_of_length_eq_zero (by rw [bytes_len]; exact (ok1.file q1).2)
        have s2 : e.link.data.toList = [] := List.eq_nil_of_length_eq_zero (by rw [bytes_len]; exact (ok2.file q2).2)
        rw [s1, s2]
      · rw [if_neg (by omega)] at he; cases he
    · rw [if_neg (by omega)] at ho; cases ho
  · have q1 : o.kind = 3 := by rw [k1, k]
    have q2 : e.kind = 3 := by rw [k3, k]
    rw [if_neg (by omega), if_pos q1] at ho
    rw [if_neg (by omega), if_pos q2] at he
    rw [← he] at ho
    injection ho with ho
    refine ⟨congrArg Prod.snd ho, ?_⟩
    rw [(ok1.lnk q1).1, (ok2.lnk q2).1]
end Go.Proofs.YtmcbnhkcjhlbaaaGreatDoor.Tp
end
section
namespace Go.Proofs.YtmcbnhkcjhlbaaaGreatDoor
open Go.Shelf
def keysE_ren : Go.Shelf.Ren := ⟨fun | 7 => 88 | 10 => 138 | n => n, fun | 23 => 109 | 26 => 9 | 3 => 54 | 28 => 186 | 0 => 0 | 27 => 185 | 33 => 112 | 4 => 4 | n => n, fun | n => n⟩
theorem keysE : Go.Proofs.SlLaysZ.n7 Tryz.prog keysE_ren := {
  mixed := by kernel_rfl
  f7 := ⟨Tryz.f88.name, by decide, Tryz.func88.trans (congrArg some (by kernel_rfl))⟩
  f10 := ⟨Tryz.f138.name, by decide, Tryz.func138.trans (congrArg some (by kernel_rfl))⟩
  t0 := Tryz.underlying0
  a0 := Tryz.isAgg0
  z0 := Tryz.sizeOf0
  v0 := Tryz.zeroValue0
  t4 := Tryz.underlying4
  a4 := Tryz.isAgg4
  z4 := Tryz.sizeOf4
  v4 := Tryz.zeroValue4
  t23 := Tryz.underlying109
  a23 := Tryz.isAgg109
  z23 := Tryz.sizeOf109
  v23 := Tryz.zeroValue109
  t26 := Tryz.underlying9
  a26 := Tryz.isAgg9
  z26 := Tryz.sizeOf9
  v26 := Tryz.zeroValue9
  t27 := Tryz.underlying185
  a27 := Tryz.isAgg185
  z27 := Tryz.sizeOf185
  v27 := Tryz.zeroValue185
  t28 := Tryz.underlying186
  a28 := Tryz.isAgg186
  z28 := Tryz.sizeOf186
  v28 := Tryz.zeroValue186
  t33 := Tryz.underlying112
  a33 := Tryz.isAgg112
  z33 := Tryz.sizeOf112
  v33 := Tryz.zeroValue112 }
def collS_ren : Go.Shelf.Ren := ⟨fun | 8 => 136 | 11 => 180 | n => n, fun | 26 => 9 | 28 => 186 | 24 => 130 | 0 => 0 | 33 => 112 | 4 => 4 | n => n, fun | n => n⟩
theorem collS : Go.Proofs.SlLaysZ.n8 Tryz.prog collS_ren := {
  mixed := by kernel_rfl
  f8 := ⟨Tryz.f136.name, by decide, Tryz.func136.trans (congrArg some (by kernel_rfl))⟩
  f11 := ⟨Tryz.f180.name, by decide, Tryz.func180.trans (congrArg some (by kernel_rfl))⟩
  t0 := Tryz.underlying0
  a0 := Tryz.isAgg0
  z0 := Tryz.sizeOf0
  v0 := Tryz.zeroValue0
  t24 := Tryz.underlying130
  a24 := Tryz.isAgg130
  z24 := Tryz.sizeOf130
  v24 := Tryz.zeroValue130
  t26 := Tryz.underlying9
  a26 := Tryz.isAgg9
  z26 := Tryz.sizeOf9
  v26 := Tryz.zeroValue9
  t28 := Tryz.underlying186
  a28 := Tryz.isAgg186
  z28 := Tryz.sizeOf186
  v28 := Tryz.zeroValue186
  i26 := by kernel_rfl }
def sortS_ren : Go.Shelf.Ren := ⟨fun | 6 => 137 | 15 => 134 | 14 => 181 | 28 => 178 | 29 => 179 | 20 => 204 | 21 => 205 | 22 => 206 | 23 => 207 | 24 => 208 | 25 => 209 | 26 => 210 | 27 => 211 | 46 => 227 | 47 => 200 | 48 => 201 | 49 => 228 | 50 => 229 | 57 => 237 | n => n, fun | 22 => 130 | 24 => 9 | 25 => 72 | 3 => 3 | 39 => 173 | 0 => 0 | 53 => 169 | 55 => 23 | 4 => 4 | 46 => 283 | 45 => 282 | 50 => 127 | 5 => 5 | 9 => 9 | 66 => 302 | 70 => 305 | 76 => 324 | 77 => 325 | n => n, fun | n => n⟩
theorem sortS : Go.Proofs.SlLaysF.n6 Tryz.prog sortS_ren := {
  mixed := by kernel_rfl
  f6 := ⟨Tryz.f137.name, by decide, Tryz.func137.trans (congrArg some (by kernel_rfl))⟩
  f14 := ⟨Tryz.f181.name, by decide, Tryz.func181.trans (congrArg some (by kernel_rfl))⟩
  f15 := Tryz.func134.trans (congrArg some (by kernel_rfl))
  f20 := ⟨Tryz.f204.name, by decide, Tryz.func204.trans (congrArg some (by kernel_rfl))⟩
  f21 := ⟨Tryz.f205.name, by decide, Tryz.func205.trans (congrArg some (by kernel_rfl))⟩
  f22 := ⟨Tryz.f206.name, by decide, Tryz.func206.trans (congrArg some (by kernel_rfl))⟩
  f23 := ⟨Tryz.f207.name, by decide, Tryz.func207.trans (congrArg some (by kernel_rfl))⟩
  f24 := ⟨Tryz.f208.name, by decide, Tryz.func208.trans (congrArg some (by kernel_rfl))⟩
  f25 := ⟨Tryz.f209.name, by decide, Tryz.func209.trans (congrArg some (by kernel_rfl))⟩
  f26 := ⟨Tryz.f210.name, by decide, Tryz.func210.trans (congrArg some (by kernel_rfl))⟩
  f27 := ⟨Tryz.f211.name, by decide, Tryz.func211.trans (congrArg some (by kernel_rfl))⟩
  f28 := Tryz.func178.trans (congrArg some (by kernel_rfl))
  f29 := Tryz.func179.trans (congrArg some (by kernel_rfl))
  f46 := ⟨Tryz.f227.name, by decide, Tryz.func227.trans (congrArg some (by kernel_rfl))⟩
  f47 := Tryz.func200.trans (congrArg some (by kernel_rfl))
  f48 := Tryz.func201.trans (congrArg some (by kernel_rfl))
  f49 := ⟨Tryz.f228.name, by decide, Tryz.func228.trans (congrArg some (by kernel_rfl))⟩
  f50 := ⟨Tryz.f229.name, by decide, Tryz.func229.trans (congrArg some (by kernel_rfl))⟩
  f57 := ⟨Tryz.f237.name, by decide, Tryz.func237.trans (congrArg some (by kernel_rfl))⟩
  t0 := Tryz.underlying0
  a0 := Tryz.isAgg0
  z0 := Tryz.sizeOf0
  v0 := Tryz.zeroValue0
  t3 := Tryz.underlying3
  a3 := Tryz.isAgg3
  z3 := Tryz.sizeOf3
  v3 := Tryz.zeroValue3
  t4 := Tryz.underlying4
  a4 := Tryz.isAgg4
  z4 := Tryz.sizeOf4
  v4 := Tryz.zeroValue4
  t5 := Tryz.underlying5
  a5 := Tryz.isAgg5
  z5 := Tryz.sizeOf5
  v5 := Tryz.zeroValue5
  t9 := Tryz.underlying9
  a9 := Tryz.isAgg9
  z9 := Tryz.sizeOf9
  v9 := Tryz.zeroValue9
  t22 := Tryz.underlying130
  a22 := Tryz.isAgg130
  z22 := Tryz.sizeOf130
  v22 := Tryz.zeroValue130
  a24 := Tryz.isAgg9
  z24 := Tryz.sizeOf9
  t25 := Tryz.underlying72
  a25 := Tryz.isAgg72
  z25 := Tryz.sizeOf72
  v25 := Tryz.zeroValue72
  t39 := Tryz.underlying173
  a39 := Tryz.isAgg173
  z39 := Tryz.sizeOf173
  v39 := Tryz.zeroValue173
  t45 := Tryz.underlying282
  a45 := Tryz.isAgg282
  z45 := Tryz.sizeOf282
  v45 := Tryz.zeroValue282
  t46 := Tryz.underlying283
  a46 := Tryz.isAgg283
  z46 := Tryz.sizeOf283
  v46 := Tryz.zeroValue283
  t50 := Tryz.underlying127
  a50 := Tryz.isAgg127
  z50 := Tryz.sizeOf127
  v50 := Tryz.zeroValue127
  t53 := Tryz.underlying169
  a53 := Tryz.isAgg169
  z53 := Tryz.sizeOf169
  v53 := Tryz.zeroValue169
  t55 := Tryz.underlying23
  a55 := Tryz.isAgg23
  z55 := Tryz.sizeOf23
  v55 := Tryz.zeroValue23
  t66 := Tryz.underlying302
  a66 := Tryz.isAgg302
  z66 := Tryz.sizeOf302
  v66 := Tryz.zeroValue302
  t70 := Tryz.underlying305
  a70 := Tryz.isAgg305
  z70 := Tryz.sizeOf305
  v70 := Tryz.zeroValue305
  t76 := Tryz.underlying324
  a76 := Tryz.isAgg324
  z76 := Tryz.sizeOf324
  v76 := Tryz.zeroValue324
  t77 := Tryz.underlying325
  a77 := Tryz.isAgg325
  z77 := Tryz.sizeOf325
  v77 := Tryz.zeroValue325 }
def sortCh_ren : Go.Shelf.Ren := ⟨fun | 6 => 83 | 15 => 134 | 14 => 133 | 28 => 178 | 29 => 179 | 20 => 170 | 21 => 171 | 22 => 172 | 23 => 173 | 24 => 174 | 25 => 175 | 26 => 176 | 27 => 177 | 46 => 199 | 47 => 200 | 48 => 201 | 49 => 202 | 50 => 203 | 57 => 226 | n => n, fun | 22 => 59 | 24 => 114 | 25 => 181 | 3 => 3 | 39 => 173 | 0 => 0 | 53 => 169 | 55 => 23 | 4 => 4 | 46 => 283 | 45 => 282 | 50 => 127 | 5 => 5 | 9 => 9 | 66 => 302 | 70 => 305 | 76 => 324 | 77 => 325 | n => n, fun | n => n⟩
theorem sortCh : Go.Proofs.SlLaysF0.n6 Tryz.prog sortCh_ren := {
  mixed := by kernel_rfl
  f6 := ⟨Tryz.f83.name, by decide, Tryz.func83.trans (congrArg some (by kernel_rfl))⟩
  f14 := ⟨Tryz.f133.name, by decide, Tryz.func133.trans (congrArg some (by kernel_rfl))⟩
  f15 := Tryz.func134.trans (congrArg some (by kernel_rfl))
  f20 := ⟨Tryz.f170.name, by decide, Tryz.func170.trans (congrArg some (by kernel_rfl))⟩
  f21 := ⟨Tryz.f171.name, by decide, Tryz.func171.trans (congrArg some (by kernel_rfl))⟩
  f22 := ⟨Tryz.f172.name, by decide, Tryz.func172.trans (congrArg some (by kernel_rfl))⟩
  f23 := ⟨Tryz.f173.name, by decide, Tryz.func173.trans (congrArg some (by kernel_rfl))⟩
  f24 := ⟨Tryz.f174.name, by decide, Tryz.func174.trans (congrArg some (by kernel_rfl))⟩
  f25 := ⟨Tryz.f175.name, by decide, Tryz.func175.trans (congrArg some (by kernel_rfl))⟩
  f26 := ⟨Tryz.f176.name, by decide, Tryz.func176.trans (congrArg some (by kernel_rfl))⟩
  f27 := ⟨Tryz.f177.name, by decide, Tryz.func177.trans (congrArg some (by kernel_rfl))⟩
  f28 := Tryz.func178.trans (congrArg some (by kernel_rfl))
  f29 := Tryz.func179.trans (congrArg some (by kernel_rfl))
  f46 := ⟨Tryz.f199.name, by decide, Tryz.func199.trans (congrArg some (by kernel_rfl))⟩
  f47 := Tryz.func200.trans (congrArg some (by kernel_rfl))
  f48 := Tryz.func201.trans (congrArg some (by kernel_rfl))
  f49 := ⟨Tryz.f202.name, by decide, Tryz.func202.trans (congrArg some (by kernel_rfl))⟩
  f50 := ⟨Tryz.f203.name, by decide, Tryz.func203.trans (congrArg some (by kernel_rfl))⟩
  f57 := ⟨Tryz.f226.name, by decide, Tryz.func226.trans (congrArg some (by kernel_rfl))⟩
  t0 := Tryz.underlying0
  a0 := Tryz.isAgg0
  z0 := Tryz.sizeOf0
  v0 := Tryz.zeroValue0
  t3 := Tryz.underlying3
  a3 := Tryz.isAgg3
  z3 := Tryz.sizeOf3
  v3 := Tryz.zeroValue3
  t4 := Tryz.underlying4
  a4 := Tryz.isAgg4
  z4 := Tryz.sizeOf4
  v4 := Tryz.zeroValue4
  t5 := Tryz.underlying5
  a5 := Tryz.isAgg5
  z5 := Tryz.sizeOf5
  v5 := Tryz.zeroValue5
  t9 := Tryz.underlying9
  a9 := Tryz.isAgg9
  z9 := Tryz.sizeOf9
  v9 := Tryz.zeroValue9
  t22 := Tryz.underlying59
  a22 := Tryz.isAgg59
  z22 := Tryz.sizeOf59
  v22 := Tryz.zeroValue59
  t25 := Tryz.underlying181
  a25 := Tryz.isAgg181
  z25 := Tryz.sizeOf181
  v25 := Tryz.zeroValue181
  t39 := Tryz.underlying173
  a39 := Tryz.isAgg173
  z39 := Tryz.sizeOf173
  v39 := Tryz.zeroValue173
  t45 := Tryz.underlying282
  a45 := Tryz.isAgg282
  z45 := Tryz.sizeOf282
  v45 := Tryz.zeroValue282
  t46 := Tryz.underlying283
  a46 := Tryz.isAgg283
  z46 := Tryz.sizeOf283
  v46 := Tryz.zeroValue283
  t50 := Tryz.underlying127
  a50 := Tryz.isAgg127
  z50 := Tryz.sizeOf127
  v50 := Tryz.zeroValue127
  t53 := Tryz.underlying169
  a53 := Tryz.isAgg169
  z53 := Tryz.sizeOf169
  v53 := Tryz.zeroValue169
  t55 := Tryz.underlying23
  a55 := Tryz.isAgg23
  z55 := Tryz.sizeOf23
  v55 := Tryz.zeroValue23
  t66 := Tryz.underlying302
  a66 := Tryz.isAgg302
  z66 := Tryz.sizeOf302
  v66 := Tryz.zeroValue302
  t70 := Tryz.underlying305
  a70 := Tryz.isAgg305
  z70 := Tryz.sizeOf305
  v70 := Tryz.zeroValue305
  t76 := Tryz.underlying324
  a76 := Tryz.isAgg324
  z76 := Tryz.sizeOf324
  v76 := Tryz.zeroValue324
  t77 := Tryz.underlying325
  a77 := Tryz.isAgg325
  z77 := Tryz.sizeOf325
  v77 := Tryz.zeroValue325 }
end Go.Proofs.YtmcbnhkcjhlbaaaGreatDoor
end
section
namespace Go.Proofs.YtmcbnhkcjhlbaaaGreatDoor.Tp
open Go.RowKit
open Kit (Chg)
open Go.Shelf
open Go.Proofs.YtmcbnhkcjhlbaaaGreatDoor.One
def cmpC (x y : CV) : Int := if x.kind ≠ y.kind then x.kind - y.kind else cmpP x.path.data.toList y.path.data.toList
structure CVS (c : CV) : Prop where
  k0 : 0 ≤ c.kind
  k1 : c.kind ≤ 10
  p : c.path.size ≤ 4000000
set_option maxRecDepth 100000 in
set_option maxHeartbeats 4000000 in
theorem diffCmp_any (x y : CV) (hx : CVS x) (hy : CVS y) (w : World) : Calls Tryz.prog 84 #[.agg x.row, .agg y.row] w fun e w' => e = .returned (.int .i64 (cmpC x y)) ∧ ∃ q os, w' = Sort.grow (w.drewN q) os := by
  have HCM := Lib.hid (fun V => compare_any x.path y.path hx.p hy.p V)
  have x0 := hx.k0
  have x1 := hx.k1
  have y0 := hy.k0
  have y1 := hy.k1
  obtain ⟨ck, cp, cf, ⟨path, kind, mode, time, data, link⟩, a, cc⟩ := x
  obtain ⟨ckB, cpB, cfB, ⟨pathB, kindB, modeB, timeB, dataB, linkB⟩, aB, ccB⟩ := y
  unfold CV.row cmpC
  dsimp only at HCM x0 x1 y0 y1 ⊢
  obtain ⟨R, hR⟩ := ex_eq (cmpP cp.data.toList cpB.data.toList)
  rw [hR] at HCM ⊢
  clear hx hy hR
  go_enter Tryz.func84, Tryz.ntmps84
  go_upto_region 1 with fail
  refine wp_over (fun W => Hid (W.heap[w.heap.size]? = some (.cells (CV.row ⟨ck, cp, cf, ⟨path, kind, mode, time, data, link⟩, a, cc⟩) 114 (0, 0))) ∧ Hid (W.heap[w.heap.size + 1]? = some (.cells (CV.row ⟨ckB, cpB, cfB, ⟨pathB, kindB, modeB, timeB, dataB, linkB⟩, aB, ccB⟩) 114 (0, 0))) ∧ Hid (∃ os, W = Sort.grow w os)) ⟨Lib.hid two_rows1, Lib.hid two_rows2, Lib.hid ⟨#[.cells #[.int .i64 ck, .string cp, .string cf, .string path, .int .i64 kind, .int .i64 mode, .int .i64 time, .slice a data.length cc, .string link] 114 (0, 0)] ++ #[.cells #[.int .i64 ckB, .string cpB, .string cfB, .string pathB, .int .i64 kindB, .int .i64 modeB, .int .i64 timeB, .slice aB dataB.length ccB, .string linkB] 114 (0, 0)], by rw [← Sort.grow_grow, ← Sort.alloc_eq_grow, ← Sort.alloc_eq_grow]⟩⟩ ?_
  rintro W ⟨HG, HZ, HGR⟩
  obtain ⟨N, hN⟩ := ex_eq w.heap.size
  rw [hN] at HG HZ ⊢
  clear hN
  obtain ⟨c0, c1, c2, c3, c4, c5, c6, c7, c8⟩ := row9 HG.out
  obtain ⟨d0, d1, d2, d3, d4, d5, d6, d7, d8⟩ := row9 HZ.out
  dsimp only at c0 c1 c2 c3 c4 c5 c6 c7 c8 d0 d1 d2 d3 d4 d5 d6 d7 d8
  by_cases hk : ck = ckB
  · have HK := Lib.hid hk
    have q1 : (ck != ckB) = false := by rw [hk]; simp
    clear hk
    go_wp2_with fail
    refine (HCM.out _).mono ?_
    rintro e w1 ⟨rfl, m, hm⟩
    have HM := Lib.hid hm
    clear hm
    go_wp2_with fail
    go_ret
    obtain ⟨os, hos⟩ := HGR.out
    refine ⟨by first | rfl | rw [if_neg (fun h => h HK.out)], m, os, by rw [HM.out, hos]; rfl⟩
  · have HK := Lib.hid hk
    have q1 : (ck != ckB) = true := by rw [bne_iff_ne]; exact hk
    have q2 : IntKind.i64.wrap (ck - ckB) = ck - ckB := IntWalk.i64_in _ (by omega)
    clear hk
    go_wp2_with fail
    go_ret
    obtain ⟨os, hos⟩ := HGR.out
    refine ⟨by first | rfl | rw [if_pos HK.out], 0, os, by rw [hos]; rfl⟩
/-! ### rows, whatever the struct -/
section
variable {α : Type} [Inhabited α] {f : α → List Value} {n : Nat}
theorem flat_any (hf : ∀ x, (f x).length = n) (hn : 0 < n) (ys : List α) : (Sort.flatK f n ys.toArray).toList = ys.flatMap f := by
  refine List.ext_getElem? fun t => ?_
  by_cases ht : t < ys.length * n
  · have h1 : t / n < ys.length := by rw [Nat.div_lt_iff_lt_mul hn]; exact ht
    have h2 : t % n < n := Nat.mod_lt _ hn
    have h3 : t = t / n * n + t % n := (Nat.div_add_mod' t n).symm
    have e1 := rw_get hf ys (t / n) h1 (t % n) h2
    rw [← h3] at e1
    rw [e1]
    have hs : t < (Sort.flatK f n ys.toArray).size := by rw [Sort.size_flatK]; simpa using ht
    have e2 := Sort.get_flatK f n ys.toArray t (by simpa using ht)
    rw [getElem!_pos _ t hs] at e2
    rw [Array.getElem?_toList, Array.getElem?_eq_getElem hs, e2]
    have h4 : t % n < (f ys[t / n]).length := by rw [hf]; exact h2
    rw [List.getElem?_eq_getElem h4]
    congr 1
    rw [getElem!_pos ys.toArray (t / n) (by simpa using h1)]
    simp only [List.getElem_toArray]
    exact getElem!_pos (f ys[t / n]) (t % n) h4
  · rw [List.getElem?_eq_none (by rw [Array.length_toList, Sort.size_flatK]; simp; omega), List.getElem?_eq_none (by rw [rw_len hf]; omega)]
theorem holds_any (hf : ∀ x, (f x).length = n) (hn : 0 < n) {w : World} {base m cap bl : Nat} {T : TypeId} {xs : List α} (h : w.ownsRow base T n (.slice (some ⟨bl, 0, none⟩) m cap) m (xs.flatMap f)) : Sort.HoldsK f n w bl 0 xs.toArray := by
  intro j hj
  have hl := h.1
  rw [rw_len hf] at hl
  rw [Sort.size_flatK] at hj
  have hj2 : j < xs.length * n := by simpa using hj
  rw [Nat.zero_add]
  have h0 := flat_any hf hn xs
  rcases h.2 with ⟨e, _⟩ | ⟨g, cap', cur, e, h1, h2, h3, h4, h5, h6⟩
  · cases e
  · injection e with e1 e2 e3
    injection e1 with e1
    injection e1 with e1
    subst e1
    refine ⟨?_, frozen_of_row _ _ _ _ _ h2⟩
    have hs : j < (Sort.flatK f n xs.toArray).size := by rw [Sort.size_flatK]; exact hj
    have hlt : j < cur.size := by rw [h5]; exact Nat.lt_of_lt_of_le (by rw [← hl]; exact hj2) (Nat.mul_le_mul_right _ h3)
    show w.cell? ⟨bl, j, none⟩ = _
    unfold World.cell?
    simp only [h2]
    rw [getElem!_pos _ j hs]
    have e2 : cur.toList.take (m * n) = (Sort.flatK f n xs.toArray).toList := by rw [h0, h6]
    have e3 := congrArg (fun q => q[j]?) e2
    simp only [List.getElem?_take] at e3
    rw [if_pos (by omega), Array.getElem?_toList, Array.getElem?_toList, Array.getElem?_eq_getElem hlt, Array.getElem?_eq_getElem hs] at e3
    simpa [Array.getElem?_eq_getElem hlt] using Option.some.inj e3
theorem own_sorted {w : World} {base k cap bl m : Nat} {T : TypeId} {L : List Value} (hsz : L.length = k * n) (F : Array Value) (os : Array Obj) (h : w.ownsRow base T n (.slice (some ⟨bl, 0, none⟩) k cap) k L) (hF : F.size = k * n) : (Sort.grow (Sort.putRow id (Sort.ahead w m) bl 0 F) os).ownsRow base T n (.slice (some ⟨bl, 0, none⟩) k cap) k F.toList ∧ Chg (fun q _ => q = bl) w (Sort.grow (Sort.putRow id (Sort.ahead w m) bl 0 F) os) := by
  have h1 : (Sort.ahead w m).ownsRow base T n (.slice (some ⟨bl, 0, none⟩) k cap) k L := h
  have h2 := own_putRow h1 F hF
  have c1 : Chg (fun q _ => q = bl) w (Sort.ahead w m) := Chg.of_heap rfl rfl rfl rfl
  have c2 := c1.trans (putRow_chg (Sort.ahead w m) bl F)
  have hb : Below (Sort.putRow id (Sort.ahead w m) bl 0 F).heap.size (Sort.putRow id (Sort.ahead w m) bl 0 F) (Sort.grow (Sort.putRow id (Sort.ahead w m) bl 0 F) os) :=
    ⟨rfl, rfl, rfl, by rw [Sort.size_grow]; exact Nat.le_add_right _ _, fun k hk => by simp [Sort.grow, Array.getElem?_append_left hk]⟩
  exact ⟨own_later h2 hb, c2.trans (Chg.of_below hb)⟩
end
theorem own_block_lt {w : World} {base size k cap bl : Nat} {T : TypeId} {L : List Value} (h : w.ownsRow base T size (.slice (some ⟨bl, 0, none⟩) k cap) k L) : bl < w.heap.size ∧ base ≤ bl := by
  rcases h.2 with ⟨e, _⟩ | ⟨g, cap', cur, e, h1, h2, _⟩
  · cases e
  · injection e with e1 e2 e3
    injection e1 with e1
    injection e1 with e1
    subst e1
    exact ⟨(Array.getElem?_eq_some_iff.1 h2).1, h1⟩
/-! ### changes -/
abbrev SC : Type := {c : CV // CVS c}
instance : Inhabited SC := ⟨⟨⟨0, ByteArray.empty, ByteArray.empty, fvZero⟩, ⟨by decide, by decide, by decide⟩⟩⟩
def SC.cells (s : SC) : List Value := s.1.cells
theorem flat_val (xs : List SC) : xs.flatMap SC.cells = (xs.map (·.1)).flatMap CV.cells := by rw [List.flatMap_map]; rfl
theorem swoC : Sort.SWO (ltOf (fun a b : SC => cmpC a.1 b.1)) := by
  have e : ∀ a b : SC, ltOf (fun a b : SC => cmpC a.1 b.1) a b = true ↔ a.1.kind < b.1.kind ∨ (a.1.kind = b.1.kind ∧ cmpP a.1.path.data.toList b.1.path.data.toList < 0) := fun a b => by
    unfold ltOf cmpC
    rw [decide_eq_true_eq]
    dsimp only
    split <;> omega
  refine ⟨fun x => ?_, fun x y z h k => ?_, fun x y z h k => ?_⟩
  · rw [Bool.eq_false_iff]
    intro h
    rw [e, cmpP_self] at h
    omega
  · rw [e] at h k ⊢
    rcases h with h | ⟨h, h2⟩ <;> rcases k with k | ⟨k, k2⟩
    · exact .inl (by omega)
    · exact .inl (by omega)
    · exact .inl (by omega)
    · exact .inr ⟨by omega, cmpP_trans h2 k2⟩
  · rw [Bool.eq_false_iff] at h k ⊢
    intro g
    rw [e] at g
    rw [Ne, e] at h k
    rcases g with g | ⟨g, g2⟩
    · by_cases h1 : x.1.kind < y.1.kind
      · exact h (.inl h1)
      · exact k (.inl (by omega))
    · have h1 : ¬ x.1.kind < y.1.kind := fun q => h (.inl q)
      have h2 : ¬ y.1.kind < z.1.kind := fun q => k (.inl q)
      have e1 : x.1.kind = y.1.kind := by omega
      have e2 : y.1.kind = z.1.kind := by omega
      have h3 : ¬ cmpP x.1.path.data.toList y.1.path.data.toList < 0 := fun q => h (.inr ⟨e1, q⟩)
      have h4 : ¬ cmpP y.1.path.data.toList z.1.path.data.toList < 0 := fun q => k (.inr ⟨e2, q⟩)
      rcases cmpP_range x.1.path.data.toList y.1.path.data.toList with q | q | q
      · omega
      · rw [cmpP_eq q] at g2
        exact h4 g2
      · have q2 := cmpP_anti y.1.path.data.toList x.1.path.data.toList
        exact h4 (cmpP_trans (by omega) g2)
set_option maxRecDepth 100000 in
set_option maxHeartbeats 4000000 in
theorem sortCh_any {base n : Nat} (v : Value) (xs : List CV) (hn2 : n ≤ 1000000) (hc : ∀ c ∈ xs, CVS c) (w : World) (h : w.ownsRow base 114 9 v n (xs.flatMap CV.cells)) :
    Calls Tryz.prog 83 #[v, .func (.func 84) #[] #[]] w fun e w' => e = .returned (.tuple #[]) ∧ ∃ ys : List CV, ys.Perm xs ∧ w'.ownsRow base 114 9 v n (ys.flatMap CV.cells) ∧ Chg (fun q _ => some q = v.ownBlock) w w' := by
  have hl := h.1
  rw [rw_len CV.len] at hl
  have hn : xs.length = n := by omega
  rcases h.2 with ⟨hv, h0⟩ | ⟨bl, cap, cur, hv, hbase, hcur, _⟩
  · subst hv
    obtain rfl : xs = [] := List.eq_nil_of_length_eq_zero (by omega)
    subst hn
    refine (AnyF.slices_SortFunc_none sortCh none 0 _ w).mono ?_
    rintro e w' ⟨rfl, rfl⟩
    exact ⟨rfl, [], List.Perm.refl _, h, Chg.of_heap rfl rfl rfl rfl⟩
  subst hv
  have hlt := (own_block_lt h).1
  obtain ⟨ss, hss⟩ : ∃ ss : List SC, ss.map (·.1) = xs := ⟨xs.attachWith CVS hc, by simp⟩
  have hfl : xs.flatMap CV.cells = ss.flatMap SC.cells := by rw [flat_val, hss]
  rw [hfl] at h
  have hsl : ss.length = n := by rw [← hn, ← hss, List.length_map]
  have hH := holds_any (f := SC.cells) (fun s => CV.len s.1) (by decide) h
  have hcall := AnyQ.slices_SortFunc sortCh 9 (fun w => by kernel_rfl) (fun w => by kernel_rfl) SC.cells (fun s => CV.len s.1) (fun s => CV.one s.1) (fun a b => cmpC a.1 b.1) swoC 84 #[] bl 0 cap ss.toArray w (enters_of Tryz.func84 (by kernel_rfl) rfl) (fun m os dk hdk x y => diffCmp_any x.1 y.1 x.2 y.2 _) hH hlt (by simp; omega)
  rw [show ss.toArray.size = n by simp [hsl]] at hcall
  refine hcall.mono ?_
  rintro e w' ⟨rfl, d', m, os, hp, hso, rfl⟩
  have hsz : d'.size = n := by have := hp.1; simpa [hsl] using this
  have hperm : d'.toList.Perm ss := by
    have h2 := hp.2.2
    rw [show (n : Nat) = d'.size by rw [hsz], Array.extract_size] at h2
    rw [show d'.size = ss.toArray.size by rw [hsz]; simp [hsl], Array.extract_size] at h2
    exact h2
  have h1 := own_sorted (m := m) (L := ss.flatMap SC.cells) (by rw [rw_len (f := SC.cells) (fun s => CV.len s.1), hsl]) (Sort.flatK SC.cells 9 d') os h (by rw [Sort.size_flatK, hsz])
  have h3 := flat_any (f := SC.cells) (fun s => CV.len s.1) (by decide) d'.toList
  rw [Array.toArray_toList] at h3
  rw [h3, flat_val] at h1
  refine ⟨rfl, d'.toList.map (fun (x : SC) => x.1), ?_, h1.1, h1.2.mono fun q _ _ e => by rw [e]; rfl⟩
  rw [← hss]
  exact hperm.map _
/-! ### paths -/
abbrev SP : Type := {s : Bs // s.length ≤ 4000000}
instance : Inhabited SP := ⟨⟨[], by decide⟩⟩
def SP.val (s : SP) : Value := encStr s.1
theorem SP.one : OneCell SP.val := fun s => rfl
theorem swoS : Sort.SWO (ltOf (fun a b : SP => cmpP a.1 b.1)) := by
  have e : ∀ a b : SP, ltOf (fun a b : SP => cmpP a.1 b.1) a b = true ↔ cmpP a.1 b.1 < 0 := fun a b => by
    unfold ltOf
    rw [decide_eq_true_eq]
  refine ⟨fun x => ?_, fun x y z h k => ?_, fun x y z h k => ?_⟩
  · rw [Bool.eq_false_iff]
    intro h
    rw [e, cmpP_self] at h
    omega
  · rw [e] at h k ⊢
    exact cmpP_trans h k
  · rw [Bool.eq_false_iff] at h k ⊢
    intro g
    rw [e] at g
    rw [Ne, e] at h k
    rcases cmpP_range x.1 y.1 with q | q | q
    · omega
    · rw [cmpP_eq q] at g
      exact k g
    · have q2 := cmpP_anti y.1 x.1
      exact k (cmpP_trans (by omega) g)
theorem putRow_map {α : Type} [Inhabited α] (enc : α → Value) (w : World) (bl off : Nat) (d : Array α) : Sort.putRow enc w bl off d = Sort.putRow id w bl off (d.map enc) := by
  unfold Sort.putRow
  congr 1
  funext c
  unfold Sort.putCells
  refine Array.ext (by simp) fun i h1 h2 => ?_
  rw [Array.getElem_mapIdx, Array.getElem_mapIdx]
  by_cases h : off ≤ i ∧ i < off + d.size
  · rw [if_pos h, if_pos (by rw [Array.size_map]; exact h)]
    have hs : i - off < d.size := by omega
    rw [getElem!_pos d _ hs, getElem!_pos (d.map enc) _ (by simpa using hs), Array.getElem_map]
    rfl
  · rw [if_neg h, if_neg (by rw [Array.size_map]; exact h)]
theorem holds_one {w : World} {base m cap bl : Nat} {T : TypeId} {xs : List SP} (h : w.ownsRow base T 1 (.slice (some ⟨bl, 0, none⟩) m cap) m (xs.map SP.val)) : Sort.Holds SP.val w bl 0 xs.toArray := by
  intro j hj
  have hj' : j < xs.length := by simpa using hj
  have hl := h.1
  rw [List.length_map] at hl
  rcases h.2 with ⟨e, _⟩ | ⟨g, cap', cur, e, h1, h2, h3, h4, h5, h6⟩
  · cases e
  · injection e with e1 e2 e3
    injection e1 with e1
    injection e1 with e1
    subst e1
    refine ⟨?_, frozen_of_row _ _ _ _ _ h2⟩
    have hk := congrArg (fun q => q[j]?) h6
    simp only [List.getElem?_take] at hk
    rw [if_pos (by omega), Array.getElem?_toList, List.getElem?_map, List.getElem?_eq_getElem hj'] at hk
    rw [Nat.zero_add, cell_of_row _ _ _ _ _ _ h2, hk, getElem!_pos xs.toArray j hj]
    rfl
set_option maxRecDepth 100000 in
set_option maxHeartbeats 4000000 in
theorem sortPaths_any {base n : Nat} (v : Value) (xs : List Bs) (hn2 : n ≤ 1000000) (hc : ∀ c ∈ xs, c.length ≤ 4000000) (w : World) (h : w.ownsRow base 9 1 v n (xs.map encStr)) :
    Calls Tryz.prog 137 #[v, .func (.func 52) #[] #[]] w fun e w' => e = .returned (.tuple #[]) ∧ ∃ ys : List Bs, ys.Perm xs ∧ ys.Pairwise (fun a b => ¬ cmpP b a < 0) ∧ w'.ownsRow base 9 1 v n (ys.map encStr) ∧ Chg (fun q _ => some q = v.ownBlock) w w' := by
  have hl := h.1
  rw [List.length_map] at hl
  have hn : xs.length = n := by omega
  rcases h.2 with ⟨hv, h0⟩ | ⟨bl, cap, cur, hv, hbase, hcur, _⟩
  · subst hv
    obtain rfl : xs = [] := List.eq_nil_of_length_eq_zero (by omega)
    subst hn
    refine (AnyF.slices_SortFunc_none (P := Tryz.prog) (ρ := sortS_ren) { sortS with } none 0 _ w).mono ?_
    rintro e w' ⟨rfl, rfl⟩
    exact ⟨rfl, [], List.Perm.refl _, .nil, h, Chg.of_heap rfl rfl rfl rfl⟩
  subst hv
  have hlt := (own_block_lt h).1
  obtain ⟨ss, hss⟩ : ∃ ss : List SP, ss.map (·.1) = xs := ⟨xs.attachWith (fun s => s.length ≤ 4000000) hc, by simp⟩
  have hfl : xs.map encStr = ss.map SP.val := by rw [← hss, List.map_map]; rfl
  rw [hfl] at h
  have hsl : ss.length = n := by rw [← hn, ← hss, List.length_map]
  have hH := holds_one h
  have hcall := Any.slices_SortFunc sortS SP.val SP.one (fun a b => cmpP a.1 b.1) swoS 52 #[] bl 0 cap ss.toArray w (enters_of Tryz.func52 (by kernel_rfl) rfl) (fun m os dk hdk x y => by
    have hk := compare_any ⟨x.1.toArray⟩ ⟨y.1.toArray⟩ (by show x.1.toArray.size ≤ _; simpa using x.2) (by show y.1.toArray.size ≤ _; simpa using y.2) (sortWorld SP.val w bl 0 m dk os)
    refine hk.mono ?_
    rintro e w' ⟨rfl, q, rfl⟩
    exact ⟨rfl, q, #[], by rw [Sort.grow_empty]⟩) hH hlt (by simp; omega)
  rw [show ss.toArray.size = n by simp [hsl]] at hcall
  refine hcall.mono ?_
  rintro e w' ⟨rfl, d', m, os, hp, hso, rfl⟩
  have hsz : d'.size = n := by have := hp.1; simpa [hsl] using this
  have hperm : d'.toList.Perm ss := by
    have h2 := hp.2.2
    rw [show (n : Nat) = d'.size by rw [hsz], Array.extract_size] at h2
    rw [show d'.size = ss.toArray.size by rw [hsz]; simp [hsl], Array.extract_size] at h2
    exact h2
  have h1 := own_sorted (m := m) (L := ss.map SP.val) (by rw [List.length_map, hsl, Nat.mul_one]) (d'.map SP.val) os h (by rw [Array.size_map, hsz, Nat.mul_one])
  have e1 : (d'.map SP.val).toList = (d'.toList.map (·.1)).map encStr := by rw [Array.toList_map, List.map_map]; rfl
  rw [e1] at h1
  refine ⟨rfl, d'.toList.map (fun (x : SP) => x.1), ?_, ?_, ?_, ?_⟩
  · rw [← hss]
    exact hperm.map _
  · rw [List.pairwise_map, List.pairwise_iff_getElem]
    intro i j hi hj hij
    have h3 := hso i j (Nat.zero_le _) hij (by simpa [hsz] using hj)
    have hi' : i < d'.size := by simpa using hi
    have hj' : j < d'.size := by simpa using hj
    rw [getElem!_pos d' i hi', getElem!_pos d' j hj'] at h3
    unfold ltOf at h3
    rw [decide_eq_false_iff_not] at h3
    exact h3
  · unfold sortWorld
    rw [putRow_map]
    exact h1.1
  · unfold sortWorld
    rw [putRow_map]
    exact h1.2.mono fun q _ _ e => by rw [e]; rfl
end Go.Proofs.YtmcbnhkcjhlbaaaGreatDoor.Tp
end
