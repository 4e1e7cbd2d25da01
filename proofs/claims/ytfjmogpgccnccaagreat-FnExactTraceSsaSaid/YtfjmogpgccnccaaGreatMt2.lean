/- Trees of values, second part: memory, operations. Conditions: none. -/
import Derived.Test.YtfjmogpgccnccaaGreatMt1
import Derived.Laws.MakeOwn
import Derived.Great.BuildSlice
import Derived.Deep.AppendSrc
import Derived.Laws.Slices
/- Trees of values in memory: a tree is taken out, lent, put back. -/
namespace Go.Tree
set_option linter.unusedSectionVars false
set_option linter.unusedVariables false
set_option linter.unusedSimpArgs false
variable {P : Program} {w0 : World} {F : Fm} {nt : Nat} {H : List Value} {L : List (AV Value)} {XD : List Nat} {X : List LT} {a : Act} {w : World} {α : Type} {res : α}
variable [Pol]
/-- Slots are emptied. -/
theorem G.drop (g : G P w0 F nt H L XD X a w) {L' : List (AV Value)} (hl : L'.length = L.length) (h : ∀ i, slot L' i = slot L i ∨ slot L' i = .un) : G P w0 F nt H L' XD X a w := by
  have hv : ∀ {i : Nat} {d : List Nat} {t : LT}, slot L' i = .val d t → slot L i = .val d t := fun {i d t} e => by
    rcases h i with h1 | h1
    · rw [← h1]; exact e
    · rw [h1] at e; cases e
  have ho : ∀ i b, b ∈ ownA (slot L' i) → b ∈ ownA (slot L i) := fun i b hb => by
    rcases h i with h1 | h1
    · rw [← h1]; exact hb
    · rw [h1] at hb; cases hb
  have hsame : ∀ i b, b ∈ shrA (slot L' i) → slot L' i = slot L i := fun i b hb => by
    rcases h i with h1 | h1
    · exact h1
    · rw [h1] at hb; cases hb
  refine ⟨g.defers, g.size, by rw [hl]; exact g.len, fun i hi => ?_, fun j v hj => ?_, fun i => ?_, g.memX, ⟨fun i => ?_, fun i j b hi hj => g.dj.dj i j b (ho i b hi) (ho j b hj), fun i b hs hb => ?_, fun i j b hs hb => ?_, g.dj.xn, fun i b hx hi => g.dj.xo i b hx (ho i b hi), fun i b hs hx => ?_, g.dj.xx, fun j b hx hj => g.dj.xd j b hx (ho j b hj)⟩, fun i b hb => g.mine i b (ho i b hb), g.mineX, g.fr, fun i b hb => g.sees i b (by rw [← hsame i b hb]; exact hb), g.seesX⟩
  · have hso := g.slots i hi
    rcases h i with h1 | h1
    · rw [h1]
      cases e : slot L i with
      | un => trivial
      | val d t => rw [e] at hso; exact hso
      | tu d t => rw [e] at hso; exact hso
      | ref r p s ty sn => rw [e] at hso; exact fun deps t ht => hso deps t (hv ht)
      | adr r p => rw [e] at hso; exact fun deps t ht => hso deps t (hv ht)
    · rw [h1]; trivial
  · have hso := g.hid j v hj
    generalize nt + j = i at hso ⊢
    rcases h i with h1 | h1
    · rw [h1]
      cases e : slot L i with
      | un => trivial
      | val d t => rw [e] at hso; exact hso
      | tu d t => rw [e] at hso; exact hso
      | ref r p s ty sn => rw [e] at hso; exact fun deps t ht => hso deps t (hv ht)
      | adr r p => rw [e] at hso; exact fun deps t ht => hso deps t (hv ht)
    · rw [h1]; trivial
  · rcases h i with h1 | h1
    · rw [h1]; exact g.mem i
    · rw [h1]; trivial
  · rcases h i with h1 | h1
    · rw [h1]; exact g.dj.nd i
    · rw [h1]; exact List.nodup_nil
  · have e := hsame i b hs; rw [e] at hs hb; exact g.dj.ss i b hs hb
  · have e := hsame i b hs; rw [e] at hs ⊢; exact g.dj.sh i j b hs (ho j b hb)
  · have e := hsame i b hs; rw [e] at hs; exact g.dj.xs i b hs hx
/-- A tuple is taken out. -/
theorem G.takeTu (g : G P w0 F nt H L [] [] a w) {s : Nat} {deps : List Nat} {Ts : List LT} (hs : slot L s = .tu deps Ts) : G P w0 F nt H (putS L s .un) deps Ts a w := by
  have hsl : s < L.length := slot_lt (by rw [hs]; simp)
  have hk : ∀ v : AV Value, killS s v = .un ∨ (killS s v = v ∧ s ∉ depsA v) := fun v => by
    cases v with
    | un => exact .inl rfl
    | val d t =>
      simp only [killS]
      split
      · exact .inl rfl
      · rename_i h; exact .inr ⟨rfl, by simpa [depsA] using h⟩
    | tu d t =>
      simp only [killS]
      split
      · exact .inl rfl
      · rename_i h; exact .inr ⟨rfl, by simpa [depsA] using h⟩
    | ref r p sub ty sn =>
      simp only [killS]
      split
      · exact .inl rfl
      · exact .inr ⟨rfl, by simp [depsA]⟩
    | adr r p =>
      simp only [killS]
      split
      · exact .inl rfl
      · exact .inr ⟨rfl, by simp [depsA]⟩
  have e : ∀ i, slot (putS L s .un) i = .un ∨ (slot (putS L s .un) i = slot L i ∧ s ≠ i ∧ s ∉ depsA (slot L i)) := fun i => by
    rw [putS, slot_set, slot_map L _ (killS_un s)]
    by_cases c : s = i
    · left; simp [c, hsl]; omega
    · simp only [c, false_and, if_false]
      rcases hk (slot L i) with h | ⟨h, h'⟩
      · exact .inl h
      · exact .inr ⟨h, by simpa using c, h'⟩
  have g1 : G P w0 F nt H (putS L s .un) [] [] a w := g.drop (by simp [putS]) (fun i => by
    rcases e i with h | ⟨h, _⟩
    · exact .inr h
    · exact .inl h)
  have ho : ownA (slot L s) = ownL Ts := by rw [hs]; rfl
  have hsh : shrA (slot L s) = shrL Ts := by rw [hs]; rfl
  refine ⟨g1.defers, g1.size, g1.len, g1.slots, g1.hid, g1.mem, by have := g.mem s; rw [hs] at this; exact this, ⟨g1.dj.nd, g1.dj.dj, g1.dj.ss, g1.dj.sh, by rw [← ho]; exact g.dj.nd s, fun i b hx hi => ?_, fun i b hi hx => ?_, fun b hx hx' => g.dj.ss s b (by rw [hsh]; exact hx) (by rw [ho]; exact hx'), fun j b hx hj => ?_⟩, g1.mine, fun b hb => g.mine s b (by rw [ho]; exact hb), g1.fr, g1.sees, fun b hb => g.sees s b (by rw [hsh]; exact hb)⟩
  · rcases e i with h | ⟨h, hn, _⟩
    · rw [h] at hi; cases hi
    · rw [h] at hi
      exact hn (g.dj.dj s i b (by rw [ho]; exact hx) hi)
  · rcases e i with h | ⟨h, _, hd⟩
    · rw [h] at hi; cases hi
    · rw [h] at hi
      exact hd (g.dj.sh i s b hi (by rw [ho]; exact hx))
  · rcases e j with h | ⟨h, _, _⟩
    · rw [h] at hj; cases hj
    · rw [h] at hj
      have := g.dj.sh s j b (by rw [hsh]; exact hx) hj
      rw [hs] at this
      exact this
theorem killS_killC (s : Nat) (v : AV Value) : killS s v = killC s [] v ∨ killS s v = .un := by
  cases v with
  | un => exact .inl rfl
  | val d t => exact .inl rfl
  | tu d t => exact .inl rfl
  | ref r p sub ty sn =>
    simp only [killS, killC]
    split
    · exact .inr rfl
    · rename_i h
      left
      rw [if_neg (by simp [h])]
  | adr r p =>
    simp only [killS, killC]
    split
    · exact .inr rfl
    · rename_i h
      left
      rw [if_neg (by simp [h])]
theorem killC_map_er (L : List (AV Value)) (r : Nat) (p : List Stp) (d : List Nat) (T : LT) : ((L.map erA).map (killC r p)).set r (.val d (er T)) = ((L.map (killC r p)).set r (.val d T)).map erA := by
  rw [map_er L (killC r p) (killC_er r p), List.map_set]
  rfl
/-- A slot's value is taken out. -/
theorem take_ok (g : G P w0 F nt H L XD X a w) {s : Nat} (hs : s < nt) (hX : rootS L s ∉ XD) {K : List Nat → TV → Env → Option α} (h : take P (L.map erA) s K = some res) :
    ∃ D T L', K D (er T) (L'.map erA) = some res ∧ G P w0 F nt H L' (XD ++ D) (X ++ [T]) a w ∧ a.tmps.getD s undef = valOf T := by
  have hso := g.slots s hs
  unfold take at h
  rw [slot_er] at h
  split at h
  · rename_i deps t ht
    obtain ⟨T, e, rfl⟩ := erA_val ht
    have hm := g.mem s
    rw [e] at hso hm
    split at h
    · rw [rootS, e] at hX
      have g1 := take_core (p := []) (u' := T) (T' := deaden T) g e hX (Vk.refl T) hm trivial (Vk.refl T) hm rfl (by simp [Flt]) rfl
      refine ⟨deps, T, putS L s .un, by rw [← putS_er]; exact h, g1.drop (by simp [putS]) (fun i => ?_), hso⟩
      have hsl : s < L.length := Nat.lt_of_lt_of_le hs g.len
      rw [putS, slot_set, slot_set, slot_map L _ (killS_un s), slot_map L _ (killC_un s [])]
      by_cases c : s = i
      · simp [c, hsl]; right; omega
      · simp only [c, false_and, if_false]
        exact killS_killC s _
    · rename_i ho
      rw [hasOwn_er] at ho
      have ho := own_nil T (by simpa using ho)
      refine ⟨deps, T, L, h, g.addRo hm ho (fun j b hb hj => ?_) (fun b hb => g.dj.xs s b (by rw [e]; exact hb)) (fun b hb => g.sees s b (by rw [e]; exact hb)), hso⟩
      have := g.dj.sh s j b (by rw [e]; exact hb) hj
      rwa [e] at this
  · rename_i r p sub ty sn ht
    have e := erA_ref ht
    rw [slot_er] at h
    split at h
    · rename_i deps t hr
      obtain ⟨T, er', rfl⟩ := erA_val hr
      rw [e] at hso
      rw [rootS, e] at hX
      obtain ⟨hv, hrv, _⟩ := hso deps T er'
      have hm := g.mem r
      rw [er'] at hm
      obtain ⟨_, _, opq, u, h, hlk, hmu, hvk⟩ := getK_ok p false false T _ hm hv.bd h
      obtain ⟨U, h, hv', hmU⟩ := lay_ok hmu h
      have evu : valOf U = valOf (get default false T p).2 := by rw [hv'.lk.valOf, hlk.valOf]
      split at h
      · rename_i ho
        rw [hasOwn_er] at ho
        rw [er_deaden] at h
        obtain ⟨T2, T', h, h2, h3, h4, h5, h6, h7, h8, h9⟩ := putK_ok (deaden U) p false T _ hm hv.bd (fun h => by cases h) h
        have hg := h2.get hv
        have h0 : (get default false T p).1 = false := by rw [← hg.1]; exact h7
        rw [h0] at hv'
        have g1 := take_core g er' hX h2 h3 h4 ((hvk h0).trans hv') hmU h5 h9 h7
        obtain ⟨T'', h, hmT, hvT, hoT, hsT, haT⟩ := subK_ok hmU (by rw [evu]; exact hrv) h
        refine ⟨deps, T'', _, ?_, g1.less hmT hoT hsT, hvT.symm⟩
        rw [← killC_map_er]; exact h
      · rename_i ho
        rw [hasOwn_er] at ho
        have ho := own_nil U (by simpa using ho)
        obtain ⟨T'', h, hmT, hvT, hoT, hsT, haT⟩ := subK_ok hmU (by rw [evu]; exact hrv) h
        have hoT' : own T'' = [] := by rw [ho] at hoT; exact List.eq_nil_of_sublist_nil hoT
        have hsh : ∀ b ∈ shr T'', b ∈ shr T := fun b hb => by
          have hb := hsT b hb
          cases hro : (get default false T p).1 with
          | true =>
            rw [hro] at hv'
            rw [hv'.rd.2, hlk.all] at hb
            exact shr_get p T hv hro b hb
          | false =>
            rw [hro] at hv'
            rw [hv'.wr.2, (hvk hro).wr.2] at hb
            obtain ⟨_, ⟨l, rr, h1, _⟩⟩ := own_get p T hv hro
            rw [h1]; simp [hb]
        refine ⟨deps, T'', L, h, g.addRo hmT hoT' (fun j b hb hj => ?_) (fun b hb => g.dj.xs r b (by rw [er']; exact hsh b hb)) (fun b hb => g.sees r b (by rw [er']; exact hsh b hb)), hvT.symm⟩
        have := g.dj.sh r j b (by rw [er']; exact hsh b hb) hj
        rwa [er'] at this
    · cases h
  · cases h

def isRf : AV Value → Bool
  | .ref .. | .adr .. => true
  | _ => false
/-- At a place stands what has this value; it is no struct. -/
def Pl (L : List (AV Value)) (q : Nat × List Stp) (v : Value) : Prop := ∀ deps t, slot L q.1 = .val deps t → Valid t q.2 ∧ valOf (get default false t q.2).2 = v ∧ isSt (get default false t q.2).2 = isAgg v
/-- No slot leads to below a place. -/
def Qt (L : List (AV Value)) (q : Nat × List Stp) : Prop := ∀ i, isRf (slot L i) = true → killC q.1 q.2 (slot L i) = slot L i
theorem killC_idem (r : Nat) (p : List Stp) (v : AV Value) : killC r p (killC r p v) = killC r p v := by
  rcases kills_C r p v with h | h
  · rw [h]; rfl
  · rw [h, h]
theorem isBox_st {t : LT} (h : isBox (er t) = true) : isSt t = false := by
  cases t <;> first | rfl | (rw [er_st] at h; cases h)
theorem farP_spec {q q' : Nat × List Stp} (h : farP q q' = true) : q.1 ≠ q'.1 ∨ above q.2 q'.2 = false ∧ above q'.2 q.2 = false := by
  unfold farP at h
  simp only [Bool.or_eq_true, bne_iff_ne, Bool.and_eq_true, Bool.not_eq_true'] at h
  exact h
/-- What a lent tree leaves: places and slots. -/
theorem isAgg_one {v : Value} (h : v.oneCell' = true) : isAgg v = false := by
  cases v <;> first | rfl | cases h
theorem isSt_val {T : LT} (hm : Mem w T) : isSt T = isAgg (valOf T) := by
  cases T with
  | fl v => exact (isAgg_one hm).symm
  | st xs => rfl
  | sl ro k hd xs =>
    obtain ⟨⟨A, c, rfl, _⟩, _⟩ := hm
    rfl
  | pt ro hd x =>
    obtain ⟨⟨b, o, rfl, _⟩, _⟩ := hm
    rfl
  | cl f xs => rfl
  | dead v => exact (isAgg_one hm).symm
theorem cells_of {A B : LT} (h : isSt A = isSt B) (hv : valOf A = valOf B) : cells A = cells B := by
  cases hA : isSt A with
  | false => rw [cells_one hA, cells_one (h.symm.trans hA), hv]
  | true =>
    cases A <;> cases B <;> first | (cases hA; done) | (rw [hA] at h; cases h; done) | skip
    rename_i xs ys
    have : Value.agg (cellsL xs).toArray = Value.agg (cellsL ys).toArray := hv
    show cellsL xs = cellsL ys
    simpa using this
theorem lent_places {r : Nat} {deps : List Nat} {T T2 T' U : LT} {p : List Stp} (hrl : r < L.length) (hr : slot L r = .val deps T) (hlk : Lk (get default false T p).2 U) (hst : isSt U = isAgg (valOf U)) (h2 : Vk false T T2) (h4 : Valid T2 p) (h5 : put default T2 p (deaden U) = some T') :
    Pl ((L.map (killC r p)).set r (.val deps T')) (r, p) (valOf U) ∧ Qt ((L.map (killC r p)).set r (.val deps T')) (r, p) ∧
      (∀ q v, farP (r, p) q = true → Pl L q v → Pl ((L.map (killC r p)).set r (.val deps T')) q v) ∧ (∀ q, Qt L q → Qt ((L.map (killC r p)).set r (.val deps T')) q) := by
  have e : ∀ i, slot ((L.map (killC r p)).set r (.val deps T')) i = if r = i then .val deps T' else killC r p (slot L i) := fun i => by
    rw [slot_set, slot_map L _ (killC_un r p)]; simp [hrl]
  have hvT : Valid T p := h2.lk.symm.valid h4
  refine ⟨fun d t ht => ?_, fun i hi => ?_, fun q v hf hq d t ht => ?_, fun q hq i hi => ?_⟩
  · rw [e, if_pos rfl] at ht
    cases ht
    obtain ⟨h6, h7⟩ := put_at _ p T2 T' h5 h4
    refine ⟨h6, ?_, ?_⟩
    · show valOf (get default false T' p).2 = _
      rw [h7]
      exact valOf_of (isSt_deaden U) (cells_deaden U)
    · show isSt (get default false T' p).2 = isAgg (valOf U)
      rw [h7]
      exact (isSt_deaden U).trans hst
  · rw [e] at hi ⊢
    split
    · rename_i c; rw [if_pos c] at hi; cases hi
    · exact killC_idem r p _
  · rw [e] at ht
    split at ht
    · rename_i c
      cases ht
      obtain ⟨h6, h7, h8⟩ := hq deps T (by rw [← c]; exact hr)
      rcases farP_spec hf with h9 | ⟨h9, h10⟩
      · exact absurd c h9
      · obtain ⟨k1, _, k3⟩ := put_keep _ p T2 T' h5 q.2 (h2.lk.valid h6) h9
        have elk := h2.lk.get false false h6
        exact ⟨k1, by rw [k3 h10, elk.valOf]; exact h7, by rw [k3 h10, elk.isSt]; exact h8⟩
    · exact hq d t (killC_val ht).1
  · rw [e] at hi ⊢
    split
    · rename_i c; rw [if_pos c] at hi; cases hi
    · rename_i c
      rw [if_neg c] at hi
      rcases kills_C r p (slot L i) with h1 | h1
      · rw [h1] at hi; cases hi
      · rw [h1] at hi ⊢; exact hq i hi
end Go.Tree

/- Trees of values in memory: a tree is put back, a part is written. -/
namespace Go.Tree
set_option linter.unusedSectionVars false
set_option linter.unusedVariables false
set_option linter.unusedSimpArgs false
variable {P : Program} {w0 : World} {F : Fm} {nt : Nat} {H : List Value} {L : List (AV Value)} {XD : List Nat} {X : List LT} {a : Act} {w : World} {α : Type} {res : α}
variable [Pol]
theorem hdP_val {t : LT} {v : Value} (h : hdP t = some v) : valOf t = v := by
  cases t with
  | pt ro hd x => cases h; rfl
  | dead u =>
    cases u with
    | pointer a => cases h; rfl
    | _ => cases h
  | _ => cases h
theorem hdP_ptr {t : LT} (hm : Mem w t) {v : Value} (h : hdP t = some v) : ∃ a, v = .pointer a := by
  cases t with
  | pt ro hd x =>
    obtain ⟨⟨b, o, rfl, _⟩, _⟩ := hm
    cases h; exact ⟨_, rfl⟩
  | dead u =>
    cases u with
    | pointer a => cases h; exact ⟨_, rfl⟩
    | _ => cases h
  | _ => cases h
theorem hdP_put {t : LT} {v : Value} (hp : ∃ a, v = .pointer a) (hm : Mem w t) (hb : (isBox (er t) || isStT (er t)) = true) (hv : valOf t = v) : hdP t = some v := by
  obtain ⟨a, rfl⟩ := hp
  cases t with
  | pt ro hd x => rw [show hd = _ from hv]; rfl
  | sl ro k hd xs =>
    obtain ⟨⟨A, c, rfl, _⟩, _⟩ := hm
    cases hv
  | st xs => cases hv
  | fl u => rw [er_fl] at hb; cases hb
  | cl f xs => cases hv
  | dead u => cases hb
/-- A lent tree, or what it has become, is put back where it stood. -/
theorem back_core {U U' T T2 T' : LT} {r : Nat} {p : List Stp} {deps D' : List Nat} (g : G P w0 F nt H L XD (U :: X) a w) (hr : slot L r = .val deps T) (hP : Pl L (r, p) (valOf U)) (hQ : Qt L (r, p)) (hst : isSt U = isAgg (valOf U)) (hvU : Vk false U U') (hmU : Mem w U') (hbx : (isBox (er U') || isStT (er U')) = true)
    (hD : ∀ j b, b ∈ shr U' → b ∈ ownA (slot L j) → j ∈ D') (hrD : r ∉ D') (hv2 : Vk false T T2) (hm2 : Mem w T2) (hval : Valid T2 p) (hput : put default T2 p U' = some T') (hown : (get default false T2 p).1 = false) (hfl : Flt U' T2 p) :
    G P w0 F nt H (L.set r (.val (deps ++ D') T')) XD X a w ∧ (∀ q v, farP (r, p) q = true → Pl L q v → Pl (L.set r (.val (deps ++ D') T')) q v) ∧ (∀ q, Qt L q → Qt (L.set r (.val (deps ++ D') T')) q) := by
  have hrl : r < L.length := slot_lt (by rw [hr]; simp)
  have hvt : Valid T p := hv2.lk.symm.valid hval
  obtain ⟨hp1, hp2, hp3⟩ := hP deps T hr
  have elkp := hv2.lk.get false false hvt
  have eisst : isSt U' = isSt (get default false T2 p).2 := by rw [hvU.lk.isSt, hst, elkp.isSt, hp3]
  have ecell : cells U' = cells (get default false T2 p).2 := by
    rw [hvU.lk.cells, elkp.cells]
    exact cells_of (by rw [hst, hp3]) hp2.symm
  obtain ⟨⟨l, rr, ho1, ho2⟩, ⟨l', r', hs1, hs2⟩⟩ := own_get p T2 hval hown
  have ho2 := ho2 _ _ hput
  have hs2 := hs2 _ _ hput
  rw [hv2.wr.1] at ho1
  rw [hv2.wr.2] at hs1
  rw [hvU.wr.1] at ho2
  obtain ⟨hmT, hcT⟩ := put_same hmU p T2 T' hput hval hfl hm2 ecell
  have evT : valOf T' = valOf T := by rw [valOf_of (put_isSt hput hval eisst) hcT, hv2.lk.valOf]
  have evd : valOf U' = valOf (get default false T2 p).2 := valOf_of eisst ecell
  have e : ∀ i, slot (L.set r (.val (deps ++ D') T')) i = if r = i then .val (deps ++ D') T' else slot L i := fun i => by
    rw [slot_set]; simp [hrl]
  have hoT : ∀ b ∈ own T', b ∈ own T ∨ b ∈ own U := fun b hb => by
    rw [ho2] at hb; rw [ho1]
    simp only [List.mem_append] at hb ⊢
    rcases hb with (hb | hb) | hb
    · exact .inl (.inl (.inl hb))
    · exact .inr hb
    · exact .inl (.inr hb)
  have hsT : ∀ b ∈ shr T', b ∈ shr T ∨ b ∈ shr U' := fun b hb => by
    rw [hs2] at hb; rw [hs1]
    simp only [List.mem_append] at hb ⊢
    rcases hb with (hb | hb) | hb
    · exact .inl (.inl (.inl hb))
    · exact .inr hb
    · exact .inl (.inr hb)
  have hotr : ∀ b ∈ own T, b ∈ ownA (slot L r) := fun b hb => by rw [hr]; exact hb
  have hstr : ∀ b ∈ shr T, b ∈ shrA (slot L r) := fun b hb => by rw [hr]; exact hb
  have hoU : ∀ b ∈ own U, b ∈ ownL (U :: X) := fun b hb => by simp [ownL, hb]
  have hsU : ∀ b ∈ shr U', b ∈ shrL (U :: X) := fun b hb => by rw [hvU.wr.2] at hb; simp [shrL, hb]
  have hnd : (l ++ own (get default false T2 p).2 ++ rr).Nodup := by have := g.dj.nd r; rw [hr] at this; rw [← ho1]; exact this
  obtain ⟨hnd1, hnd2, hnd3⟩ := List.nodup_append.1 hnd
  obtain ⟨hnd4, hnd5, hnd6⟩ := List.nodup_append.1 hnd1
  have hxn := g.dj.xn
  simp only [ownL] at hxn
  obtain ⟨hxn1, hxn2, hxn3⟩ := List.nodup_append.1 hxn
  have hX : ∀ b, b ∈ ownL X → b ∈ ownL (U :: X) := fun b hb => by simp [ownL, hb]
  have hXs : ∀ b, b ∈ shrL X → b ∈ shrL (U :: X) := fun b hb => by simp [shrL, hb]
  have hlr : ∀ b, b ∈ l ∨ b ∈ rr → b ∈ own T := fun b hb => by rw [ho1]; rcases hb with hb | hb <;> simp [hb]
  refine ⟨⟨g.defers, g.size, by rw [List.length_set]; exact g.len, fun i hi => ?_, fun j v hj => ?_, fun i => ?_, g.memX.2, ⟨fun i => ?_, fun i j b hi hj => ?_, fun i b hs ho => ?_, fun i j b hs ho => ?_, hxn2, fun i b hx hi => ?_, fun i b hs hx => ?_, fun b hs hx => g.dj.xx b (hXs b hs) (hX b hx), fun j b hs hj => ?_⟩, fun i b hb => ?_, fun b hb => g.mineX b (hX b hb), g.fr, fun i b hb => ?_, fun b hb => g.seesX b (hXs b hb)⟩, fun q v hf hq d t ht => ?_, fun q hq i hi => ?_⟩
  · have h := g.slots i hi
    rw [e]
    by_cases c : r = i
    · subst c
      rw [if_pos rfl]
      rw [hr] at h
      show _ = _
      rw [evT]; exact h
    · rw [if_neg c]
      cases ev : slot L i with
      | un => trivial
      | val dp x => rw [ev] at h; exact h
      | tu dp x => rw [ev] at h; exact h
      | ref r2 q s ty sn =>
        rw [ev] at h
        intro deps' t' ht'
        rw [e] at ht'
        split at ht'
        · rename_i c2
          subst c2
          cases ht'
          obtain ⟨h1, h2, h3⟩ := h deps T hr
          have hk := hQ i (by rw [ev]; rfl)
          rw [ev] at hk
          simp only [killC] at hk
          split at hk
          · cases hk
          clear hk
          rename_i hk
          simp only [beq_self_eq_true, Bool.true_and, Bool.or_eq_true, Bool.and_eq_true, Bool.not_eq_true'] at hk
          have h1' : Valid T2 q := hv2.lk.valid h1
          have elk := hv2.lk.get false false h1
          cases hsn : sn with
          | false =>
            have hns := h3 hsn
            have hpos : above p q = false ∨ above q p = true := by
              by_cases c3 : above p q = true
              · right
                by_cases c4 : above q p = true
                · exact c4
                · exact absurd (Or.inl ⟨c3, Or.inr (by simpa using c4)⟩) hk
              · exact .inl (by simpa using c3)
            obtain ⟨k1, k2, k3⟩ := put_same_keep p T2 T' hput hval evd eisst q h1' hpos (by rw [elk.isSt]; exact hns)
            exact ⟨k1, by rw [k2, elk.valOf]; exact h2, fun _ => k3⟩
          | true =>
            have hpq : above p q = false := by
              cases c3 : above p q with
              | false => rfl
              | true => exact absurd (Or.inl ⟨c3, Or.inl hsn⟩) hk
            have hqp : above q p = false := by
              cases c3 : above q p with
              | false => rfl
              | true => exact absurd (Or.inr ⟨hsn, c3⟩) hk
            obtain ⟨k1, _, k3⟩ := put_keep _ p T2 T' hput q h1' hpq
            refine ⟨k1, ?_, fun h => by cases h⟩
            rw [k3 hqp, elk.valOf]; exact h2
        · exact h deps' t' ht'
      | adr r2 q =>
        rw [ev] at h
        intro deps' t' ht'
        rw [e] at ht'
        split at ht'
        · rename_i c2
          subst c2
          cases ht'
          obtain ⟨b, o, h1, h2⟩ := h deps T hr
          have hk := hQ i (by rw [ev]; rfl)
          rw [ev] at hk
          simp only [killC] at hk
          split at hk
          · cases hk
          clear hk
          rename_i hk
          simp only [beq_self_eq_true, Bool.true_and, Bool.and_eq_true, Bool.not_eq_true'] at hk
          refine ⟨b, o, put_addrD _ p T2 T' hput (fun v hv => hdP_put (hdP_ptr (mem_get p false T2 hm2 hval) hv) hmU hbx (evd.trans (hdP_val hv))) q none _ (by
            by_cases c3 : above p q = true
            · right
              by_cases c4 : tailD p q = true
              · exact c4
              · exact absurd ⟨c3, by simpa using c4⟩ hk
            · exact .inl (by simpa using c3)) ?_, h2⟩
          rw [hv2.lk.addrS]
          exact h1
        · exact h deps' t' ht'
  · have h := g.hid j v hj
    generalize nt + j = i at h ⊢
    rw [e]
    by_cases c : r = i
    · subst c
      rw [if_pos rfl]
      rw [hr] at h
      show _ = _
      rw [evT]; exact h
    · rw [if_neg c]
      cases ev : slot L i with
      | un => trivial
      | val dp x => rw [ev] at h; exact h
      | tu dp x => rw [ev] at h; exact h
      | ref r2 q s ty sn =>
        rw [ev] at h
        intro deps' t' ht'
        rw [e] at ht'
        split at ht'
        · rename_i c2
          subst c2
          cases ht'
          obtain ⟨h1, h2, h3⟩ := h deps T hr
          have hk := hQ i (by rw [ev]; rfl)
          rw [ev] at hk
          simp only [killC] at hk
          split at hk
          · cases hk
          clear hk
          rename_i hk
          simp only [beq_self_eq_true, Bool.true_and, Bool.or_eq_true, Bool.and_eq_true, Bool.not_eq_true'] at hk
          have h1' : Valid T2 q := hv2.lk.valid h1
          have elk := hv2.lk.get false false h1
          cases hsn : sn with
          | false =>
            have hns := h3 hsn
            have hpos : above p q = false ∨ above q p = true := by
              by_cases c3 : above p q = true
              · right
                by_cases c4 : above q p = true
                · exact c4
                · exact absurd (Or.inl ⟨c3, Or.inr (by simpa using c4)⟩) hk
              · exact .inl (by simpa using c3)
            obtain ⟨k1, k2, k3⟩ := put_same_keep p T2 T' hput hval evd eisst q h1' hpos (by rw [elk.isSt]; exact hns)
            exact ⟨k1, by rw [k2, elk.valOf]; exact h2, fun _ => k3⟩
          | true =>
            have hpq : above p q = false := by
              cases c3 : above p q with
              | false => rfl
              | true => exact absurd (Or.inl ⟨c3, Or.inl hsn⟩) hk
            have hqp : above q p = false := by
              cases c3 : above q p with
              | false => rfl
              | true => exact absurd (Or.inr ⟨hsn, c3⟩) hk
            obtain ⟨k1, _, k3⟩ := put_keep _ p T2 T' hput q h1' hpq
            refine ⟨k1, ?_, fun h => by cases h⟩
            rw [k3 hqp, elk.valOf]; exact h2
        · exact h deps' t' ht'
      | adr r2 q =>
        rw [ev] at h
        intro deps' t' ht'
        rw [e] at ht'
        split at ht'
        · rename_i c2
          subst c2
          cases ht'
          obtain ⟨b, o, h1, h2⟩ := h deps T hr
          have hk := hQ i (by rw [ev]; rfl)
          rw [ev] at hk
          simp only [killC] at hk
          split at hk
          · cases hk
          clear hk
          rename_i hk
          simp only [beq_self_eq_true, Bool.true_and, Bool.and_eq_true, Bool.not_eq_true'] at hk
          refine ⟨b, o, put_addrD _ p T2 T' hput (fun v hv => hdP_put (hdP_ptr (mem_get p false T2 hm2 hval) hv) hmU hbx (evd.trans (hdP_val hv))) q none _ (by
            by_cases c3 : above p q = true
            · right
              by_cases c4 : tailD p q = true
              · exact c4
              · exact absurd ⟨c3, by simpa using c4⟩ hk
            · exact .inl (by simpa using c3)) ?_, h2⟩
          rw [hv2.lk.addrS]
          exact h1
        · exact h deps' t' ht'
  · rw [e]
    split
    · exact hmT
    · exact g.mem i
  · rw [e]
    split
    · show (own T').Nodup
      rw [ho2]
      refine List.nodup_append.2 ⟨List.nodup_append.2 ⟨hnd4, hxn1, fun x hx y hy hxy => ?_⟩, hnd2, fun x hx y hy hxy => ?_⟩
      · subst hxy
        exact g.dj.xo r x (hoU x hy) (hotr x (hlr x (.inl hx)))
      · subst hxy
        rcases List.mem_append.1 hx with hx | hx
        · exact hnd3 x (by simp [hx]) x hy rfl
        · exact g.dj.xo r x (hoU x hx) (hotr x (hlr x (.inr hy)))
    · exact g.dj.nd i
  · rw [e] at hi hj
    split at hi <;> split at hj
    · omega
    · rename_i c1 c2
      rcases hoT b hi with h | h
      · exact c1.symm.trans (g.dj.dj r j b (hotr b h) hj)
      · exact absurd hj (g.dj.xo j b (hoU b h))
    · rename_i c1 c2
      rcases hoT b hj with h | h
      · exact (g.dj.dj i r b hi (hotr b h)).trans c2
      · exact absurd hi (g.dj.xo i b (hoU b h))
    · exact g.dj.dj i j b hi hj
  · rw [e] at hs ho
    split at hs
    · rename_i c
      rw [if_pos c] at ho
      rcases hsT b hs with h | h <;> rcases hoT b ho with h' | h'
      · exact g.dj.ss r b (hstr b h) (hotr b h')
      · exact g.dj.xs r b (hstr b h) (hoU b h')
      · exact hrD (hD r b h (hotr b h'))
      · exact g.dj.xx b (hsU b h) (hoU b h')
    · rename_i c
      rw [if_neg c] at ho
      exact g.dj.ss i b hs ho
  · rw [e] at hs ho ⊢
    split at hs
    · rename_i c
      rw [if_pos c]
      show j ∈ deps ++ D'
      rcases hsT b hs with h | h
      · split at ho
        · rename_i c2
          rcases hoT b ho with h' | h'
          · exact absurd (hotr b h') (g.dj.ss r b (hstr b h))
          · exact absurd (hoU b h') (g.dj.xs r b (hstr b h))
        · have := g.dj.sh r j b (hstr b h) ho
          rw [hr] at this
          exact List.mem_append.2 (.inl this)
      · split at ho
        · rename_i c2
          rcases hoT b ho with h' | h'
          · exact absurd (hD r b h (hotr b h')) hrD
          · exact absurd (hoU b h') (g.dj.xx b (hsU b h))
        · exact List.mem_append.2 (.inr (hD j b h ho))
    · rename_i c
      rw [if_neg c]
      split at ho
      · rename_i c2
        rcases hoT b ho with h' | h'
        · rw [← c2]; exact g.dj.sh i r b hs (hotr b h')
        · exact absurd (hoU b h') (g.dj.xs i b hs)
      · exact g.dj.sh i j b hs ho
  · rw [e] at hi
    split at hi
    · rcases hoT b hi with h | h
      · exact g.dj.xo r b (hX b hx) (hotr b h)
      · exact hxn3 b h b hx rfl
    · exact g.dj.xo i b (hX b hx) hi
  · rw [e] at hs
    split at hs
    · rcases hsT b hs with h | h
      · exact g.dj.xs r b (hstr b h) (hX b hx)
      · exact g.dj.xx b (hsU b h) (hX b hx)
    · exact g.dj.xs i b hs (hX b hx)
  · rw [e] at hj
    split at hj
    · rename_i c
      rcases hoT b hj with h | h
      · rw [← c]; exact g.dj.xd r b (hXs b hs) (hotr b h)
      · exact absurd (hoU b h) (g.dj.xx b (hXs b hs))
    · exact g.dj.xd j b (hXs b hs) hj
  · rw [e] at hb
    split at hb
    · rcases hoT b hb with h | h
      · exact g.mine r b (hotr b h)
      · exact g.mineX b (hoU b h)
    · exact g.mine i b hb
  · rw [e] at hb
    split at hb
    · rcases hsT b hb with h | h
      · exact g.sees r b (hstr b h)
      · exact g.seesX b (hsU b h)
    · exact g.sees i b hb
  · rw [e] at ht
    split at ht
    · rename_i c
      cases ht
      obtain ⟨h6, h7, h8⟩ := hq deps T (by rw [← c]; exact hr)
      rcases farP_spec hf with h9 | ⟨h9, h10⟩
      · exact absurd c h9
      · obtain ⟨k1, _, k3⟩ := put_keep _ p T2 T' hput q.2 (hv2.lk.valid h6) h9
        have elk := hv2.lk.get false false h6
        exact ⟨k1, by rw [k3 h10, elk.valOf]; exact h7, by rw [k3 h10, elk.isSt]; exact h8⟩
    · exact hq d t ht
  · rw [e] at hi ⊢
    split
    · rename_i c; rw [if_pos c] at hi; cases hi
    · rename_i c; rw [if_neg c] at hi; exact hq i hi

theorem put_cross {u' : LT} : ∀ (p : List Stp) (t T' : LT) (q : Nat × Nat), put default t p u' = some T' → Valid t p → addr none t p = some q → cells T' = cells t ∧ isSt T' = isSt t
  | [], t, T', q, h, _, ha => by cases ha
  | .f s i :: p, .st xs, T', q, h, hv, ha => by
    simp only [put, Option.map_eq_some_iff] at h
    obtain ⟨x', h, rfl⟩ := h
    obtain ⟨h1, _⟩ := put_cross p _ x' q h hv.2 ha
    obtain ⟨A, x, B, hxs, hA, hA', hx, hset⟩ := split_at xs i (.dead default) hv.1
    rw [hx] at h1
    rw [hset]
    exact ⟨by simp [cells, hxs, cellsL_append, cellsL, h1], rfl⟩
  | .d s :: p, .pt ro hd x, T', q, h, hv, ha => by
    cases ro <;> simp only [put, Option.map_eq_some_iff] at h
    · obtain ⟨x', h, rfl⟩ := h; exact ⟨rfl, rfl⟩
    · cases h
  | .i s n :: p, .sl ro k hd xs, T', q, h, hv, ha => by
    cases ro <;> simp only [put, Option.map_eq_some_iff] at h
    · obtain ⟨x', h, rfl⟩ := h; exact ⟨rfl, rfl⟩
    · cases h
theorem killW_deps {r : Nat} {p : List Stp} {v : AV Value} {b : Nat} (h : b ∈ shrA (killW r p v)) : r ∉ depsA v := by
  cases v <;> simp only [killW] at h <;> (try split at h) <;> (try (cases h; done)) <;> (rename_i hc; simpa [depsA] using hc)
/-- A tree that has been taken out is written into a part of a slot's. -/
theorem store_core {U T T2 T' : LT} {r : Nat} {p : List Stp} {deps D : List Nat} {b o : Nat} (g : G P w0 F nt H L D [U] a w) (hr : slot L r = .val deps T) (hrD : r ∉ D)
    (hv2 : Vk false T T2) (hm2 : Mem w T2) (hval : Valid T2 p) (hput : put default T2 p U = some T') (hown : (get default false T2 p).1 = false) (hfl : Flt U T2 p) (ha : addr none T2 p = some (b, o)) (hl : (cells U).length = (cells (get default false T2 p).2).length) :
    w.there b o (cells U).length ∧ G P w0 F nt H ((L.map (killW r p)).set r (.val (deps ++ D) T')) [] [] a (w.setCells b o (cells U)) := by
  have hrl : r < L.length := slot_lt (by rw [hr]; simp)
  have hvt : Valid T p := hv2.lk.symm.valid hval
  have hmT0 := g.mem r
  rw [hr] at hmT0
  obtain ⟨⟨l, rr, ho1, ho2⟩, ⟨l', r', hs1, hs2⟩⟩ := own_get p T2 hval hown
  have ho2 := ho2 _ _ hput
  have hs2 := hs2 _ _ hput
  rw [hv2.wr.1] at ho1
  rw [hv2.wr.2] at hs1
  obtain ⟨hth, hbo⟩ := there_get p none T2 hm2 hval hown (fun q h => by cases h) ha
  have hbT : b ∈ own T := by
    rcases hbo with h | ⟨q, h, _⟩
    · rwa [hv2.wr.1] at h
    · cases h
  have hotr : ∀ k ∈ own T, k ∈ ownA (slot L r) := fun k hb => by rw [hr]; exact hb
  have hstr : ∀ k ∈ shr T, k ∈ shrA (slot L r) := fun k hb => by rw [hr]; exact hb
  have hoU : ∀ k ∈ own U, k ∈ ownL [U] := fun k hb => by simp [ownL, hb]
  have hsU : ∀ k ∈ shr U, k ∈ shrL [U] := fun k hb => by simp [shrL, hb]
  have hbU : b ∉ all U := fun h => by
    rcases all_of U h with h | h
    · exact g.dj.xo r b (hoU b h) (hotr b hbT)
    · exact hrD (g.dj.xd r b (hsU b h) (hotr b hbT))
  obtain ⟨hmT, _, _, _⟩ := put_mem (w := w) (b := b) (o := o) g.memX.1 hbU p none T2 T' hput hval hfl hm2 (by rw [hv2.wr.1]; have := g.dj.nd r; rw [hr] at this; exact this) (fun k hk hk' => by
    rw [hv2.wr.1] at hk; rw [hv2.wr.2] at hk'
    exact g.dj.ss r k (hstr k hk') (hotr k hk)) (fun q h => by cases h) ha hl
  obtain ⟨hcT, hiT⟩ := put_cross p T2 T' _ hput hval ha
  have evT : valOf T' = valOf T := by rw [valOf_of hiT hcT, hv2.lk.valOf]
  have e : ∀ i, slot ((L.map (killW r p)).set r (.val (deps ++ D) T')) i = if r = i then .val (deps ++ D) T' else killW r p (slot L i) := fun i => by
    rw [slot_set, slot_map L _ (killW_un r p)]; simp [hrl]
  have hoT : ∀ k ∈ own T', k ∈ own T ∨ k ∈ own U := fun k hb => by
    rw [ho2] at hb; rw [ho1]
    simp only [List.mem_append] at hb ⊢
    rcases hb with (hb | hb) | hb
    · exact .inl (.inl (.inl hb))
    · exact .inr hb
    · exact .inl (.inr hb)
  have hsT : ∀ k ∈ shr T', k ∈ shr T ∨ k ∈ shr U := fun k hb => by
    rw [hs2] at hb; rw [hs1]
    simp only [List.mem_append] at hb ⊢
    rcases hb with (hb | hb) | hb
    · exact .inl (.inl (.inl hb))
    · exact .inr hb
    · exact .inl (.inr hb)
  have hnd : (l ++ own (get default false T2 p).2 ++ rr).Nodup := by have := g.dj.nd r; rw [hr] at this; rw [← ho1]; exact this
  obtain ⟨hnd1, hnd2, hnd3⟩ := List.nodup_append.1 hnd
  obtain ⟨hnd4, hnd5, hnd6⟩ := List.nodup_append.1 hnd1
  have hlr : ∀ k, k ∈ l ∨ k ∈ rr → k ∈ own T := fun k hb => by rw [ho1]; rcases hb with hb | hb <;> simp [hb]
  have kW := kills_W r p
  refine ⟨by rw [hl]; exact hth, g.defers, g.size, by rw [List.length_set, List.length_map]; exact g.len, fun i hi => ?_, fun j v hj => ?_, fun i => ?_, trivial, ⟨fun i => ?_, fun i j k hi hj => ?_, fun i k hs ho => ?_, fun i j k hs ho => ?_, List.nodup_nil, (fun i k hx => by cases hx), (fun i k _ hx => by cases hx), (fun k hx => by cases hx), (fun j k hx => by cases hx)⟩, fun i k hb => ?_, (fun k hb => by cases hb), ⟨by rw [show (w.setCells b o (cells U)).os = w.os from setCells_os _ _ _ _]; exact g.fr.os, by rw [show (w.setCells b o (cells U)).tape = w.tape from setCells_tape _ _ _ _]; exact g.fr.tape, by rw [show (w.setCells b o (cells U)).output = w.output from setCells_output _ _ _ _]; exact g.fr.output, by rw [setCells_size]; exact g.fr.size, fun k hk hF => ?_⟩, fun i k hb => ?_, (fun k hb => by cases hb)⟩
  · have h := g.slots i hi
    rw [e]
    by_cases c : r = i
    · subst c
      rw [if_pos rfl]
      rw [hr] at h
      show _ = _
      rw [evT]; exact h
    · rw [if_neg c]
      cases ev : slot L i with
      | un => trivial
      | val dp x => rw [ev] at h; simp only [killW]; split <;> first | trivial | exact h
      | tu dp x => rw [ev] at h; simp only [killW]; split <;> first | trivial | exact h
      | ref r2 q s ty sn =>
        rw [ev] at h
        simp only [killW]
        split
        · trivial
        · rename_i hk
          intro deps' t' ht'
          rw [e] at ht'
          split at ht'
          · rename_i c2
            subst c2
            cases ht'
            obtain ⟨h1, h2, h3⟩ := h deps T hr
            simp only [beq_self_eq_true, Bool.true_and, Bool.or_eq_true, Bool.and_eq_true] at hk
            have h1' : Valid T2 q := hv2.lk.valid h1
            have elk := hv2.lk.get false false h1
            have hpq : above p q = false := by
              cases c3 : above p q with
              | false => rfl
              | true => exact absurd (Or.inl c3) hk
            obtain ⟨k1, k2, k3⟩ := put_keep _ p T2 T' hput q h1' hpq
            cases hsn : sn with
            | false =>
              have hns := h3 hsn
              obtain ⟨k4, k5⟩ := k2 (by rw [elk.isSt]; exact hns)
              exact ⟨k1, by rw [k4, elk.valOf]; exact h2, fun _ => k5⟩
            | true =>
              have hqp : above q p = false := by
                cases c3 : above q p with
                | false => rfl
                | true => exact absurd (Or.inr ⟨hsn, c3⟩) hk
              exact ⟨k1, by rw [k3 hqp, elk.valOf]; exact h2, fun h => by cases h⟩
          · exact h deps' t' (killW_val ht').1
      | adr r2 q =>
        rw [ev] at h
        simp only [killW]
        split
        · trivial
        · rename_i hk
          intro deps' t' ht'
          rw [e] at ht'
          split at ht'
          · rename_i c2
            subst c2
            cases ht'
            obtain ⟨b', o', h1, h2⟩ := h deps T hr
            simp only [beq_self_eq_true, Bool.true_and, Bool.and_eq_true, Bool.not_eq_true'] at hk
            refine ⟨b', o', ?_, h2⟩
            rw [put_addrS _ p T2 T' hput q none (by
              by_cases c3 : above p q = true
              · right
                by_cases c4 : above q p = true
                · exact tailF_both p q c3 c4
                · exact absurd ⟨c3, by simpa using c4⟩ hk
              · exact .inl (by simpa using c3)), hv2.lk.addrS]
            exact h1
          · exact h deps' t' (killW_val ht').1
  · have h := g.hid j v hj
    generalize nt + j = i at h ⊢
    rw [e]
    by_cases c : r = i
    · subst c
      rw [if_pos rfl]
      rw [hr] at h
      show _ = _
      rw [evT]; exact h
    · rw [if_neg c]
      cases ev : slot L i with
      | un => trivial
      | val dp x => rw [ev] at h; simp only [killW]; split <;> first | trivial | exact h
      | tu dp x => rw [ev] at h; simp only [killW]; split <;> first | trivial | exact h
      | ref r2 q s ty sn =>
        rw [ev] at h
        simp only [killW]
        split
        · trivial
        · rename_i hk
          intro deps' t' ht'
          rw [e] at ht'
          split at ht'
          · rename_i c2
            subst c2
            cases ht'
            obtain ⟨h1, h2, h3⟩ := h deps T hr
            simp only [beq_self_eq_true, Bool.true_and, Bool.or_eq_true, Bool.and_eq_true] at hk
            have h1' : Valid T2 q := hv2.lk.valid h1
            have elk := hv2.lk.get false false h1
            have hpq : above p q = false := by
              cases c3 : above p q with
              | false => rfl
              | true => exact absurd (Or.inl c3) hk
            obtain ⟨k1, k2, k3⟩ := put_keep _ p T2 T' hput q h1' hpq
            cases hsn : sn with
            | false =>
              have hns := h3 hsn
              obtain ⟨k4, k5⟩ := k2 (by rw [elk.isSt]; exact hns)
              exact ⟨k1, by rw [k4, elk.valOf]; exact h2, fun _ => k5⟩
            | true =>
              have hqp : above q p = false := by
                cases c3 : above q p with
                | false => rfl
                | true => exact absurd (Or.inr ⟨hsn, c3⟩) hk
              exact ⟨k1, by rw [k3 hqp, elk.valOf]; exact h2, fun h => by cases h⟩
          · exact h deps' t' (killW_val ht').1
      | adr r2 q =>
        rw [ev] at h
        simp only [killW]
        split
        · trivial
        · rename_i hk
          intro deps' t' ht'
          rw [e] at ht'
          split at ht'
          · rename_i c2
            subst c2
            cases ht'
            obtain ⟨b', o', h1, h2⟩ := h deps T hr
            simp only [beq_self_eq_true, Bool.true_and, Bool.and_eq_true, Bool.not_eq_true'] at hk
            refine ⟨b', o', ?_, h2⟩
            rw [put_addrS _ p T2 T' hput q none (by
              by_cases c3 : above p q = true
              · right
                by_cases c4 : above q p = true
                · exact tailF_both p q c3 c4
                · exact absurd ⟨c3, by simpa using c4⟩ hk
              · exact .inl (by simpa using c3)), hv2.lk.addrS]
            exact h1
          · exact h deps' t' (killW_val ht').1
  · rw [e]
    split
    · exact hmT
    · rename_i c
      have hm := kW.mem (g.mem i)
      have hno : ∀ k, k ∈ ownA (killW r p (slot L i)) ∨ k ∈ shrA (killW r p (slot L i)) → k ≠ b := by
        rintro k hk rfl
        rcases hk with hk | hk
        · exact c (g.dj.dj r i k (hotr k hbT) (kW.own hk).2)
        · exact killW_deps hk (g.dj.sh i r k (kW.shr hk).2 (hotr k hbT))
      cases ev : killW r p (slot L i) with
      | val d t =>
        rw [ev] at hm hno
        exact Mem.congr t (fun k hk => setCells_heap _ _ _ _ _ (hno k (all_of t hk))) hm
      | tu d ts =>
        rw [ev] at hm hno
        exact MemL.congr ts (fun k hk => setCells_heap _ _ _ _ _ (hno k (all_ofL ts hk))) hm
      | un => trivial
      | ref => trivial
      | adr => trivial
  · rw [e]
    split
    · show (own T').Nodup
      rw [ho2]
      have hun : (own U).Nodup := by have := g.dj.xn; simpa [ownL] using this
      refine List.nodup_append.2 ⟨List.nodup_append.2 ⟨hnd4, hun, fun x hx y hy hxy => ?_⟩, hnd2, fun x hx y hy hxy => ?_⟩
      · subst hxy
        exact g.dj.xo r x (hoU x hy) (hotr x (hlr x (.inl hx)))
      · subst hxy
        rcases List.mem_append.1 hx with hx | hx
        · exact hnd3 x (by simp [hx]) x hy rfl
        · exact g.dj.xo r x (hoU x hx) (hotr x (hlr x (.inr hy)))
    · have := (g.dj.kill kW).nd i
      rwa [slot_map L _ (killW_un r p)] at this
  · rw [e] at hi hj
    split at hi <;> split at hj
    · omega
    · rename_i c1 c2
      rcases hoT k hi with h | h
      · exact c1.symm.trans (g.dj.dj r j k (hotr k h) (kW.own hj).2)
      · exact absurd (kW.own hj).2 (g.dj.xo j k (hoU k h))
    · rename_i c1 c2
      rcases hoT k hj with h | h
      · exact (g.dj.dj i r k (kW.own hi).2 (hotr k h)).trans c2
      · exact absurd (kW.own hi).2 (g.dj.xo i k (hoU k h))
    · exact g.dj.dj i j k (kW.own hi).2 (kW.own hj).2
  · rw [e] at hs ho
    split at hs
    · rename_i c
      rw [if_pos c] at ho
      rcases hsT k hs with h | h <;> rcases hoT k ho with h' | h'
      · exact g.dj.ss r k (hstr k h) (hotr k h')
      · exact g.dj.xs r k (hstr k h) (hoU k h')
      · exact hrD (g.dj.xd r k (hsU k h) (hotr k h'))
      · exact g.dj.xx k (hsU k h) (hoU k h')
    · rename_i c
      rw [if_neg c] at ho
      exact g.dj.ss i k (kW.shr hs).2 (kW.own ho).2
  · rw [e] at hs ho ⊢
    split at hs
    · rename_i c
      rw [if_pos c]
      show j ∈ deps ++ D
      rcases hsT k hs with h | h
      · split at ho
        · rcases hoT k ho with h' | h'
          · exact absurd (hotr k h') (g.dj.ss r k (hstr k h))
          · exact absurd (hoU k h') (g.dj.xs r k (hstr k h))
        · have := g.dj.sh r j k (hstr k h) (kW.own ho).2
          rw [hr] at this
          exact List.mem_append.2 (.inl this)
      · split at ho
        · rcases hoT k ho with h' | h'
          · exact absurd (g.dj.xd r k (hsU k h) (hotr k h')) hrD
          · exact absurd (hoU k h') (g.dj.xx k (hsU k h))
        · exact List.mem_append.2 (.inr (g.dj.xd j k (hsU k h) (kW.own ho).2))
    · rename_i c
      rw [if_neg c, (kW.shr hs).1]
      split at ho
      · rcases hoT k ho with h' | h'
        · exact absurd (g.dj.sh i r k (kW.shr hs).2 (hotr k h')) (killW_deps hs)
        · exact absurd (hoU k h') (g.dj.xs i k (kW.shr hs).2)
      · exact g.dj.sh i j k (kW.shr hs).2 (kW.own ho).2
  · rw [e] at hb
    split at hb
    · rcases hoT k hb with h | h
      · exact g.mine r k (hotr k h)
      · exact g.mineX k (hoU k h)
    · exact g.mine i k (kW.own hb).2
  · rw [setCells_heap _ _ _ _ _ (fun h => by
      subst h
      exact (g.mine r k (hotr k hbT)).elim hF (fun h => by omega))]
    exact g.fr.block k hk hF
  · rw [e] at hb
    split at hb
    · rcases hsT k hb with h | h
      · exact g.sees r k (hstr k h)
      · exact g.seesX k (hsU k h)
    · exact g.sees i k (kW.shr hb).2
where
  setCells_os (b : Nat) : ∀ (vs : List Value) (o : Nat) (w : World), (w.setCells b o vs).os = w.os
    | [], _, _ => rfl
    | v :: r, o, w => by rw [World.setCells, setCells_os b r]; rfl
  setCells_tape (b : Nat) : ∀ (vs : List Value) (o : Nat) (w : World), (w.setCells b o vs).tape = w.tape
    | [], _, _ => rfl
    | v :: r, o, w => by rw [World.setCells, setCells_tape b r]; rfl
  setCells_output (b : Nat) : ∀ (vs : List Value) (o : Nat) (w : World), (w.setCells b o vs).output = w.output
    | [], _, _ => rfl
    | v :: r, o, w => by rw [World.setCells, setCells_output b r]; rfl
end Go.Tree

/- Trees of values: what the evaluator says of an operation is so. First part: operands, copies. -/
namespace Go.Tree
set_option linter.unusedSectionVars false
set_option linter.unusedVariables false
set_option linter.unusedSimpArgs false
variable {P : Program} {w0 : World} {F : Fm} {nt : Nat} {H : List Value} {L : List (AV Value)} {XD : List Nat} {X : List LT} {a : Act} {w : World} {α : Type} {res : α}
variable [Pol]
/-- What follows: some slots, told without addresses, from which the rest yields its answer. -/
def Nxt (P : Program) (w0 : World) (F : Fm) (nt : Nat) (H : List Value) (K : Env → Option α) (res : α) (a : Act) (w : World) : Prop := ∃ L, G P w0 F nt H L [] [] a w ∧ K (L.map erA) = some res
theorem wp_value {o : Oper} {next : Act → World → Prop} {Q : Exit → Act → World → Prop} {v : Value} {w' : World} (h : (execOp a.eval o).run P w = .ok (.value v) w') (hn : next (a.put o.dst v) w') : o.wp P a w next Q := by
  unfold Oper.wp
  rw [h]
  exact hn
theorem wp_skip' {o : Oper} {next : Act → World → Prop} {Q : Exit → Act → World → Prop} {w' : World} (h : (execOp a.eval o).run P w = .ok .skip w') (hn : next (a.put o.dst undef) w') : o.wp P a w next Q := by
  unfold Oper.wp
  rw [h]
  exact hn

mutual
theorem ofCells_ok : ∀ (n : Nat) (ty : TypeId) (cs : List Value) (t : TV) (rest : List Value), ofCells P n ty cs = some (t, rest) → ∃ T, er T = t ∧ cs = cells T ++ rest ∧ Mem w T ∧ all T = []
  | 0, _, _, _, _, h => by simp [ofCells] at h
  | n + 1, ty, cs, t, rest, h => by
    simp only [ofCells] at h
    split at h
    · split at h
      · cases h; exact ⟨.fl _, rfl, rfl, rfl, rfl⟩
      · cases h
    · split at h
      · cases h; exact ⟨.fl _, rfl, rfl, rfl, rfl⟩
      · cases h
    · split at h
      · cases h; exact ⟨.fl _, rfl, rfl, rfl, rfl⟩
      · cases h
    · split at h
      · cases h
        exact ⟨.sl false _ (.slice none 0 0) [], by rw [er_sl]; rfl, rfl, ⟨⟨none, 0, rfl, Nat.le_refl _, by simp [cellsL], fun h => absurd rfl h⟩, by simp, trivial⟩, rfl⟩
      · cases h
    · split at h
      · cases h; exact ⟨.fl _, rfl, rfl, rfl, rfl⟩
      · cases h
    · obtain ⟨⟨ts, r⟩, h', e⟩ := Option.map_eq_some_iff.1 h
      cases e
      obtain ⟨Ts, h1, h2, h3, h4⟩ := ofCellsL_ok n _ cs ts r h'
      exact ⟨.st Ts, by rw [er_st, h1], h2, h3, h4⟩
    · cases h
theorem ofCellsL_ok : ∀ (n : Nat) (tys : List TypeId) (cs : List Value) (ts : List TV) (rest : List Value), ofCellsL P n tys cs = some (ts, rest) → ∃ Ts, Ts.map er = ts ∧ cs = cellsL Ts ++ rest ∧ MemL w Ts ∧ allL Ts = []
  | n, [], cs, ts, rest, h => by
    have e : ofCellsL P n [] cs = some ([], cs) := by cases n <;> rfl
    rw [e] at h
    cases h
    exact ⟨[], rfl, rfl, trivial, rfl⟩
  | 0, _ :: _, _, _, _, h => by simp [ofCellsL] at h
  | n + 1, ty :: tys, cs, ts, rest, h => by
    simp only [ofCellsL, Option.bind_eq_some_iff, Option.map_eq_some_iff] at h
    obtain ⟨⟨t, r⟩, h1, ⟨ts', r'⟩, h2, e⟩ := h
    cases e
    obtain ⟨T, e1, e2, e3, e4⟩ := ofCells_ok n ty cs t r h1
    obtain ⟨Ts, f1, f2, f3, f4⟩ := ofCellsL_ok n tys r ts' r' h2
    exact ⟨T :: Ts, by rw [List.map_cons, e1, f1], by rw [e2, f2, cellsL, List.append_assoc], ⟨e3, f3⟩, by rw [allL, e4, f4]; rfl⟩
end
theorem isSt_er (T : LT) : isStT (er T) = isSt T := by
  cases T with
  | st => rw [er_st]; rfl
  | sl => rw [er_sl]; rfl
  | cl => rw [er_cl]; rfl
  | _ => rfl
theorem cells_toList {T : LT} (h : Mem w T) : (valOf T).cells.toList = cells T := by
  cases T with
  | st => simp [valOf, Value.cells, cells]
  | fl v =>
    simp only [Mem] at h
    cases v <;> first | rfl | (simp [Value.oneCell'] at h)
  | sl ro k hd xs => obtain ⟨⟨A, c, rfl, _⟩, _⟩ := h; rfl
  | pt ro hd x => obtain ⟨⟨b, o, rfl, _⟩, _⟩ := h; rfl
  | cl => rfl
  | dead v =>
    simp only [Mem] at h
    cases v <;> first | rfl | (simp [Value.oneCell'] at h)
theorem isAgg_valOf {T : LT} (h : Mem w T) : isAgg (valOf T) = isSt T := by
  cases T with
  | st => rfl
  | fl v =>
    simp only [Mem] at h
    cases v <;> first | rfl | (simp [Value.oneCell'] at h)
  | sl ro k hd xs => obtain ⟨⟨A, c, rfl, _⟩, _⟩ := h; rfl
  | pt ro hd x => obtain ⟨⟨b, o, rfl, _⟩, _⟩ := h; rfl
  | cl => rfl
  | dead v =>
    simp only [Mem] at h
    cases v <;> first | rfl | (simp [Value.oneCell'] at h)
theorem value_of_cells {v u : Value} (h : v.cells.toList = u.cells.toList) (ha : isAgg v = isAgg u) : v = u := by
  have h := Array.toList_inj.1 h
  cases hu : isAgg u with
  | true =>
    rw [hu] at ha
    cases v <;> first | (simp [isAgg] at ha; done) | skip
    cases u <;> first | (simp [isAgg] at hu; done) | skip
    simp only [Value.cells] at h
    rw [h]
  | false =>
    rw [hu] at ha
    have e : ∀ x : Value, isAgg x = false → x.cells = #[x] := fun x hx => by cases x <;> first | rfl | (simp [isAgg] at hx)
    rw [e v ha, e u hu] at h
    simpa using h
theorem constT_ok {ty : TypeId} {v : Value} {t : TV} (h : constT P ty v = some t) : ∃ T, er T = t ∧ valOf T = v ∧ Mem w T ∧ all T = [] := by
  unfold constT at h
  split at h
  · rename_i t' he
    cases hb : (isAgg v == isStT t') with
    | false => rw [hb] at h; cases h
    | true =>
      rw [hb] at h
      cases h
      obtain ⟨T, h1, h2, h3, h4⟩ := ofCells_ok (w := w) _ _ _ _ _ he
      refine ⟨T, h1, ?_, h3, h4⟩
      refine (value_of_cells ?_ ?_).symm
      · rw [h2, cells_toList h3, List.append_nil]
      · rw [isAgg_valOf h3, ← isSt_er, h1]; simpa using hb
  · cases h
theorem noall {T : LT} (h : all T = []) : own T = [] ∧ shr T = [] := by
  constructor
  · refine List.eq_nil_iff_forall_not_mem.2 fun b hb => ?_
    have := own_all T hb
    rw [h] at this
    cases this
  · refine List.eq_nil_iff_forall_not_mem.2 fun b hb => ?_
    have := shr_all T hb
    rw [h] at this
    cases this

theorem flatO_ok (g : G P w0 F nt H L XD X a w) {x : Operand} (hx : fitO nt x = true) {v : Value} (h : flatO (L.map erA) x = some v) : a.eval x = v := by
  cases x with
  | tmp s =>
    simp only [flatO, slot_er] at h
    split at h
    · rename_i d u hs
      cases h
      obtain ⟨T, e, e2⟩ := erA_val hs
      have := er_fl_inv e2.symm
      subst this
      have hso := g.slots s (by simpa [fitO] using hx)
      rw [e] at hso
      exact hso
    · cases h
  | const u => simp only [flatO, Option.some.injEq] at h; exact h
  | global => simp [flatO] at h
  | func => simp [flatO] at h
theorem lookO_ok (g : G P w0 F nt H L XD X a w) {ty : TypeId} {x : Operand} (hx : fitO nt x = true) {K : List Nat → TV → Option α} (h : lookO P (L.map erA) ty x K = some res) :
    ∃ D T, K D (er T) = some res ∧ Mem w T ∧ a.eval x = valOf T ∧ (∀ j b, b ∈ all T → b ∈ ownA (slot L j) → j ∈ reads.srcs (L.map erA) x ++ D) ∧ (∀ b ∈ all T, b ∉ ownL X) ∧ (∀ j b, b ∈ shr T → b ∈ ownA (slot L j) → j ∈ D) ∧ (∀ b ∈ all T, Bs F w0 b) := by
  cases x with
  | tmp s =>
    obtain ⟨D, T, h1, h2, h3, h4, h5, h6, h7, h8⟩ := look_ok g (by simpa [fitO] using hx) h
    refine ⟨D, T, h1, h2, h3, fun j b hb hj => ?_, h5, h6, h8⟩
    rcases all_of T hb with hb' | hb'
    · refine List.mem_append.2 (.inl ?_)
      have hj' := g.dj.dj j (rootS L s) b hj (h7 b hb')
      subst hj'
      simp only [reads.srcs, slot_er]
      have := h7 b hb'
      unfold rootS at this ⊢
      cases e : slot L s with
      | un => rw [e] at this; simp only [e] at this; cases this
      | val d t =>
        rw [e] at this
        simp only [e] at this
        simp only [erA, hasOwn_er]
        cases ho : hasOwn t with
        | true => simp
        | false =>
          have := own_nil t ho
          rename_i this'
          simp only [ownA, this] at this'
          cases this'
      | ref r p s' ty' sn => simp [erA]
      | adr r p => rw [e] at this; simp only [e] at this; cases this
      | tu d ts =>
        unfold lookO look at h
        simp only [slot_er, e, erA] at h
        cases h
    · exact List.mem_append.2 (.inr (h6 j b hb' hj))
  | const v =>
    simp only [lookO] at h
    split at h
    · rename_i t ht
      obtain ⟨T, h1, h2, h3, h4⟩ := constT_ok (w := w) ht
      refine ⟨[], T, by rw [h1]; exact h, h3, h2.symm, fun j b hb => (by rw [h4] at hb; cases hb), fun b hb => (by rw [h4] at hb; cases hb), fun j b hb => ?_, fun b hb => (by rw [h4] at hb; cases hb)⟩
      rw [(noall h4).2] at hb; cases hb
    · cases h
  | func f =>
    exact ⟨[], .cl f [], h, trivial, rfl, (fun j b hb => by cases hb), (fun b hb => by cases hb), (fun j b hb => by cases hb), (fun b hb => by cases hb)⟩
  | global => cases h
theorem takeO_ok (g : G P w0 F nt H L XD X a w) {ty : TypeId} {x : Operand} (hx : fitO nt x = true) (hX : ∀ s, x = .tmp s → rootS L s ∉ XD) {K : List Nat → TV → Env → Option α} (h : takeO P (L.map erA) ty x K = some res) :
    ∃ D T L', K D (er T) (L'.map erA) = some res ∧ G P w0 F nt H L' (XD ++ D) (X ++ [T]) a w ∧ a.eval x = valOf T := by
  cases x with
  | tmp s => exact take_ok g (by simpa [fitO] using hx) (hX s rfl) h
  | const v =>
    simp only [takeO] at h
    split at h
    · rename_i t ht
      obtain ⟨T, h1, h2, h3, h4⟩ := constT_ok (w := w) ht
      refine ⟨[], T, L, by rw [h1]; exact h, g.addRo h3 (noall h4).1 (fun j b hb => ?_) (fun b hb => ?_) (fun b hb => ?_), h2.symm⟩
      · rw [(noall h4).2] at hb; cases hb
      · rw [(noall h4).2] at hb; cases hb
      · rw [(noall h4).2] at hb; cases hb
    · cases h
  | func f => exact ⟨[], .cl f [], L, h, g.addRo (T := .cl f []) trivial rfl (fun j b hb => by cases hb) (fun b hb => by cases hb) (fun b hb => by cases hb), rfl⟩
  | global => cases h
/-- What has been taken out is let go. -/
theorem G.dropX (g : G P w0 F nt H L XD X a w) : G P w0 F nt H L [] [] a w :=
  ⟨g.defers, g.size, g.len, g.slots, g.hid, g.mem, trivial, ⟨g.dj.nd, g.dj.dj, g.dj.ss, g.dj.sh, List.nodup_nil, (fun i b hx => by cases hx), (fun i b _ hx => by cases hx), (fun b hx => by cases hx), (fun j b hx => by cases hx)⟩, g.mine, (fun b hb => by cases hb), g.fr, g.sees, (fun b hb => by cases hb)⟩
theorem G.undep (g : G P w0 F nt H L XD X a w) {XD' : List Nat} (h : ∀ j b, b ∈ shrL X → b ∈ ownA (slot L j) → j ∈ XD') : G P w0 F nt H L XD' X a w :=
  ⟨g.defers, g.size, g.len, g.slots, g.hid, g.mem, g.memX, ⟨g.dj.nd, g.dj.dj, g.dj.ss, g.dj.sh, g.dj.xn, g.dj.xo, g.dj.xs, g.dj.xx, h⟩, g.mine, g.mineX, g.fr, g.sees, g.seesX⟩
/-- One tree comes to stand in the place that an operation writes. -/
theorem landT {T : LT} {d : Option Tmp} {D : List Nat} (g : G P w0 F nt H L D [T] a w) (hd : fitD nt d = true) {v : Value} (hv : v = valOf T) {K : Env → Option α} (h : K (putD (L.map erA) d (.val D (er T))) = some res) : Nxt P w0 F nt H K res (a.put d v) w := by
  cases d with
  | none => exact ⟨L, g.dropX, h⟩
  | some d =>
    refine ⟨putS L d (.val D T), g.land (by simpa [fitD] using hd) (by simp [ownA, ownL]) (by simp [shrA, shrL]) rfl g.memX.1 (fun _ => hv), ?_⟩
    rw [← putS_er]; exact h
/-- A slot that leads elsewhere. -/
theorem landRef {d : Option Tmp} (g : G P w0 F nt H L [] [] a w) (hd : fitD nt d = true) {v : Value} {av : AV Value} (hn : ownA av = [] ∧ shrA av = [] ∧ depsA av = [] ∧ (∀ w, MemA w av) ∧ ∀ deps t, av ≠ .val deps t)
    (hv : ∀ L' d', d = some d' → (∀ r deps t, slot L' r = .val deps t → r ≠ d' → slot L r = .val deps t) → (∀ deps t, slot L' d' ≠ .val deps t) → SlotOk P L' v av) {K : Env → Option α} (h : K (putD (L.map erA) d (erA av)) = some res) : Nxt P w0 F nt H K res (a.put d v) w := by
  cases d with
  | none => exact ⟨L, g, h⟩
  | some d =>
    refine ⟨putS L d av, g.landR (by simpa [fitD] using hd) hn.1 hn.2.1 hn.2.2.1 (hn.2.2.2.1 w) (fun L' h1 h2 => ?_) (.inl hn.2.2.2.2), ?_⟩
    · rcases h2 with h2 | h2
      · exact hv L' d rfl h1 h2
      · exact h2 L'
    · rw [← putS_er]; exact h
/-- A slot is copied. -/
theorem copyS_ok (g : G P w0 F nt H L [] [] a w) {fn : Func} {ty : TypeId} {d s : Nat} (hd : d < nt) (hs : s < nt) {K : Env → Option α} (h : copyS P fn ty (L.map erA) d s K = some res) : Nxt P w0 F nt H K res (a.put (some d) (a.tmps.getD s undef)) w := by
  have hd' : fitD nt (some d) = true := by simpa [fitD] using hd
  have hso := g.slots s hs
  unfold copyS at h
  rw [slot_er] at h
  split at h
  · rename_i deps t ht
    obtain ⟨T, e, rfl⟩ := erA_val ht
    have hm := g.mem s
    rw [e] at hso hm
    split at h
    · rename_i ho
      rw [hasOwn_er] at ho
      split at h
      · have g1 := take_core (p := []) (u' := T) (T' := deaden T) g e (by simp) (Vk.refl T) hm trivial (Vk.refl T) hm rfl (by simp [Flt]) rfl
        have g2 : G P w0 F nt H (putS L s .un) ([] ++ deps) ([] ++ [T]) a w := g1.drop (by simp [putS]) (fun i => by
          have hsl : s < L.length := Nat.lt_of_lt_of_le hs g.len
          rw [putS, slot_set, slot_set, slot_map L _ (killS_un s), slot_map L _ (killC_un s [])]
          by_cases c : s = i
          · simp [c, hsl]; right; omega
          · simp only [c, false_and, if_false]
            exact killS_killC s _)
        refine landT (d := some d) (T := T) (D := deps) g2 hd' hso ?_
        have e1 : (putS L s .un).map erA = putS (L.map erA) s .un := (putS_er L s .un).symm
        rw [e1]; exact h
      · refine landRef (d := some d) g hd' (av := .ref s [] none ty (isSt T)) ⟨rfl, rfl, rfl, fun _ => trivial, fun _ _ => by simp⟩ (fun L' d' hdd hk hnv deps' t' ht' => ?_) (by rw [isSt_er] at h; exact h)
        by_cases c : s = d'
        · subst c; exact absurd ht' (hnv _ _)
        · have := hk s deps' t' ht' c
          rw [e] at this
          cases this
          exact ⟨trivial, hso, fun h => h⟩
    · rename_i ho
      rw [hasOwn_er] at ho
      have ho := own_nil T (by simpa using ho)
      have g1 := g.addRo (T := T) (D := deps) hm ho (fun j b hb hj => by
        have := g.dj.sh s j b (by rw [e]; exact hb) hj
        rwa [e] at this) (fun b _ => by simp [ownL]) (fun b hb => g.sees s b (by rw [e]; exact hb))
      exact landT (d := some d) (T := T) (D := deps) g1 hd' hso h
  · rename_i r p sub ty' sn ht
    have e := erA_ref ht
    split at h
    · obtain ⟨D, T, L', h, g', hv⟩ := take_ok g hs (by simp) h
      exact landT (d := some d) (T := T) (D := D) g' hd' hv h
    · rename_i hrd
      rw [e] at hso
      refine landRef (d := some d) g hd' (av := .ref r p sub ty' sn) ⟨rfl, rfl, rfl, fun _ => trivial, fun _ _ => by simp⟩ (fun L' d' hdd hk hnv deps' t' ht' => ?_) h
      by_cases c : r = d'
      · subst c; exact absurd ht' (hnv _ _)
      · exact hso deps' t' (hk r deps' t' ht' c)
  · rename_i r p ht
    have e := erA_adr ht
    split at h
    · cases h
    · rw [e] at hso
      refine landRef (d := some d) g hd' (av := .adr r p) ⟨rfl, rfl, rfl, fun _ => trivial, fun _ _ => by simp⟩ (fun L' d' hdd hk hnv deps' t' ht' => ?_) h
      by_cases c : r = d'
      · subst c; exact absurd ht' (hnv _ _)
      · exact hso deps' t' (hk r deps' t' ht' c)
  · rename_i deps ts ht
    obtain ⟨Ts, e, rfl⟩ := erA_tu ht
    have g1 := g.takeTu e
    rw [e] at hso
    refine ⟨putS (putS L s .un) d (.tu deps Ts), g1.land hd rfl rfl rfl g1.memX (fun _ => hso), ?_⟩
    rw [← putS_er, ← putS_er]
    exact h
  · cases h
end Go.Tree

/- Trees of values: what the evaluator says of an operation is so. Second part: places, loads, stores. -/
namespace Go.Tree
set_option linter.unusedSectionVars false
set_option linter.unusedVariables false
set_option linter.unusedSimpArgs false
variable {P : Program} {w0 : World} {F : Fm} {nt : Nat} {H : List Value} {L : List (AV Value)} {XD : List Nat} {X : List LT} {a : Act} {w : World} {α : Type} {res : α}
variable [Pol]
theorem addrS_f : ∀ (p : List Stp) (base : Option (Nat × Nat)) (T : LT) (s : TypeId) (i : Nat), addrS P base T (p ++ [.f s i]) = (addrS P base T p).map fun q => (q.1, q.2 + (offs P s i).getD 0)
  | [], base, T, s, i => by cases T <;> rfl
  | .f s' j :: p, base, .st xs, s, i => by simp only [List.cons_append, addrS]; exact addrS_f p _ _ s i
  | .d s' :: p, base, .pt _ hd x, s, i => by simp only [List.cons_append, addrS]; exact addrS_f p _ _ s i
  | .i s' n :: p, base, .sl _ k hd xs, s, i => by
    simp only [List.cons_append, addrS]
    split
    · exact addrS_f p _ _ s i
    · rfl
  | .f s' j :: p, base, .fl _, s, i | .f s' j :: p, base, .sl .., s, i | .f s' j :: p, base, .pt .., s, i | .f s' j :: p, base, .cl .., s, i | .f s' j :: p, base, .dead _, s, i => by simp only [List.cons_append, addrS]; exact addrS_f p _ _ s i
  | .d _ :: _, _, .fl _, _, _ | .d _ :: _, _, .sl .., _, _ | .d _ :: _, _, .st .., _, _ | .d _ :: _, _, .cl .., _, _ => rfl
  | .d s' :: p, base, .dead v, s, i => by
    cases v with
    | pointer a => simp only [List.cons_append, addrS]; exact addrS_f p _ _ s i
    | _ => rfl
  | .i _ _ :: _, _, .fl _, _, _ | .i _ _ :: _, _, .pt .., _, _ | .i _ _ :: _, _, .st .., _, _ | .i _ _ :: _, _, .cl .., _, _ | .i _ _ :: _, _, .dead _, _, _ => rfl
theorem addrS_app : ∀ (p : List Stp) (base : Option (Nat × Nat)) (ro : Bool) (T : LT) (q : List Stp), Valid T p → addrS P base T (p ++ q) = addrS P (addrS P base T p) (get default ro T p).2 q
  | [], base, ro, T, q, _ => rfl
  | .f s j :: p, base, ro, .st xs, q, hv => by simp only [List.cons_append, addrS, get]; exact addrS_app p _ _ _ q hv.2
  | .d s :: p, base, ro, .pt _ hd x, q, hv => by simp only [List.cons_append, addrS, get]; exact addrS_app p _ _ _ q hv
  | .i s n :: p, base, ro, .sl _ k hd xs, q, hv => by
    simp only [List.cons_append, addrS, get, if_pos hv.1]
    exact addrS_app p _ _ _ q hv.2
theorem eval_tmp (s : Nat) : a.eval (.tmp s) = a.tmps.getD s undef := rfl
theorem PtOk.plc {w : World} {ro : Bool} {h : Value} {cs : List Value} (hk : PtOk w ro h cs) : ∃ b o, h = .pointer (some ⟨b, o, none⟩) ∧ Tree.plc h = some (b, o) := by
  obtain ⟨b, o, rfl, _⟩ := hk
  exact ⟨b, o, rfl, rfl⟩
/-- The place that a pointer leads to. -/
theorem place_ok (g : G P w0 F nt H L XD X a w) {e : TypeId} {x : Operand} (hx : fitO nt x = true) {K : Nat → List Stp → Option α} (h : place P (L.map erA) e x K = some res) :
    ∃ r p deps T b o, K r p = some res ∧ slot L r = .val deps T ∧ addrS P none T p = some (b, o) ∧ a.eval x = .pointer (some ⟨b, o, none⟩) := by
  cases x with
  | tmp s =>
    have hs : s < nt := by simpa [fitO] using hx
    have hso := g.slots s hs
    simp only [place, slot_er] at h
    split at h
    · rename_i d ro hd y hv
      obtain ⟨T, e1, e2⟩ := erA_val hv
      obtain ⟨hd', z, rfl, rfl⟩ := er_pt_inv e2.symm
      have hm := g.mem s
      rw [e1] at hso hm
      obtain ⟨b, o, rfl, hp⟩ := hm.1.plc
      exact ⟨s, [.d e], d, _, b, o, h, e1, hp, hso⟩
    · rename_i r p hv
      have e1 := erA_adr hv
      rw [e1] at hso
      split at h
      · rename_i d t ht
        obtain ⟨T, e2, rfl⟩ := erA_val ht
        obtain ⟨b, o, h1, h2⟩ := hso d T e2
        exact ⟨r, p, d, T, b, o, h, e2, h1, h2⟩
      · cases h
    · rename_i r p ty sn hv
      have e1 := erA_ref hv
      unfold look at h
      rw [slot_er, hv] at h
      simp only [slot_er] at h
      split at h
      · rename_i d t ht
        obtain ⟨T, e2, rfl⟩ := erA_val ht
        rw [e1] at hso
        obtain ⟨h1, h2, h3⟩ := hso d T e2
        have hm := g.mem r
        rw [e2] at hm
        obtain ⟨_, _, opq, u, h, hlk, hmu, hvk⟩ := getK_ok p false false T _ hm h1.bd h
        obtain ⟨u', h, hv', hmu'⟩ := lay_ok hmu h
        simp only [subK] at h
        split at h
        · rename_i ro hd y hu
          obtain ⟨hd', z, rfl, rfl⟩ := er_pt_inv hu
          obtain ⟨b, o, rfl, hp⟩ := hmu'.1.plc
          have hnode : Lk (get default false T p).2 (.pt ro (.pointer (some ⟨b, o, none⟩)) z) := hlk.trans hv'.lk
          refine ⟨r, p ++ [.d e], d, T, b, o, h, e2, ?_, ?_⟩
          · rw [addrS_app p none false T _ h1, ← hnode.addrS]
            exact hp
          · rw [show a.eval (.tmp s) = _ from h2, ← hnode.valOf]; rfl
        · cases h
      · cases h
    · cases h
  | const => cases h
  | global => cases h
  | func => cases h
theorem fitsTy_spec {ty : TypeId} {T : LT} (h : fitsTy P ty (er T) = true) : okTy P ty = true ∧ isSt T = isAggT P ty ∧ (cells T).length = P.cellsOf ty ∧ P.cellsOf ty ≠ 0 := by
  unfold fitsTy at h
  simp only [Bool.and_eq_true, beq_iff_eq, isSt_er, csz_er, bne_iff_ne] at h
  exact ⟨h.1.1.1, h.1.1.2, h.1.2, by rw [← h.1.2]; exact h.2⟩
theorem info_size {ty : TypeId} {n : Nat} (h : P.cellsOf ty = n) (hn : n ≠ 0) : ∃ i, P.info? ty = some i ∧ i.size = n := by
  unfold Program.cellsOf at h
  cases e : P.info? ty with
  | none => rw [e] at h; simp at h; omega
  | some i => rw [e] at h; exact ⟨i, rfl, by simpa using h⟩
/-- A value that lies there is loaded. -/
theorem run_loadT {ty : TypeId} {b o : Nat} {T : LT} (hr : w.rangeAt b o (cells T)) (hf : okTy P ty = true ∧ isSt T = isAggT P ty ∧ (cells T).length = P.cellsOf ty ∧ P.cellsOf ty ≠ 0) : (Instr.loadAt ty (.pointer (some ⟨b, o, none⟩))).run P w = .ok (valOf T) w := by
  obtain ⟨h1, h2, h3, h0⟩ := hf
  cases hu : P.underlying ty with
  | none => unfold okTy at h1; rw [hu] at h1; cases h1
  | some d =>
  cases hst : isSt T with
  | false =>
    rw [hst] at h2
    have hc : w.cell? ⟨b, o, none⟩ = some (valOf T) := by
      have := hr 0 (valOf T) (by rw [cells_one hst]; rfl)
      simpa using this
    have hagg : (Go.isAgg ty).run P w = .ok false w := by
      unfold Go.isAgg
      rw [Sem.run_bind, run_underlying hu w]
      unfold okTy at h1
      unfold isAggT at h2
      rw [hu] at h1 h2
      cases d <;> first | rfl | (cases h1; done) | (cases h2; done)
    have hl : (load ⟨b, o, none⟩ : Sem Value).run P w = .ok (valOf T) w := by
      simp [hc]
    simp only [Instr.loadAt, Instr.sureAddr, Sem.run_bind, Sem.run_pure, Result.andThen_ok, loadVar, hagg, Bool.false_eq_true, if_false, hl]
  | true =>
    rw [hst] at h2
    unfold isAggT at h2
    rw [hu] at h2
    cases d <;> first | (cases h2; done) | skip
    rename_i fs
    cases T <;> first | (cases hst; done) | skip
    rename_i xs
    obtain ⟨i, hi, hs⟩ := info_size rfl h0
    exact run_loadAt_mid w b o ty (cellsL xs) (.struct fs) hr hu rfl (by rw [hi, Option.map_some, hs]; exact congrArg some h3.symm)
end Go.Tree

/- Trees of values: what the evaluator says of an operation is so. Third part: the operations but for literals, append and calls. -/
namespace Go.Tree
set_option linter.unusedSectionVars false
set_option linter.unusedVariables false
set_option linter.unusedSimpArgs false
variable {P : Program} {w0 : World} {F : Fm} {nt : Nat} {H : List Value} {L : List (AV Value)} {XD : List Nat} {X : List LT} {a : Act} {w : World} {α : Type} {res : α}
variable [Pol]
mutual
theorem cells_one' : ∀ (T : LT), Mem w T → ∀ v ∈ cells T, v.oneCell' = true
  | .fl v, h, u, hu => by simp only [cells, List.mem_singleton] at hu; rw [hu]; exact h
  | .st xs, h, u, hu => cellsL_one' xs h u hu
  | .sl ro k hd xs, h, u, hu => by simp only [cells, List.mem_singleton] at hu; obtain ⟨⟨A, c, rfl, _⟩, _⟩ := h; rw [hu]; rfl
  | .pt ro hd x, h, u, hu => by simp only [cells, List.mem_singleton] at hu; obtain ⟨⟨b, o, rfl, _⟩, _⟩ := h; rw [hu]; rfl
  | .cl f xs, h, u, hu => by simp only [cells, List.mem_singleton] at hu; rw [hu]; rfl
  | .dead v, h, u, hu => by simp only [cells, List.mem_singleton] at hu; rw [hu]; exact h
theorem cellsL_one' : ∀ (Ts : List LT), MemL w Ts → ∀ v ∈ cellsL Ts, v.oneCell' = true
  | [], _, u, hu => by cases hu
  | x :: xs, h, u, hu => by
    rcases List.mem_append.1 hu with hu | hu
    · exact cells_one' x h.1 u hu
    · exact cellsL_one' xs h.2 u hu
end
theorem run_storeT {ty : TypeId} {b o : Nat} {U : LT} (hm : Mem w U) (ht : w.there b o (cells U).length) (hs : (cells U).length = P.cellsOf ty) (h0 : P.cellsOf ty ≠ 0) :
    (Instr.storeAt ty (.pointer (some ⟨b, o, none⟩)) (valOf U)).run P w = .ok () (w.setCells b o (cells U)) := by
  obtain ⟨i, hi, hsz⟩ := info_size rfl h0
  have hc := cells_toList hm
  have hcs : (valOf U).cells.size = i.size := by rw [hsz, ← hs, ← hc, Array.length_toList]
  have := run_storeCells_cells (P := P) b o (cells U) 0 w (fun j hj => by simpa using (ht j hj).1) (fun j hj => by simpa using (ht j hj).2) (cells_one' U hm)
  simp only [Nat.add_zero] at this
  simp [Instr.storeAt, Instr.sureAddr, storeVar, sizeOf, typeInfo, hi, hcs, hc, this]
theorem dpOf_er (D : List Nat) (T : LT) : (dpOf D (er T) = D) ∨ (dpOf D (er T) = [] ∧ all T = []) := by
  unfold dpOf
  cases h : noMem (er T) with
  | true => exact .inr ⟨rfl, noMem_all T h⟩
  | false => exact .inl rfl
theorem undepT {T : LT} {D : List Nat} (g : G P w0 F nt H L D [T] a w) : G P w0 F nt H L (dpOf D (er T)) [T] a w := by
  rcases dpOf_er D T with h | ⟨h, h2⟩
  · rw [h]; exact g
  · rw [h]
    exact g.undep fun j b hb => by
      simp only [shrL, (noall h2).2, List.append_nil] at hb
      cases hb
/-- The blocks that are there stay as they are. -/
def Ext (w w' : World) : Prop := w.heap.size ≤ w'.heap.size ∧ ∀ k, k < w.heap.size → w'.heap[k]? = w.heap[k]?
theorem Ext.refl (w : World) : Ext w w := ⟨Nat.le_refl _, fun _ _ => rfl⟩
theorem Ext.trans {w w' w'' : World} (h : Ext w w') (h' : Ext w' w'') : Ext w w'' := ⟨Nat.le_trans h.1 h'.1, fun k hk => (h'.2 k (Nat.lt_of_lt_of_le hk h.1)).trans (h.2 k hk)⟩
theorem Ext.range {w w' : World} (h : Ext w w') {b o : Nat} {cs : List Value} (hr : w.rangeAt b o cs) : w'.rangeAt b o cs := fun j v hj => by
  have h1 := hr j v hj
  have hlt : b < w.heap.size := by
    rcases Nat.lt_or_ge b w.heap.size with h' | h'
    · exact h'
    · unfold World.cell? at h1
      simp [Array.getElem?_eq_none h'] at h1
  unfold World.cell? at h1 ⊢
  simp only [h.2 b hlt]
  exact h1
/-- A part is loaded. -/
theorem loadE_ok (g : G P w0 F nt H L [] [] a w) {ty : TypeId} {d : Option Tmp} (hd : fitD nt d = true) {r : Nat} {p : List Stp} {deps : List Nat} {T : LT} {b o : Nat} (hr : slot L r = .val deps T) (ha : addrS P none T p = some (b, o)) {K : Env → Option α}
    (h : loadE P ty (L.map erA) d r p K = some res) : ∃ v, (∀ w', Ext w w' → (Instr.loadAt ty (.pointer (some ⟨b, o, none⟩))).run P w' = .ok v w') ∧ Nxt P w0 F nt H K res (a.put d v) w := by
  have hm := g.mem r
  rw [hr] at hm
  unfold loadE at h
  rw [slot_er, hr] at h
  simp only [erA] at h
  obtain ⟨hv, had, opq, u, h, hlk, hmu, hvk⟩ := getK_ok p false false T _ hm (addrS_bd ha) h
  have hrange := range_get p false none T hm hv (fun q h => by cases h) (by rw [had]; exact ha)
  have key : ∀ U : LT, Vk (get default false T p).1 u U → Mem w U → fitsTy P ty (er U) = true → (∀ w', Ext w w' → (Instr.loadAt ty (.pointer (some ⟨b, o, none⟩))).run P w' = .ok (valOf U) w') ∧ valOf U = valOf (get default false T p).2 := by
    intro U hvU hmU hf
    have e : Lk (get default false T p).2 U := hlk.trans hvU.lk
    refine ⟨fun w' hw => run_loadT (by rw [e.cells]; exact hw.range hrange) (fitsTy_spec hf), e.valOf⟩
  have copy : ∀ U : LT, Vk (get default false T p).1 u U → Mem w U → own U = [] → fitsTy P ty (er U) = true → K (putD (L.map erA) d (.val (dpOf deps (er U)) (er U))) = some res → ∃ v, (∀ w', Ext w w' → (Instr.loadAt ty (.pointer (some ⟨b, o, none⟩))).run P w' = .ok v w') ∧ Nxt P w0 F nt H K res (a.put d v) w := by
    intro U hvU hmU hoU hf h
    obtain ⟨h1, h2⟩ := key U hvU hmU hf
    have hsh : ∀ k ∈ shr U, k ∈ shr T := fun k hk => by
      cases hro : (get default false T p).1 with
      | true =>
        rw [hro] at hvU
        rw [hvU.rd.2, hlk.all] at hk
        exact shr_get p T hv hro k hk
      | false =>
        rw [hro] at hvU
        rw [hvU.wr.2, (hvk hro).wr.2] at hk
        obtain ⟨_, ⟨l, rr, h3, _⟩⟩ := own_get p T hv hro
        rw [h3]; simp [hk]
    have g1 := g.addRo (T := U) (D := deps) hmU hoU (fun j k hk hj => by
      have := g.dj.sh r j k (by rw [hr]; exact hsh k hk) hj
      rwa [hr] at this) (fun k _ => by simp [ownL]) (fun k hk => g.sees r k (by rw [hr]; exact hsh k hk))
    exact ⟨_, h1, landT (T := U) (undepT g1) hd rfl h⟩
  cases hb : (!(get default false T p).1 && ownTy P fuelT ty) with
  | true =>
    rw [hb] at h
    simp only [Bool.and_eq_true, Bool.not_eq_true'] at hb
    obtain ⟨U, h, hvU, hmU⟩ := lay_ok hmu h
    cases ho : hasOwn (er U) with
    | true =>
      rw [ho] at h
      cases hf : fitsTy P ty (er U) with
      | false => rw [hf] at h; cases h
      | true =>
        rw [hf] at h
        obtain ⟨h1, h2⟩ := key U hvU hmU hf
        refine ⟨_, h1, landRef g hd (av := .ref r p none ty (isSt U)) ⟨rfl, rfl, rfl, fun _ => trivial, fun _ _ => by simp⟩ (fun L' d' hdd hk hnv deps' t' ht' => ?_) (by rw [isSt_er] at h; exact h)⟩
        by_cases c : r = d'
        · subst c; exact absurd ht' (hnv _ _)
        · have := hk r deps' t' ht' c
          rw [hr] at this
          cases this
          exact ⟨hv, h2, fun h0 => by rw [← (hlk.trans hvU.lk).isSt]; exact h0⟩
    | false =>
      rw [ho] at h
      cases hf : fitsTy P ty (er U) with
      | false => rw [hf] at h; cases h
      | true =>
        rw [hf] at h
        rw [hasOwn_er] at ho
        exact copy U hvU hmU (own_nil U ho) hf h
  | false =>
    rw [hb] at h
    obtain ⟨U, h, hvU, hmU⟩ := view_ok _ hmu h
    cases hf : (fitsTy P ty (er U) && !hasOwn (er U)) with
    | false => rw [hf] at h; cases h
    | true =>
      rw [hf] at h
      simp only [Bool.and_eq_true, Bool.not_eq_true', hasOwn_er] at hf
      exact copy U hvU hmU (own_nil U hf.2) hf.1 h
/-- The slots that are read when an operand is taken. -/
theorem rootOf_spec {x : Operand} {s : Nat} (hx : x = .tmp s) {D : List Nat} (h : D.any (rootOf (L.map erA) x) = false) : rootS L s ∉ D := by
  subst hx
  intro hm
  have := List.any_eq_false.1 h (rootS L s) hm
  simp only [rootOf, slot_er] at this
  unfold rootS at this
  cases e : slot L s <;> simp [e, erA] at this
theorem killW_map_er (L : List (AV Value)) (r : Nat) (p : List Stp) (d : List Nat) (T : LT) : ((L.map erA).map (killW r p)).set r (.val d (er T)) = ((L.map (killW r p)).set r (.val d T)).map erA := by
  rw [map_er L (killW r p) (killW_er r p), List.map_set]
  rfl
/-- A part is stored. -/
theorem storeE_ok (g : G P w0 F nt H L [] [] a w) {ty : TypeId} {p x : Operand} (hp : fitO nt p = true) (hx : fitO nt x = true) {K : Env → Option α} (h : storeE P ty (L.map erA) p x K = some res) :
    ∃ w' L', (Instr.storeAt ty (a.eval p) (a.eval x)).run P w = .ok () w' ∧ G P w0 F nt H L' [] [] a w' ∧ K (L'.map erA) = some res := by
  obtain ⟨D, U, L1, h, g1, hv⟩ := takeO_ok g hx (fun s hs => by simp) h
  simp only [List.nil_append] at g1
  obtain ⟨r, q, deps, T, b, o, h, hr, ha, hpv⟩ := place_ok g1 hp h
  rw [slot_er, hr] at h
  simp only [erA] at h
  cases hb : (D.contains r || !fitsTy P ty (er U)) with
  | true => rw [hb] at h; cases h
  | false =>
    rw [hb] at h
    simp only [Bool.or_eq_false_iff, Bool.not_eq_false'] at hb
    have hf := fitsTy_spec hb.2
    have hrD : r ∉ D := by simpa using hb.1
    have hm := g1.mem r
    rw [hr] at hm
    obtain ⟨T2, T', h, h2, h3, h4, h5, h6, h7, h8, h9⟩ := putK_ok U q false T _ hm (addrS_bd ha) (fun h => by cases h) h
    have g2 := undepT g1
    have hrD' : r ∉ dpOf D (er U) := by
      rcases dpOf_er D U with h' | ⟨h', _⟩
      · rw [h']; exact hrD
      · rw [h']; simp
    obtain ⟨hth, g3⟩ := store_core g2 hr hrD' h2 h3 h4 h5 h7 h9 (by rw [h8, h2.lk.addrS]; exact ha) h6
    refine ⟨_, _, ?_, g3, ?_⟩
    · rw [hpv, hv]
      exact run_storeT g1.memX.1 hth hf.2.2.1 hf.2.2.2
    · rw [← killW_map_er]; exact h
/-- A slot of which nothing is known. -/
theorem landU {d : Option Tmp} (g : G P w0 F nt H L [] [] a w) (hd : fitD nt d = true) (v : Value) {K : Env → Option α} (h : K (putD (L.map erA) d .un) = some res) : Nxt P w0 F nt H K res (a.put d v) w :=
  landRef g hd (av := .un) ⟨rfl, rfl, rfl, fun _ => trivial, fun _ _ => by simp⟩ (fun _ _ _ _ _ => trivial) h
/-- A flat value. -/
theorem landV {d : Option Tmp} (g : G P w0 F nt H L [] [] a w) (hd : fitD nt d = true) {v : Value} (hv : v.oneCell' = true) {K : Env → Option α} (h : K (putD (L.map erA) d (.val [] (.fl v))) = some res) : Nxt P w0 F nt H K res (a.put d v) w :=
  landT (T := .fl v) (D := []) (g.addRo (T := .fl v) (D := []) hv rfl (fun _ _ hb => by cases hb) (fun _ hb => by cases hb) (fun _ hb => by cases hb)) hd rfl h
/-- Where a slice's elements lie. -/
theorem row_ok (g : G P w0 F nt H L XD X a w) {e : TypeId} {x : Operand} (hx : fitO nt x = true) {K : Nat → List Stp → Nat → Nat → Option α} (h : row P (L.map erA) e x K = some res) :
    P.cellsOf e ≠ 0 ∧ ∃ r p lo n deps T A c, K r p lo n = some res ∧ slot L r = .val deps T ∧ Valid T p ∧ a.eval x = .slice A n c ∧ n ≤ c ∧
      ∃ ro hd xs, Lk (get default false T p).2 (.sl ro (ekOf P e) hd xs) ∧ lo + n ≤ xs.length ∧ (n ≠ 0 → ∃ b o, A = some ⟨b, o, none⟩ ∧ (plc hd).map (fun q => (q.1, q.2 + lo * P.cellsOf e)) = some (b, o)) := by
  unfold row at h
  cases h0 : decide (P.cellsOf e = 0) with
  | true => rw [h0] at h; cases h
  | false =>
    rw [h0] at h
    refine ⟨of_decide_eq_false h0, ?_⟩
    have slk : ∀ {ro : Bool} {hd : Value} {xs : List LT} {w : World}, Mem w (.sl ro (ekOf P e) hd xs) → ∃ A c, hd = .slice A xs.length c ∧ xs.length ≤ c ∧ (xs.length ≠ 0 → ∃ b o, A = some ⟨b, o, none⟩ ∧ plc hd = some (b, o)) := by
      intro ro hd xs w hm
      obtain ⟨⟨A, c, rfl, hc, _, hx⟩, _⟩ := hm
      refine ⟨A, c, rfl, hc, fun hn => ?_⟩
      obtain ⟨b, o, rfl, _⟩ := hx (by omega)
      exact ⟨b, o, rfl, by simp [plc, show c ≠ 0 by omega]⟩
    cases x with
    | tmp s =>
      have hs : s < nt := by simpa [fitO] using hx
      have hso := g.slots s hs
      simp only [cond_false, slot_er] at h
      split at h
      · rename_i d t hv
        obtain ⟨T, e1, rfl⟩ := erA_val hv
        have hm := g.mem s
        rw [e1] at hso hm
        obtain ⟨r', hd, xs, e', h⟩ := mSl_some h
        obtain ⟨hd, ys, rfl, rfl⟩ := er_sl_inv e'
        obtain ⟨A, c, h1, h2, h3⟩ := slk hm
        refine ⟨s, [], 0, ys.length, d, _, A, c, by simpa using h, e1, trivial, ?_, h2, r', hd, ys, Lk.refl _, by omega, fun hn => ?_⟩
        · rw [eval_tmp, hso]; exact h1
        · obtain ⟨b, o, h4, h5⟩ := h3 hn
          exact ⟨b, o, h4, by rw [h5]; simp⟩
      · rename_i r p sub ty sn hv
        have e1 := erA_ref hv
        rw [e1] at hso
        split at h
        · rename_i d t hv'
          obtain ⟨T, e2, rfl⟩ := erA_val hv'
          obtain ⟨h1, h2, h3⟩ := hso d T e2
          have hm := g.mem r
          rw [e2] at hm
          obtain ⟨_, _, opq, u, h, hlk, hmu, hvk⟩ := getK_ok p false false T _ hm h1.bd h
          obtain ⟨r', hd, xs, e', h⟩ := mSl_some h
          obtain ⟨hd, ys, rfl, rfl⟩ := er_sl_inv e'
          obtain ⟨A, c, h4, h5, h6⟩ := slk hmu
          have hvo : valOf (get default false T p).2 = hd := (hlk.valOf).symm
          rw [hvo] at h2
          cases sub with
          | none =>
            refine ⟨r, p, 0, ys.length, d, T, A, c, by simpa using h, e2, h1, ?_, h5, r', hd, ys, hlk, by omega, fun hn => ?_⟩
            · rw [eval_tmp, show _ = hd from h2]; exact h4
            · obtain ⟨b, o, h7, h8⟩ := h6 hn
              exact ⟨b, o, h7, by rw [h8]; simp⟩
          | some q =>
            obtain ⟨lo, n⟩ := q
            obtain ⟨A2, len, c2, k, A', k1, k2, k3, k4, k5⟩ := h2
            rw [h4] at k1
            simp only [Value.slice.injEq] at k1
            obtain ⟨rfl, rfl, rfl⟩ := k1
            simp only at h
            cases hb : (elemSz P ty == some (ekOf P e)) with
            | false => rw [hb] at h; cases h
            | true =>
              rw [hb] at h
              have hk : k = ekOf P e := by
                have := eq_of_beq hb
                rw [k3] at this
                exact Option.some.inj this
              refine ⟨r, p, lo, n, d, T, A', c - lo, h, e2, h1, ?_, by omega, r', hd, ys, hlk, by omega, fun hn => ?_⟩
              · rw [eval_tmp]; exact k4
              · obtain ⟨b, o, h7, h8⟩ := h6 (by omega)
                refine ⟨b, o + lo * P.cellsOf e, ?_, by rw [h8]; rfl⟩
                rw [k5 (by omega), h7, hk]
                simp [Addr.add_mid, ekOf]
        · cases h
      · cases h
    | const => cases h
    | global => cases h
    | func => cases h
end Go.Tree

/- Trees of values: what the evaluator says of an operation is so. Fourth part: flat operations, addresses. -/
namespace Go.Tree
set_option linter.unusedSectionVars false
set_option linter.unusedVariables false
set_option linter.unusedSimpArgs false
variable {P : Program} {w0 : World} {F : Fm} {nt : Nat} {H : List Value} {L : List (AV Value)} {XD : List Nat} {X : List LT} {a : Act} {w : World} {α : Type} {res : α}
variable [Pol]
theorem pureOf_ok {β : Type} : ∀ (s : Sem β) (v : β), pureOf P s = some v → s.run P w = .ok v w
  | .pure a, v, h => by simp only [pureOf, Option.some.injEq] at h; rw [h]; rfl
  | .program k, v, h => by simp only [pureOf] at h; exact pureOf_ok (k P) v h
  | .load .., _, h => by cases h
  | .store .., _, h => by cases h
  | .new .., _, h => by cases h
  | .shape .., _, h => by cases h
  | .freeze .., _, h => by cases h
  | .frozen .., _, h => by cases h
  | .getObj .., _, h => by cases h
  | .setObj .., _, h => by cases h
  | .choose .., _, h => by cases h
  | .sys .., _, h => by cases h
  | .mark .., _, h => by cases h
  | .halt .., _, h => by cases h
theorem oneB_eq (v : Value) : oneB v = v.oneCell' := by cases v <;> rfl
theorem pureV_ok {s : Sem Value} {K : Value → Option α} (h : pureV P s K = some res) : ∃ v, (∀ w, s.run P w = .ok v w) ∧ v.oneCell' = true ∧ K v = some res := by
  unfold pureV at h
  split at h
  · rename_i v hv
    cases hb : oneB v with
    | false => rw [hb] at h; cases h
    | true => rw [hb] at h; exact ⟨v, fun w => pureOf_ok s v hv, by rw [← oneB_eq]; exact hb, h⟩
  · cases h
theorem eqGuard_plain {op : BinOp} {t : TypeId} {x y : Operand} {u v : Value} (h : ∀ (us vs : Array Value), u = .agg us → v = .agg vs → False) (h2 : u = .nilIface → v = .nilIface → False) : (eqGuard op t x y u v).run P w = .ok () w := by
  unfold eqGuard
  by_cases hop : (op matches .eql | .neq) = true
  · cases u <;> cases v <;> simp_all
  · simp [hop]
theorem binF_ok {op : BinOp} {t : TypeId} {x y : Operand} {u v : Value} {K : Value → Option α} (h : binF P op t x y u v K = some res) :
    ∃ z, (∀ w, (do eqGuard op t x y u v; binOp op t u v : Sem Value).run P w = .ok z w) ∧ z.oneCell' = true ∧ K z = some res := by
  unfold binF at h
  split at h
  · rename_i s s'
    cases hb : decide (s.size + s'.size < 140737488355328) with
    | false => rw [hb] at h; cases h
    | true =>
      rw [hb] at h
      have hb := of_decide_eq_true hb
      refine ⟨_, fun w => ?_, rfl, h⟩
      rw [Sem.run_bind, eqGuard_plain (fun _ _ h => by cases h) (fun h => by cases h)]
      have : ¬ (((s.size + s'.size : Nat) : Int) > IntKind.i64.max) := by
        have : (IntKind.i64.max : Int) = 9223372036854775807 := rfl
        omega
      simp only [Result.andThen_ok, binOp, Op.stringOp, if_neg this]
      rfl
  · rename_i k m k' n
    cases hb : (decide (k = k') && !decide (n = 0)) with
    | false => rw [hb] at h; cases h
    | true =>
      rw [hb] at h
      simp only [Bool.and_eq_true, decide_eq_true_eq, Bool.not_eq_true', decide_eq_false_iff_not] at hb
      obtain ⟨rfl, hn⟩ := hb
      refine ⟨_, fun w => ?_, rfl, h⟩
      rw [Sem.run_bind, eqGuard_plain (fun _ _ h => by cases h) (fun h => by cases h)]
      simp only [Result.andThen_ok, binOp, Op.intDiv, if_neg hn, ne_eq, not_true_eq_false, if_false]
      rfl
  · rename_i k m k' n
    cases hb : (decide (k = k') && !decide (n = 0)) with
    | false => rw [hb] at h; cases h
    | true =>
      rw [hb] at h
      simp only [Bool.and_eq_true, decide_eq_true_eq, Bool.not_eq_true', decide_eq_false_iff_not] at hb
      obtain ⟨rfl, hn⟩ := hb
      refine ⟨_, fun w => ?_, rfl, h⟩
      rw [Sem.run_bind, eqGuard_plain (fun _ _ h => by cases h) (fun h => by cases h)]
      simp only [Result.andThen_ok, binOp, Op.intDiv, if_neg hn, ne_eq, not_true_eq_false, if_false]
      rfl
  · rename_i k m k' n
    cases hb : (!decide (n < 0)) with
    | false => rw [hb] at h; cases h
    | true =>
      rw [hb] at h
      simp only [Bool.not_eq_true', decide_eq_false_iff_not] at hb
      refine ⟨_, fun w => ?_, rfl, h⟩
      rw [Sem.run_bind, eqGuard_plain (fun _ _ h => by cases h) (fun h => by cases h)]
      simp only [Result.andThen_ok, binOp, Op.shift, if_neg hb]
      rfl
  · rename_i k m k' n
    cases hb : (!decide (n < 0)) with
    | false => rw [hb] at h; cases h
    | true =>
      rw [hb] at h
      simp only [Bool.not_eq_true', decide_eq_false_iff_not] at hb
      refine ⟨_, fun w => ?_, rfl, h⟩
      rw [Sem.run_bind, eqGuard_plain (fun _ _ h => by cases h) (fun h => by cases h)]
      simp only [Result.andThen_ok, binOp, Op.shift, if_neg hb]
      rfl
  · obtain ⟨z, h1, h2, h3⟩ := pureV_ok h
    exact ⟨z, h1, h2, h3⟩
theorem run_equalIn_ptr_nil (w : World) (d : Nat) (t e : TypeId) (a : Option Addr) (h : P.underlying t = some (.pointer e)) : (Op.equalIn (d + 1) t (.pointer a) (.pointer none)).run P w = .ok a.isNone w := by
  cases a <;> simp [Op.equalIn, run_underlying h]
theorem run_equal_ptr_nil (w : World) (t e : TypeId) (a : Option Addr) (h : P.underlying t = some (.pointer e)) : (Op.equal t (.pointer a) (.pointer none)).run P w = .ok a.isNone w := run_equalIn_ptr_nil w 9999 t e a h
theorem run_eql_ptr_nil (w : World) (t e : TypeId) (a : Option Addr) (h : P.underlying t = some (.pointer e)) : (binOp .eql t (.pointer a) (.pointer none)).run P w = .ok (.bool a.isNone) w := by
  simp only [binOp]
  simp [run_equal_ptr_nil w t e a h]
theorem run_neq_ptr_nil (w : World) (t e : TypeId) (a : Option Addr) (h : P.underlying t = some (.pointer e)) : (binOp .neq t (.pointer a) (.pointer none)).run P w = .ok (.bool (!a.isNone)) w := by
  simp only [binOp]
  simp [run_equal_ptr_nil w t e a h]
theorem amb_spec {xs : List (Option α)} {r : α} (h : amb xs = some r) : ∀ x ∈ xs, x = some r := by
  unfold amb at h
  split at h
  · cases h
  · intro x hx; rw [List.mem_singleton.1 hx]; exact h
  · rename_i x xs _
    classical
    split at h
    · rename_i hall
      intro y hy
      rcases List.mem_cons.1 hy with hy | hy
      · rw [hy]; exact h
      · rw [hall y hy]; exact h
    · cases h
theorem run_equalIn_sl_nil (w : World) (d : Nat) (t e : TypeId) (A : Option Addr) (n c : Nat) (h : P.underlying t = some (.slice e)) : (Op.equalIn (d + 1) t (.slice A n c) (.slice none 0 0)).run P w = .ok A.isNone w := by
  cases A <;> simp [Op.equalIn, run_underlying h]
theorem run_equal_sl_nil (w : World) (t e : TypeId) (A : Option Addr) (n c : Nat) (h : P.underlying t = some (.slice e)) : (Op.equal t (.slice A n c) (.slice none 0 0)).run P w = .ok A.isNone w := run_equalIn_sl_nil w 9999 t e A n c h
theorem run_eql_sl_nil (w : World) (t e : TypeId) (A : Option Addr) (n c : Nat) (hu : P.underlying t = some (.slice e)) : (binOp .eql t (.slice A n c) (.slice none 0 0)).run P w = .ok (.bool A.isNone) w := by
  simp only [binOp]
  simp [run_equal_sl_nil w t e A n c hu]
theorem run_neq_sl_nil (w : World) (t e : TypeId) (A : Option Addr) (n c : Nat) (hu : P.underlying t = some (.slice e)) : (binOp .neq t (.slice A n c) (.slice none 0 0)).run P w = .ok (.bool (!A.isNone)) w := by
  simp only [binOp]
  simp [run_equal_sl_nil w t e A n c hu]
/-- A pointer or a slice is compared with nil. -/
theorem nilAsk_ok (g : G P w0 F nt H L XD X a w) {t : TypeId} {x y : Operand} (hx : fitO nt x = true) {K : Bool → Option α} (h : nilAsk P (L.map erA) t x y K = some res) :
    ∃ b, K b = some res ∧ (∀ w, (binOp .eql t (a.eval x) (a.eval y)).run P w = .ok (.bool b) w) ∧ (∀ w, (binOp .neq t (a.eval x) (a.eval y)).run P w = .ok (.bool (!b)) w) ∧ ∀ op w, (eqGuard op t x y (a.eval x) (a.eval y)).run P w = .ok () w := by
  unfold nilAsk at h
  split at h
  · rename_i e s hu
    obtain ⟨D, T, h, hm, hv, _⟩ := look_ok g (by simpa [fitO] using hx) h
    have hy : a.eval (.const (.pointer none)) = .pointer none := rfl
    rw [eval_tmp, hv, hy]
    split at h
    · rename_i ro hd z hT
      obtain ⟨hd', z', rfl, rfl⟩ := er_pt_inv hT
      obtain ⟨b, o, rfl, _⟩ := hm.1.plc
      refine ⟨false, h, fun w => ?_, fun w => ?_, fun op w => eqGuard_plain (fun _ _ h => by cases h) (fun h => by cases h)⟩
      · exact run_eql_ptr_nil w t e _ hu
      · exact run_neq_ptr_nil w t e _ hu
    · rename_i hT
      have := er_fl_inv hT
      subst this
      refine ⟨true, h, fun w => ?_, fun w => ?_, fun op w => eqGuard_plain (fun _ _ h => by cases h) (fun h => by cases h)⟩
      · exact run_eql_ptr_nil w t e _ hu
      · exact run_neq_ptr_nil w t e _ hu
    · cases h
  · rename_i e s hu
    obtain ⟨D, T, h, hm, hv, _⟩ := look_ok g (by simpa [fitO] using hx) h
    have hy : a.eval (.const (.slice none 0 0)) = .slice none 0 0 := rfl
    rw [eval_tmp, hv, hy]
    split at h
    · rename_i ro k hd hT
      obtain ⟨hd', xs, rfl, hxs⟩ := er_sl_inv hT
      obtain ⟨A, c, rfl, _⟩ := hm.1
      have hall := amb_spec h
      refine ⟨A.isNone, ?_, fun w => run_eql_sl_nil w t e A _ c hu, fun w => run_neq_sl_nil w t e A _ c hu, fun op w => eqGuard_plain (fun _ _ h => by cases h) (fun h => by cases h)⟩
      cases A with
      | none => exact hall _ (by simp)
      | some _ => exact hall _ (by simp)
    · rename_i ro k hd y ys hT
      obtain ⟨hd', xs, rfl, hxs⟩ := er_sl_inv hT
      obtain ⟨⟨A, c, rfl, hc, hl, hx'⟩, _⟩ := hm
      have hne : xs ≠ [] := fun h0 => by subst h0; cases hxs
      have hc0 : c ≠ 0 := fun h0 => hne (List.length_eq_zero_iff.1 (by omega))
      obtain ⟨b, o, rfl, _⟩ := hx' hc0
      exact ⟨false, h, fun w => run_eql_sl_nil w t e _ _ c hu, fun w => run_neq_sl_nil w t e _ _ c hu, fun op w => eqGuard_plain (fun _ _ h => by cases h) (fun h => by cases h)⟩
    · cases h
  · cases h
/-- A field's address. -/
theorem run_fieldAt {s : TypeId} {f : Nat} {off b o : Nat} (h : offs P s f = some off) : (Instr.fieldAt s (.pointer (some ⟨b, o, none⟩)) f).run P w = .ok (.pointer (some ⟨b, o + off, none⟩)) w := by
  unfold offs at h
  split at h
  · rename_i fs hu
    obtain ⟨fd, hf, h⟩ := Option.bind_eq_some_iff.1 h
    split at h
    · cases h
    · rename_i hc
      cases h
      obtain ⟨i, hi, hs⟩ := info_size (n := P.cellsOf fd.type) rfl hc
      have hs' : ¬ i.size = 0 := by rw [hs]; exact hc
      simp [Instr.fieldAt, run_underlying hu, hf, Instr.sureAddr, fieldPlace, sizeOf, typeInfo, hi, hs', Addr.add_mid]
  · cases h
/-- An element's address. -/
theorem run_indexAt {t e : TypeId} {k : IntKind} {i : Int} {n c b o : Nat} (hu : P.underlying t = some (.slice e)) (h0 : 0 ≤ i) (hi : i < n) (hc : P.cellsOf e ≠ 0) :
    (Instr.indexAt t (.slice (some ⟨b, o, none⟩) n c) (.int k i)).run P w = .ok (.pointer (some ⟨b, o + i.toNat * P.cellsOf e, none⟩)) w := by
  obtain ⟨inf, hin, hs⟩ := info_size (n := P.cellsOf e) rfl hc
  simp [Instr.indexAt, asIntOf, run_underlying hu, h0, hi, sizeOf, typeInfo, hin, hs, Addr.add_mid]
/-- A new block for a tree. -/
theorem boxed {T : LT} {D : List Nat} (g : G P w0 F nt H L D [T] a w) (e : TypeId) :
    G P w0 F nt H L D [.pt false (.pointer (some ⟨w.heap.size, 0, none⟩)) T] a (w.alloc (.cells (cells T).toArray e)) := by
  have hlt : ∀ b ∈ all T, b < w.heap.size := fun b hb => all_lt T g.memX.1 hb
  have hmT : Mem (w.alloc (.cells (cells T).toArray e)) T := Mem.congr T (fun b hb => Go.RowKit.Below.heap_alloc _ _ _ (hlt b hb)) g.memX.1
  refine g.flight (X' := [_]) ⟨⟨⟨w.heap.size, 0, rfl, by simp, fun j v hj => ?_, fun _ j hj => ?_⟩, hmT⟩, trivial⟩ ?_ (fun b hb => ?_) (fun b hb => ?_) (fun b hb hb' => ?_) (fun k hk _ => Go.RowKit.Below.heap_alloc _ _ _ hk) (by simp) rfl rfl rfl
  · rw [Nat.zero_add, World.cell?_alloc_new]
    simpa using hj
  · rw [Nat.zero_add, World.cell?_alloc_new, World.frozen?_alloc_new]
    exact ⟨by simp [hj], rfl⟩
  · have := g.dj.xn
    simp only [ownL, own, Bool.false_eq_true, if_false, blk, plc, List.append_nil] at this ⊢
    refine List.nodup_append.2 ⟨by simp, this, fun x hx y hy hxy => ?_⟩
    simp only [List.mem_singleton] at hx
    subst hxy hx
    have := hlt _ (own_all T hy); omega
  · simp only [ownL, own, Bool.false_eq_true, if_false, blk, plc, List.append_nil, List.mem_append, List.mem_singleton] at hb ⊢
    rcases hb with hb | hb
    · right; omega
    · exact .inl hb
  · simp only [shrL, shr, Bool.false_eq_true, if_false, List.append_nil] at hb ⊢
    exact .inl hb
  · simp only [ownL, shrL, own, shr, Bool.false_eq_true, if_false, blk, plc, List.append_nil, List.mem_append, List.mem_singleton] at hb hb'
    rcases hb' with hb' | hb'
    · have := hlt _ (shr_all T hb); omega
    · exact g.dj.xx b (by simpa [shrL] using hb) (by simpa [ownL] using hb')
end Go.Tree

/- Trees of values: what the evaluator says of an operation is so. Fifth part: rows. -/
namespace Go.Tree
set_option linter.unusedSectionVars false
set_option linter.unusedVariables false
set_option linter.unusedSimpArgs false
variable {P : Program} {w0 : World} {F : Fm} {nt : Nat} {H : List Value} {L : List (AV Value)} {XD : List Nat} {X : List LT} {a : Act} {w : World} {α : Type} {res : α}
variable [Pol]
/-- What has been taken out, taken apart. -/
theorem G.swap (g : G P w0 F nt H L XD X a w) {Ts : List LT} (hm : MemL w Ts) (hnd : (ownL Ts).Nodup) (ho : ∀ b ∈ ownL Ts, b ∈ ownL X) (hs : ∀ b ∈ shrL Ts, b ∈ shrL X) : G P w0 F nt H L XD Ts a w :=
  g.flight hm hnd (fun b hb => .inl (ho b hb)) (fun b hb => .inl (hs b hb)) (fun b hb hb' => g.dj.xx b (hs b hb) (ho b hb')) (fun _ _ _ => rfl) (Nat.le_refl _) rfl rfl rfl
theorem blk_row (b o n c : Nat) : blk (.slice (some ⟨b, o, none⟩) n c) = if c = 0 then [] else [b] := by
  by_cases h : c = 0 <;> simp [blk, plc, h]
/-- A new row for the trees that have been taken out. -/
theorem rowed {Ts : List LT} {D : List Nat} (g : G P w0 F nt H L D Ts a w) {k : Ek} {c : Nat} {rest : List Value} {e : TypeId} {w1 : World} (h1 : w1.heap = w.heap) (h2 : w1.os = w.os) (h3 : w1.tape = w.tape) (h4 : w1.output = w.output)
    (hk : ∀ x ∈ Ts, (cells x).length = k.n ∧ (k.m = false → all x = [])) (hc : Ts.length ≤ c) (hl : (cellsL Ts ++ rest).length = c * k.n) :
    G P w0 F nt H L D [.sl false k (.slice (some ⟨w1.heap.size, 0, none⟩) Ts.length c) Ts] a (w1.alloc (.cells (cellsL Ts ++ rest).toArray e)) := by
  have hlt : ∀ b ∈ allL Ts, b < w.heap.size := fun b hb => all_ltL Ts g.memX hb
  have hheap : ∀ k, k < w.heap.size → (w1.alloc (.cells (cellsL Ts ++ rest).toArray e)).heap[k]? = w.heap[k]? := fun k hk => by
    rw [← h1] at hk
    rw [Go.RowKit.Below.heap_alloc _ _ _ hk, h1]
  have hmT : MemL (w1.alloc (.cells (cellsL Ts ++ rest).toArray e)) Ts := MemL.congr Ts (fun b hb => hheap b (hlt b hb)) g.memX
  have hsz : w1.heap.size = w.heap.size := by rw [h1]
  refine g.flight (X' := [_]) ⟨⟨⟨_, c, rfl, hc, cellsL_len fun x hx => (hk x hx).1, fun _ => ⟨w1.heap.size, 0, rfl, by simp, fun j v hj => ?_, fun _ j hj => ?_⟩⟩, hk, hmT⟩, trivial⟩ ?_ (fun b hb => ?_) (fun b hb => ?_) (fun b hb hb' => ?_) (fun k hk _ => hheap k hk) (by simp [h1]) h2 h3 h4
  · rw [Nat.zero_add, World.cell?_alloc_new]
    have hj' : j < (cellsL Ts).length := by
      rcases Nat.lt_or_ge j (cellsL Ts).length with h | h
      · exact h
      · rw [List.getElem?_eq_none h] at hj; cases hj
    simpa [List.getElem?_append_left hj'] using hj
  · rw [Nat.zero_add, World.cell?_alloc_new, World.frozen?_alloc_new]
    refine ⟨?_, rfl⟩
    rw [← hl] at hj
    have : j < (cellsL Ts ++ rest).toArray.size := by simpa using hj
    simp [Array.getElem?_eq_getElem this]
  · simp only [ownL, own, Bool.false_eq_true, if_false, List.append_nil, blk_row]
    by_cases hc0 : c = 0
    · simpa [hc0] using g.dj.xn
    · simp only [hc0, if_false, List.singleton_append, List.nodup_cons]
      refine ⟨fun hb => ?_, g.dj.xn⟩
      have := hlt _ (own_allL Ts hb)
      omega
  · simp only [ownL, own, Bool.false_eq_true, if_false, List.append_nil, List.mem_append, blk_row] at hb
    rcases hb with hb | hb
    · right
      by_cases hc0 : c = 0
      · simp [hc0] at hb
      · simp [hc0] at hb; omega
    · exact .inl hb
  · simp only [shrL, shr, Bool.false_eq_true, if_false, List.append_nil] at hb
    exact .inl hb
  · simp only [shrL, shr, ownL, own, Bool.false_eq_true, if_false, List.append_nil, List.mem_append, blk_row] at hb hb'
    rcases hb' with hb' | hb'
    · by_cases hc0 : c = 0
      · simp [hc0] at hb'
      · simp [hc0] at hb'
        have := hlt _ (shr_allL Ts hb)
        omega
    · exact g.dj.xx b hb hb'
theorem rangeAt_there {b o : Nat} {vs : List Value} (h : w.there b o vs.length) : (w.setCells b o vs).rangeAt b o vs := by
  refine rangeAt_setCells_in (cs := (List.range vs.length).map fun j => (w.cell? ⟨b, o + j, none⟩).getD undef) (fun j v hj => ?_) (by simp)
  simp only [List.getElem?_map, Option.map_eq_some_iff] at hj
  obtain ⟨i, hi, rfl⟩ := hj
  obtain ⟨hlt, rfl⟩ := List.getElem?_eq_some_iff.1 hi
  simp only [List.length_range] at hlt
  simp only [List.getElem_range]
  have := (h j hlt).1
  cases e : w.cell? ⟨b, o + j, none⟩ with
  | none => rw [e] at this; cases this
  | some v => rfl
theorem setCells_os' (b : Nat) : ∀ (vs : List Value) (o : Nat) (w : World), (w.setCells b o vs).os = w.os ∧ (w.setCells b o vs).tape = w.tape ∧ (w.setCells b o vs).output = w.output
  | [], o, w => ⟨rfl, rfl, rfl⟩
  | v :: r, o, w => by
    rw [World.setCells]
    obtain ⟨h1, h2, h3⟩ := setCells_os' b r (o + 1) (w.setCell ⟨b, o, none⟩ v)
    exact ⟨h1.trans rfl, h2.trans rfl, h3.trans rfl⟩
/-- A row grows where it stands. -/
theorem roomed {D : List Nat} {xs ys : List LT} (g : G P w0 F nt H L D X a w) {k : Ek} {b o c : Nat} (hb : b ∈ ownL X) (hnd : (b :: ownL (xs ++ ys)).Nodup) (ho : ∀ x ∈ ownL (xs ++ ys), x ∈ ownL X) (hs : ∀ x ∈ shrL (xs ++ ys), x ∈ shrL X) (hm : MemL w (xs ++ ys))
    (hk : ∀ x ∈ xs ++ ys, (cells x).length = k.n ∧ (k.m = false → all x = [])) (hr : w.rangeAt b o (cellsL xs)) (ht : w.there b o (c * k.n)) (hlt : b < w.heap.size) (hc : (xs ++ ys).length ≤ c) :
    G P w0 F nt H L D [.sl false k (.slice (some ⟨b, o, none⟩) (xs ++ ys).length c) (xs ++ ys)] a (w.setCells b (o + xs.length * k.n) (cellsL ys)) := by
  have hba : b ∉ allL (xs ++ ys) := fun h => by
    rcases all_ofL _ h with h | h
    · exact (List.nodup_cons.1 hnd).1 h
    · exact g.dj.xx b (hs b h) hb
  have hm' : MemL (w.setCells b (o + xs.length * k.n) (cellsL ys)) (xs ++ ys) := MemL.congr _ (fun x hx => setCells_heap _ _ _ _ _ (fun e => hba (e ▸ hx))) hm
  have hlx : (cellsL xs).length = xs.length * k.n := cellsL_len fun x hx => (hk x (List.mem_append.2 (.inl hx))).1
  have hly : (cellsL ys).length = ys.length * k.n := cellsL_len fun x hx => (hk x (List.mem_append.2 (.inr hx))).1
  have hle : xs.length * k.n + ys.length * k.n ≤ c * k.n := by
    rw [← Nat.add_mul]
    exact Nat.mul_le_mul_right _ (by simpa using hc)
  have hsc := setCells_size b (cellsL ys) (o + xs.length * k.n) w
  refine g.flight (X' := [_]) ⟨⟨⟨_, c, rfl, hc, cellsL_len fun x hx => (hk x hx).1, fun _ => ⟨b, o, rfl, by rw [hsc]; exact hlt, ?_, fun _ => there_setCells ht⟩⟩, hk, hm'⟩, trivial⟩ ?_ (fun x hx => ?_) (fun x hx => ?_) (fun x hx hx' => ?_) (fun i hi hX => setCells_heap _ _ _ _ _ (fun e => hX (e ▸ hb))) (by rw [hsc]; exact Nat.le_refl _) (setCells_os' _ _ _ _).1 (setCells_os' _ _ _ _).2.1 (setCells_os' _ _ _ _).2.2
  · rw [cellsL_append, rangeAt_append]
    refine ⟨rangeAt_setCells_out hr (.inr (.inl (by rw [hlx]; exact Nat.le_refl _))), ?_⟩
    rw [hlx]
    refine rangeAt_there (there_sub ht (by omega) (by rw [hly]; omega))
  · simp only [ownL, own, Bool.false_eq_true, if_false, List.append_nil, blk_row]
    by_cases hc0 : c = 0
    · simpa [hc0] using (List.nodup_cons.1 hnd).2
    · simpa [hc0] using hnd
  · simp only [ownL, own, Bool.false_eq_true, if_false, List.append_nil, List.mem_append, blk_row] at hx
    rcases hx with hx | hx
    · by_cases hc0 : c = 0
      · simp [hc0] at hx
      · simp [hc0] at hx; subst hx; exact .inl hb
    · exact .inl (ho x hx)
  · simp only [shrL, shr, Bool.false_eq_true, if_false, List.append_nil] at hx
    exact .inl (hs x hx)
  · simp only [shrL, shr, ownL, own, Bool.false_eq_true, if_false, List.append_nil, List.mem_append, blk_row] at hx hx'
    rcases hx' with hx' | hx'
    · by_cases hc0 : c = 0
      · simp [hc0] at hx'
      · simp [hc0] at hx'; subst hx'; exact g.dj.xx x (hs x hx) hb
    · exact g.dj.xx x (hs x hx) (ho x hx')
end Go.Tree

/- Trees of values: what the evaluator says of an operation is so. Sixth part: literals. -/
namespace Go.Tree
set_option linter.unusedSectionVars false
set_option linter.unusedVariables false
set_option linter.unusedSimpArgs false
variable {P : Program} {w0 : World} {F : Fm} {nt : Nat} {H : List Value} {L : List (AV Value)} {XD : List Nat} {X : List LT} {a : Act} {w : World} {α : Type} {res : α}
variable [Pol]
theorem fillT_map {β γ : Type} (f : β → γ) : ∀ (ps : List (Nat × β)) (zs : List β), (fillT zs ps).map f = fillT (zs.map f) (ps.map fun q => (q.1, f q.2))
  | [], zs => rfl
  | (i, t) :: ps, zs => by rw [fillT, fillT_map f ps, List.map_set]; rfl
theorem fillT_len {β : Type} : ∀ (ps : List (Nat × β)) (zs : List β), (fillT zs ps).length = zs.length
  | [], zs => rfl
  | (i, t) :: ps, zs => by rw [fillT, fillT_len ps, List.length_set]
theorem fillT_mem {β : Type} {x : β} : ∀ (ps : List (Nat × β)) (zs : List β), x ∈ fillT zs ps → x ∈ zs ∨ x ∈ ps.map (·.2)
  | [], zs, h => .inl h
  | (i, t) :: ps, zs, h => by
    rcases fillT_mem ps _ h with h | h
    · rcases List.mem_or_eq_of_mem_set h with h | h
      · exact .inl h
      · exact .inr (by simp [h])
    · exact .inr (List.mem_cons_of_mem _ h)
theorem fillT_own : ∀ (ps : List (Nat × LT)) (zs : List LT), (ownL zs ++ ownL (ps.map (·.2))).Nodup → (ownL (fillT zs ps)).Nodup
  | [], zs, h => by simpa [ownL, fillT] using h
  | (i, t) :: ps, zs, h => by
    refine fillT_own ps _ ?_
    rw [List.set_eq_take_append_cons_drop]
    split
    · rename_i hi
      have e : zs = zs.take i ++ zs[i] :: zs.drop (i + 1) := by simp
      rw [e] at h
      simp only [List.map_cons, ownL, ownL_append] at h ⊢
      simp only [List.append_assoc] at h ⊢
      have hp : (ownL (zs.take i) ++ (own zs[i] ++ (ownL (zs.drop (i + 1)) ++ (own t ++ ownL (ps.map (·.2)))))).Perm (own zs[i] ++ (ownL (zs.take i) ++ (own t ++ (ownL (zs.drop (i + 1)) ++ ownL (ps.map (·.2)))))) := by
        refine (List.perm_append_comm_assoc _ _ _).trans (.append_left _ (.append_left _ ?_))
        exact List.perm_append_comm_assoc _ _ _
      exact (List.nodup_append.1 (hp.nodup_iff.1 h)).2.1
    · simp only [List.map_cons, ownL] at h
      rw [← List.append_assoc] at h
      obtain ⟨h1, h2, h3⟩ := List.nodup_append.1 h
      obtain ⟨h4, h5, h6⟩ := List.nodup_append.1 h1
      exact List.nodup_append.2 ⟨h4, h2, fun x hx y hy => h3 x (List.mem_append.2 (.inl hx)) y hy⟩
def len (x : LT) : Nat := (cells x).length
theorem cellsL_sum : ∀ (zs : List LT), (cellsL zs).length = (zs.map len).sum
  | [] => rfl
  | z :: zs => by rw [cellsL, List.length_append, cellsL_sum zs, List.map_cons, List.sum_cons]; rfl
theorem set_len {zs : List LT} {i : Nat} {t : LT} {n : Nat} (h : (zs.map len)[i]? = some n) (ht : len t = n) : (zs.set i t).map len = zs.map len := by
  rw [List.map_set, ht]
  obtain ⟨hi, h⟩ := List.getElem?_eq_some_iff.1 h
  rw [← h, List.set_getElem_self]
theorem fill_ok (place : Nat → Option (Nat × Nat)) (ls : List Nat) : ∀ (ps : List (Nat × LT)) (zs : List LT), zs.map len = ls → (∀ q ∈ ps, place q.1 = some ((ls.take q.1).sum, len q.2) ∧ ls[q.1]? = some (len q.2) ∧ Mem w q.2) →
    Instr.fill place (cellsL zs).toArray (ps.map fun q => (q.1, valOf q.2)) = some (cellsL (fillT zs ps)).toArray ∧ (fillT zs ps).map len = ls
  | [], zs, hz, h => ⟨rfl, hz⟩
  | (i, t) :: ps, zs, hz, h => by
    obtain ⟨h1, h2, h3⟩ := h _ List.mem_cons_self
    have hc := cells_toList h3
    have hi : i < zs.length := by
      obtain ⟨hi, _⟩ := List.getElem?_eq_some_iff.1 h2
      rw [← hz] at hi
      simpa using hi
    have hs : (zs.set i t).map len = ls := by rw [set_len (by rw [hz]; exact h2) rfl, hz]
    have ih := fill_ok place ls ps (zs.set i t) hs (fun q hq => h q (List.mem_cons_of_mem _ hq))
    refine ⟨?_, ih.2⟩
    have hsz : (valOf t).cells.size = len t := by rw [← Array.length_toList, hc]; rfl
    have hoff : ((cellsL (zs.take i)).length) = (ls.take i).sum := by rw [cellsL_sum, ← hz, List.map_take]
    have hdec : cellsL zs = cellsL (zs.take i) ++ (cells zs[i] ++ cellsL (zs.drop (i + 1))) := by
      have e : zs = zs.take i ++ zs[i] :: zs.drop (i + 1) := by simp
      conv => lhs; rw [e]
      rw [cellsL_append]; rfl
    have hlen : (cells zs[i]).length = len t := by
      rw [← hz] at h2
      simp only [List.getElem?_map, List.getElem?_eq_getElem hi, Option.map_some, Option.some.injEq] at h2
      exact h2
    have htot : ¬ ((valOf t).cells.size ≠ len t || decide ((ls.take i).sum + (valOf t).cells.size > (cellsL zs).toArray.size)) = true := by
      simp only [hsz, List.size_toArray, hdec, List.length_append, hoff, hlen]
      simp
    have hnew : ((valOf t).cells.zipIdx.foldl (fun cs (x : Value × Nat) => cs.setIfInBounds ((ls.take i).sum + x.2) x.1) (cellsL zs).toArray) = (cellsL (zs.set i t)).toArray := by
      have hz2 : (valOf t).cells.zipIdx = ((cells t).zipIdx 0).toArray := by
        rw [← hc, ← Array.toList_zipIdx, Array.toArray_toList]
      rw [hz2, List.foldl_toArray]
      obtain ⟨k1, k2⟩ := Go.Great.foldl_set (ls.take i).sum (cells t) 0 (cellsL zs).toArray
      refine Array.ext_getElem? fun j => ?_
      rw [k2 j, List.set_eq_take_append_cons_drop, if_pos hi, cellsL_append, cellsL]
      have e2 : (cellsL zs).toArray[j]? = (cellsL (zs.take i) ++ (cells zs[i] ++ cellsL (zs.drop (i + 1))))[j]? := by rw [List.getElem?_toArray, hdec]
      have e3 : (cellsL zs).toArray.size = (ls.take i).sum + len t + (cellsL (zs.drop (i + 1))).length := by
        rw [List.size_toArray, hdec, List.length_append, List.length_append, hoff, hlen]; omega
      rw [e2, e3, List.getElem?_toArray]
      have hlt : (cells t).length = len t := rfl
      by_cases c1 : j < (ls.take i).sum
      · rw [if_neg (by omega), List.getElem?_append_left (by omega), List.getElem?_append_left (by omega)]
      · have app : ∀ B : List Value, (cellsL (zs.take i) ++ B)[j]? = B[j - (ls.take i).sum]? := fun B => by rw [List.getElem?_append_right (by omega), hoff]
        rw [app, app]
        by_cases c2 : j < (ls.take i).sum + len t
        · rw [if_pos (by omega), List.getElem?_append_left (by omega)]; rfl
        · have h5 : (cells zs[i] ++ cellsL (zs.drop (i + 1)))[j - (ls.take i).sum]? = (cellsL (zs.drop (i + 1)))[j - (ls.take i).sum - len t]? := by
            rw [List.getElem?_append_right (by omega), hlen]
          have h6 : (cells t ++ cellsL (zs.drop (i + 1)))[j - (ls.take i).sum]? = (cellsL (zs.drop (i + 1)))[j - (ls.take i).sum - len t]? := by
            rw [List.getElem?_append_right (by omega)]; rfl
          rw [if_neg (by omega), h5, h6]
    simp only [List.map_cons, Instr.fill, h1]
    rw [if_neg htot]
    rw [hnew]
    exact ih.1
/-- Operands are taken out, one after the other. -/
theorem takeAll_ok : ∀ (ps : List (TypeId × Operand)) {XD : List Nat} {X : List LT} {L : List (AV Value)} (g : G P w0 F nt H L XD X a w) {K : List Nat → List TV → Env → Option α}, ps.all (fun q => fitO nt q.2) = true → takeAll P XD (L.map erA) ps K = some res →
    ∃ D Ts L', K D (Ts.map er) (L'.map erA) = some res ∧ G P w0 F nt H L' D (X ++ Ts) a w ∧ ps.map (fun q => a.eval q.2) = Ts.map valOf
  | [], XD, X, L, g, K, _, h => ⟨XD, [], L, h, by simpa using g, rfl⟩
  | (ty, x) :: ps, XD, X, L, g, K, hf, h => by
    simp only [takeAll] at h
    cases hb : XD.any (rootOf (L.map erA) x) with
    | true => rw [hb] at h; cases h
    | false =>
      rw [hb] at h
      simp only [List.all_cons, Bool.and_eq_true] at hf
      obtain ⟨D, T, L1, h, g1, hv⟩ := takeO_ok g hf.1 (fun s hs => rootOf_spec hs hb) h
      obtain ⟨D2, Ts, L2, h, g2, hvs⟩ := takeAll_ok ps g1 hf.2 h
      exact ⟨D2, T :: Ts, L2, by rw [List.map_cons]; exact h, by simpa using g2, by rw [List.map_cons, List.map_cons, hvs, hv]⟩
end Go.Tree

/- Trees of values: what the evaluator says of an operation is so. Seventh part: literals, makes, append. -/
namespace Go.Tree
set_option linter.unusedSectionVars false
set_option linter.unusedVariables false
set_option linter.unusedSimpArgs false
variable {P : Program} {w0 : World} {F : Fm} {nt : Nat} {H : List Value} {L : List (AV Value)} {XD : List Nat} {X : List LT} {a : Act} {w : World} {α : Type} {res : α}
variable [Pol]
theorem places_ok : ∀ (fs : List Field), fs.all (fun f => (P.info? f.type).isSome) = true → fs.mapM (fun f => (P.info? f.type).map fun i => (f.offset, i.size)) = some (fs.map fun f => (f.offset, P.cellsOf f.type))
  | [], _ => rfl
  | f :: fs, h => by
    simp only [List.all_cons, Bool.and_eq_true] at h
    obtain ⟨i, hi⟩ := Option.isSome_iff_exists.1 h.1
    rw [List.mapM_cons, places_ok fs h.2, hi]
    simp [Program.cellsOf, hi]
theorem zeroT_ok {ty : TypeId} {t : TV} (h : zeroT P ty = some t) : ∃ i z T, P.info? ty = some i ∧ i.zero = some z ∧ er T = t ∧ valOf T = z ∧ Mem w T ∧ all T = [] := by
  unfold zeroT at h
  obtain ⟨z, h1, h2⟩ := Option.bind_eq_some_iff.1 h
  obtain ⟨i, h3, h4⟩ := Option.bind_eq_some_iff.1 h1
  obtain ⟨T, h5, h6, h7, h8⟩ := constT_ok (w := w) h2
  exact ⟨i, z, T, h3, h4, h5, h6, h7, h8⟩
theorem zip_parts {parts : Array (Nat × Operand)} {ρ : Operand → Value} {Ts : List LT} {g : Nat × Operand → TypeId} (h : (parts.toList.map fun q => (g q, q.2)).map (fun q => ρ q.2) = Ts.map valOf) :
    (parts.map fun (i, x) => (i, ρ x)).toList = ((parts.toList.map (·.1)).zip Ts).map fun q => (q.1, valOf q.2) := by
  rw [Array.toList_map]
  simp only [List.map_map] at h
  generalize parts.toList = ps at *
  induction ps generalizing Ts with
  | nil => rfl
  | cons p ps ih =>
    cases Ts with
    | nil => cases h
    | cons T Ts =>
      simp only [List.map_cons, List.cons.injEq, Function.comp] at h
      simp only [List.map_cons, List.zip_cons_cons, ih h.2]
      rw [← h.1]
theorem len_er (T : LT) : csz (er T) = len T := csz_er T
theorem all_nilL {Ts : List LT} (h : ∀ x ∈ Ts, all x = []) : ownL Ts = [] ∧ shrL Ts = [] := by
  constructor
  · rw [ownL_eq]; exact List.flatMap_eq_nil_iff.2 fun x hx => (noall (h x hx)).1
  · rw [shrL_eq]; exact List.flatMap_eq_nil_iff.2 fun x hx => (noall (h x hx)).2
/-- Trees that have been taken out are put into a list that leads to no memory. -/
theorem filled {is : List Nat} {Ts Zs : List LT} (g : G P w0 F nt H L XD Ts a w) (hl : Ts.length ≤ is.length) (hz : ∀ x ∈ Zs, all x = []) (hm : MemL w Zs) : G P w0 F nt H L XD (fillT Zs (is.zip Ts)) a w := by
  have hsnd : (is.zip Ts).map (·.2) = Ts := List.map_snd_zip hl
  obtain ⟨h1, h2⟩ := all_nilL hz
  refine g.swap (memL_iff.2 fun x hx => ?_) (fillT_own _ _ (by rw [h1, hsnd]; exact g.dj.xn)) (fun b hb => ?_) (fun b hb => ?_)
  · rcases fillT_mem _ _ hx with h | h
    · exact memL_iff.1 hm x h
    · rw [hsnd] at h; exact memL_iff.1 g.memX x h
  · rw [ownL_eq] at hb
    obtain ⟨x, hx, hb⟩ := List.mem_flatMap.1 hb
    rcases fillT_mem _ _ hx with h | h
    · rw [(noall (hz x h)).1] at hb; cases hb
    · rw [hsnd] at h; exact ownL_mem h b hb
  · rw [shrL_eq] at hb
    obtain ⟨x, hx, hb⟩ := List.mem_flatMap.1 hb
    rcases fillT_mem _ _ hx with h | h
    · rw [(noall (hz x h)).2] at hb; cases hb
    · rw [hsnd] at h; exact shrL_mem h b hb
theorem zip_er (is : List Nat) (Ts : List LT) : is.zip (Ts.map er) = (is.zip Ts).map fun q => (q.1, er q.2) := by
  rw [List.zip_map_right]; rfl
/-- A struct is built. -/
theorem build_ok (g : G P w0 F nt H L [] [] a w) {d : Option Tmp} (hd : fitD nt d = true) {t : TypeId} {parts : Array (Nat × Operand)} {ty : Nat × Operand → TypeId} (hf : parts.toList.all (fun q => fitO nt q.2) = true) {fs : Array Field} {zs : List TV} (hu : P.underlying t = some (.struct fs)) (hz : zeroT P t = some (.st zs)) {K : Env → Option α}
    (h : takeAll P [] (L.map erA) (parts.toList.map fun q => (ty q, q.2)) (fun deps ts env => bif fs.toList.all (fun f => (P.info? f.type).isSome) && ((parts.toList.map (·.1)).zip ts).all fun q => fieldOk P t q.1 zs && csz q.2 == csz (zs.getD q.1 (.dead ())) && (fs[q.1]?).any fun f => P.cellsOf f.type == csz q.2 then
          K (putD env d (.val deps (.st (fillT zs ((parts.toList.map (·.1)).zip ts))))) else none) = some res) :
    ∃ v, (Instr.build t (parts.map fun (i, x) => (i, a.eval x))).run P w = .ok v w ∧ Nxt P w0 F nt H K res (a.put d v) w := by
  obtain ⟨i, z, Z, hi, hiz, eZ, vZ, hmZ, haZ⟩ := zeroT_ok (w := w) hz
  obtain ⟨Zs, rfl, rfl⟩ := er_st_inv eZ
  obtain ⟨D, Ts, L', h, g', hv⟩ := takeAll_ok _ g (by simpa using hf) h
  rw [List.nil_append] at g'
  generalize hps : (parts.toList.map (·.1)).zip Ts = ps at *
  have hlen : Ts.length ≤ (parts.toList.map (·.1)).length := by
    have := congrArg List.length hv
    simp at this
    simp [this]
  cases hb : (fs.toList.all (fun f => (P.info? f.type).isSome) && ((parts.toList.map (·.1)).zip (Ts.map er)).all fun q => fieldOk P t q.1 (Zs.map er) && csz q.2 == csz ((Zs.map er).getD q.1 (.dead ())) && (fs[q.1]?).any fun f => P.cellsOf f.type == csz q.2) with
  | false => rw [hb] at h; cases h
  | true =>
    rw [hb] at h
    rw [zip_er, hps] at h hb
    simp only [Bool.and_eq_true] at hb
    have hmT : ∀ q ∈ ps, Mem w q.2 := fun q hq => memL_iff.1 g'.memX q.2 (by rw [← hps] at hq; exact (List.of_mem_zip hq).2)
    obtain ⟨k1, k2⟩ := fill_ok (w := w) (fun x => (fs.toList.map fun f => (f.offset, P.cellsOf f.type)).toArray[x]?) (Zs.map len) ps Zs rfl (fun q hq => by
      have := List.all_eq_true.1 hb.2 (q.1, er q.2) (List.mem_map.2 ⟨q, hq, rfl⟩)
      simp only [Bool.and_eq_true, beq_iff_eq, len_er, getD_er] at this
      obtain ⟨⟨h1, h2⟩, h3⟩ := this
      obtain ⟨h4, h5⟩ := fieldOk_spec h1
      simp only [offs, hu] at h5
      obtain ⟨fd, hfd, h5⟩ := Option.bind_eq_some_iff.1 h5
      split at h5
      · cases h5
      · simp only [Option.some.injEq] at h5
        rw [hfd] at h3
        simp only [Option.any_some, beq_iff_eq] at h3
        refine ⟨?_, ?_, hmT q hq⟩
        · have : fs.toList[q.1]? = some fd := by simpa using hfd
          simp [this, h3, h5, cellsL_sum, List.map_take]
        · rw [List.getElem?_map, List.getElem?_eq_getElem h4, Option.map_some, h2]
          simp [len, h4])
    refine ⟨.agg (cellsL (fillT Zs ps)).toArray, run_build w t _ _ ?_, ?_⟩
    · rw [zip_parts hv, hps]
      unfold Program.built
      simp only [hi, hu, hiz, places_ok _ hb.1]
      rw [← vZ]
      exact k1
    · have g2 := filled (is := parts.toList.map (·.1)) g' hlen (Zs := Zs) (fun x hx => List.eq_nil_iff_forall_not_mem.2 fun b hb' => by
        have : b ∈ all (.st Zs : LT) := allL_mem hx b hb'
        rw [haZ] at this; cases this) hmZ
      rw [hps] at g2
      have g3 : G P w0 F nt H L' D [.st (fillT Zs ps)] a w := g2.swap ⟨g2.memX, trivial⟩ (by simpa [ownL, own] using g2.dj.xn) (fun b hb => by simpa [ownL, own] using hb) (fun b hb => by simpa [shrL, shr] using hb)
      refine landT g3 hd rfl ?_
      rw [er_st, fillT_map]
      exact h
theorem repl_get {Z : LT} {s : Nat} (hs : len Z = s) (h0 : s ≠ 0) : ∀ n j, (cellsL (List.replicate n Z))[j]? = if j < n * s then (cells Z)[j % s]? else none
  | 0, j => by simp [cellsL]
  | n + 1, j => by
    have hs' : (cells Z).length = s := hs
    rw [List.replicate_succ, cellsL]
    by_cases c : j < s
    · rw [List.getElem?_append_left (by omega), Nat.mod_eq_of_lt c, if_pos (by rw [Nat.add_mul]; omega)]
    · have hm : j % s = (j - s) % s := Nat.mod_eq_sub_mod (by omega)
      rw [List.getElem?_append_right (by omega), repl_get hs h0 n, hs', hm]
      have : (j - s < n * s) ↔ (j < (n + 1) * s) := by rw [Nat.add_mul]; omega
      simp only [this]
theorem made_repl {Z : LT} {s : Nat} (hs : len Z = s) (h0 : s ≠ 0) (n : Nat) : (Array.range (n * s)).map ((cells Z).toArray[· % (cells Z).toArray.size]!) = (cellsL (List.replicate n Z)).toArray := by
  have hs' : (cells Z).length = s := hs
  refine Array.ext_getElem? fun j => ?_
  have e1 : (cellsL (List.replicate n Z)).toArray[j]? = (cellsL (List.replicate n Z))[j]? := List.getElem?_toArray ..
  rw [e1, repl_get hs h0]
  simp only [Array.getElem?_map, Array.getElem?_range, List.size_toArray, hs']
  split
  · have hj : j % s < (cells Z).length := by rw [hs']; exact Nat.mod_lt _ (Nat.pos_of_ne_zero h0)
    simp [hj]
  · rfl
theorem memL_repl {Z : LT} (h : Mem w Z) (n : Nat) : MemL w (List.replicate n Z) := memL_iff.2 fun x hx => by rw [(List.mem_replicate.1 hx).2]; exact h
/-- A slice is built. -/
theorem buildSlice_ok (g : G P w0 F nt H L [] [] a w) {d : Option Tmp} (hd : fitD nt d = true) {t e : TypeId} {n : Nat} {parts : Array (Nat × Operand)} (hf : parts.toList.all (fun q => fitO nt q.2) = true) {z : TV} (hu : P.underlying t = some (.slice e)) (hz : zeroT P e = some z) {K : Env → Option α}
    (h : (if n * P.cellsOf e ≤ 16777216 ∧ P.cellsOf e ≠ 0 ∧ csz z = P.cellsOf e then takeAll P [] (L.map erA) (parts.toList.map fun q => (e, q.2)) (fun deps ts env => bif ((parts.toList.map (·.1)).zip ts).all fun q => decide (q.1 < n) && csz q.2 == P.cellsOf e && ((ekOf P e).m || noMem q.2) then
          K (putD env d (.val deps (.sl false (ekOf P e) () (fillT (List.replicate n z) ((parts.toList.map (·.1)).zip ts))))) else none) else none) = some res) :
    ∃ v w', (Instr.buildSlice t n (parts.map fun (i, x) => (i, a.eval x))).run P w = .ok v w' ∧ Nxt P w0 F nt H K res (a.put d v) w' := by
  obtain ⟨i, zv, Z, hi, hiz, rfl, vZ, hmZ, haZ⟩ := zeroT_ok (w := w) hz
  split at h
  · rename_i hc
    obtain ⟨hc1, hc0, hcz⟩ := hc
    rw [len_er] at hcz
    have hsz : i.size = P.cellsOf e := by simp [Program.cellsOf, hi]
    obtain ⟨D, Ts, L', h, g', hv⟩ := takeAll_ok _ g (by simpa using hf) h
    rw [List.nil_append] at g'
    have hlen : Ts.length = (parts.toList.map (·.1)).length := by
      have := congrArg List.length hv
      simp at this
      simp [this]
    rw [zip_er] at h
    have hzp := zip_parts hv
    generalize hps : (parts.toList.map (·.1)).zip Ts = ps at *
    cases hb : ((ps.map fun q => (q.1, er q.2)).all fun q => decide (q.1 < n) && csz q.2 == P.cellsOf e && ((ekOf P e).m || noMem q.2)) with
    | false => rw [hb] at h; cases h
    | true =>
      rw [hb] at h
      have hq : ∀ q ∈ ps, q.1 < n ∧ len q.2 = P.cellsOf e ∧ ((ekOf P e).m = false → all q.2 = []) := fun q hq => by
        have := List.all_eq_true.1 hb (q.1, er q.2) (List.mem_map.2 ⟨q, hq, rfl⟩)
        simp only [Bool.and_eq_true, decide_eq_true_eq, beq_iff_eq, len_er] at this
        refine ⟨this.1.1, this.1.2, fun hm => noMem_all _ ?_⟩
        have h3 := this.2
        rw [hm] at h3
        simpa using h3
      have hmT : ∀ q ∈ ps, Mem w q.2 := fun q hq => memL_iff.1 g'.memX q.2 (by rw [← hps] at hq; exact (List.of_mem_zip hq).2)
      obtain ⟨k1, k2⟩ := fill_ok (w := w) (fun j => some (j * P.cellsOf e, P.cellsOf e)) (List.replicate n (P.cellsOf e)) ps (List.replicate n Z) (by rw [List.map_replicate, hcz]) (fun q hq' => by
        obtain ⟨h1, h2, _⟩ := hq q hq'
        refine ⟨?_, by rw [h2]; simp [h1], hmT q hq'⟩
        rw [h2, List.take_replicate, List.sum_replicate_nat, Nat.min_eq_left (by omega)])
      have g2 := filled (is := parts.toList.map (·.1)) g' (by omega) (Zs := List.replicate n Z) (fun x hx => by rw [(List.mem_replicate.1 hx).2]; exact haZ) (memL_repl hmZ n)
      rw [hps] at g2
      have hfl : (fillT (List.replicate n Z) ps).length = n := by rw [fillT_len]; simp
      have hk : ∀ x ∈ fillT (List.replicate n Z) ps, (cells x).length = (ekOf P e).n ∧ ((ekOf P e).m = false → all x = []) := fun x hx => by
        constructor
        · have : len x ∈ (fillT (List.replicate n Z) ps).map len := List.mem_map.2 ⟨x, hx, rfl⟩
          rw [k2] at this
          exact (List.mem_replicate.1 this).2
        · intro hm
          rcases fillT_mem _ _ hx with h' | h'
          · rw [(List.mem_replicate.1 h').2]; exact haZ
          · obtain ⟨q, hq', rfl⟩ := List.mem_map.1 h'
            exact (hq q hq').2.2 hm
      have g3 := rowed (w1 := w) (rest := []) (c := n) (e := e) g2 rfl rfl rfl rfl hk (by omega) (by rw [List.append_nil, cellsL_len fun x hx => (hk x hx).1, hfl])
      rw [List.append_nil, hfl] at g3
      refine ⟨.slice (some ⟨w.heap.size, 0, none⟩) n n, w.alloc (.cells (cellsL (fillT (List.replicate n Z) ps)).toArray e), ?_, landT g3 hd rfl ?_⟩
      · have hzc : zv.cells = (cells Z).toArray := by rw [← vZ, ← cells_toList hmZ]
        by_cases hn : n = 0
        · subst hn
          have hps0 : ps = [] := List.eq_nil_iff_forall_not_mem.2 fun q hq' => by have := (hq q hq').1; omega
          have hp0 : (parts.map fun (i, x) => (i, a.eval x)).toList = [] := by rw [hzp, hps0]; rfl
          have hp1 : (parts.map fun (i, x) => (i, a.eval x)) = #[] := by simpa using hp0
          rw [hp1]
          subst hps0
          simp [Instr.buildSlice, run_underlying hu, sizeOf, typeInfo, hi, newRow, Instr.fill, fillT, cellsL, Array.range_zero']
        · refine run_buildSlice w t e n _ _ i zv hu hi hiz (by rw [hsz]; omega) (by rw [hsz]; exact Nat.mul_ne_zero hn hc0) ?_
          rw [hzp, hsz, hzc, made_repl hcz hc0]
          exact k1
      · rw [er_sl, fillT_map, List.map_replicate]
        exact h
  · cases h
/-- A slice is made. -/
theorem makeSlice_ok (g : G P w0 F nt H L [] [] a w) {d : Option Tmp} (hd : fitD nt d = true) {t e : TypeId} {kl kc : IntKind} {l c : Int} {z : TV} (hu : P.underlying t = some (.slice e)) (hz : zeroT P e = some z) {K : Env → Option α}
    (h : (bif decide (0 ≤ l) && decide (l ≤ c) && decide (c * bytesOf P e < lim) && decide (c < 9223372036854775807) && decide (P.cellsOf e ≠ 0) && csz z == P.cellsOf e then K (putD (L.map erA) d (.val [] (.sl false (ekOf P e) () (List.replicate l.toNat z)))) else none) = some res) :
    ∃ v w', (Instr.makeSlice t (.int kl l) (.int kc c)).run P w = .ok v w' ∧ Nxt P w0 F nt H K res (a.put d v) w' := by
  obtain ⟨i, zv, Z, hi, hiz, rfl, vZ, hmZ, haZ⟩ := zeroT_ok (w := w) hz
  cases hb : (decide (0 ≤ l) && decide (l ≤ c) && decide (c * bytesOf P e < lim) && decide (c < 9223372036854775807) && decide (P.cellsOf e ≠ 0) && csz (er Z) == P.cellsOf e) with
  | false => rw [hb] at h; cases h
  | true =>
    rw [hb] at h
    simp only [Bool.and_eq_true, decide_eq_true_eq, beq_iff_eq, len_er] at hb
    obtain ⟨⟨⟨⟨⟨b1, b2⟩, b3⟩, b4⟩, b5⟩, b6⟩ := hb
    have hsz : i.size = P.cellsOf e := by simp [Program.cellsOf, hi]
    have hby : bytesOf P e = i.bytes := by simp [bytesOf, hi]
    have hzc : zv.cells = (cells Z).toArray := by rw [← vZ, ← cells_toList hmZ]
    have g0 : G P w0 F nt H L [] (List.replicate l.toNat Z) a w := by
      obtain ⟨h1, h2⟩ := all_nilL (Ts := List.replicate l.toNat Z) fun x hx => by rw [(List.mem_replicate.1 hx).2]; exact haZ
      exact g.swap (memL_repl hmZ _) (by rw [h1]; exact List.nodup_nil) (fun b hb => by rw [h1] at hb; cases hb) (fun b hb => by rw [h2] at hb; cases hb)
    have hsplit : cellsL (List.replicate c.toNat Z) = cellsL (List.replicate l.toNat Z) ++ cellsL (List.replicate (c.toNat - l.toNat) Z) := by
      rw [← cellsL_append, List.replicate_append_replicate]
      congr 2
      omega
    have hcl : (cellsL (List.replicate c.toNat Z)).length = c.toNat * P.cellsOf e := by
      rw [cellsL_len (k := P.cellsOf e) fun x hx => by rw [(List.mem_replicate.1 hx).2]; exact b6, List.length_replicate]
    have g3 := rowed (w1 := w) (rest := cellsL (List.replicate (c.toNat - l.toNat) Z)) (c := c.toNat) (e := e) (k := ekOf P e) g0 rfl rfl rfl rfl (fun x hx => by rw [(List.mem_replicate.1 hx).2]; exact ⟨b6, fun _ => haZ⟩) (by simp; omega) (by rw [← hsplit]; exact hcl)
    rw [← hsplit] at g3
    rw [List.length_replicate] at g3
    have b3' : (i.bytes : Int) * c ≤ 281474976710656 := by
      rw [hby, Int.mul_comm] at b3
      have : (lim : Int) = 140737488355328 := rfl
      omega
    have hrun := run_make w t e i zv hu hi hiz kl kc l c b1 b2 b3' (by omega)
    rw [show madeCells zv.cells (c.toNat * i.size) = (cellsL (List.replicate c.toNat Z)).toArray by rw [hzc, hsz]; exact made_repl b6 b5 _] at hrun
    refine ⟨_, _, hrun, landT g3 hd rfl ?_⟩
    rw [er_sl, List.map_replicate]
    exact h
end Go.Tree

/- Trees of values: what the evaluator says of an operation is so. Eighth part: append. -/
namespace Go.Tree
set_option linter.unusedSectionVars false
set_option linter.unusedVariables false
set_option linter.unusedSimpArgs false
variable {P : Program} {w0 : World} {F : Fm} {nt : Nat} {H : List Value} {L : List (AV Value)} {XD : List Nat} {X : List LT} {a : Act} {w : World} {α : Type} {res : α}
variable [Pol]
theorem rowOk_spec {e : TypeId} (h : rowOk P e = true) : ∃ i z, P.info? e = some i ∧ i.zero = some z ∧ i.size = P.cellsOf e ∧ P.cellsOf e ≠ 0 ∧ i.bytes ≠ 0 ∧ z.cells.size = i.size ∧ bytesOf P e = i.bytes := by
  unfold rowOk at h
  cases hi : P.info? e with
  | none => rw [hi] at h; cases h
  | some i =>
    rw [hi] at h
    simp only [Option.any_some, Bool.and_eq_true, bne_iff_ne] at h
    obtain ⟨⟨h1, h2⟩, h3⟩ := h
    cases hz : i.zero with
    | none => rw [hz] at h3; cases h3
    | some z =>
      rw [hz] at h3
      have : P.cellsOf e = i.size := by simp [Program.cellsOf, hi]
      exact ⟨i, z, rfl, hz, this.symm, by rw [this]; exact h1, h2, by simpa using h3, by simp [bytesOf, hi]⟩
/-- What a slice yields. -/
theorem src_ok {ro : Bool} {k : Ek} {hd : Value} {xs : List LT} (hm : Mem w (.sl ro k hd xs)) {tx e' : TypeId} (hu : P.underlying tx = some (.slice e')) : Src P k.n tx hd xs.length (cellsL xs) w := by
  obtain ⟨⟨A, c, rfl, hc, hl, hx⟩, hk, hmx⟩ := hm
  have h1 := cellsL_one' xs hmx
  by_cases h0 : c = 0
  · have hx0 : xs = [] := List.length_eq_zero_iff.1 (by omega)
    subst hx0
    cases A with
    | none => exact Src.ofNil w hu c
    | some ad => exact Src.ofSlice w hu ad 0 c [] (by simp) (fun j u h => by cases h) (fun u h => by cases h)
  · obtain ⟨b, o, rfl, _, hr, _⟩ := hx h0
    exact Src.ofSlice w hu _ _ c _ hl (fun j u h => by rw [Addr.add_mid]; exact hr j u h) h1
/-- What is appended: so many cells, however they are told. -/
structure App (P : Program) (t tx ty e : TypeId) (i : TypeInfo) (x : Value) (n : Nat) (news : List Value) (w : World) : Prop where
  none : n = 0 → ∀ A, (Builtin.append_ #[t, tx] ty #[.slice A 0 0, x]).run P w = .ok (.slice A 0 0) w
  room : ∀ b off sLen sCap, sLen + n ≤ sCap → (∀ j, j < news.length → (w.cell? ⟨b, off + sLen * i.size + j, Option.none⟩).isSome = true) → (∀ j, j < news.length → w.frozen? ⟨b, off + sLen * i.size + j, Option.none⟩ = false) →
    (Builtin.append_ #[t, tx] ty #[.slice (some ⟨b, off, Option.none⟩) sLen sCap, x]).run P w = .ok (.slice (some ⟨b, off, Option.none⟩) (sLen + n) sCap) (w.setCells b (off + sLen * i.size) news)
  grow : ∀ (z : Value) (base : Option Addr) (sLen sCap : Nat) (olds : List Value), i.zero = some z → (Builtin.firstCells i.size sLen (.slice base sLen sCap)).run P w.drew = .ok olds.toArray w.drew → sCap < sLen + n → ((sLen + n : Nat) : Int) ≤ 9223372036854775807 → Builtin.nextslicecap (sLen + n) sCap * i.bytes ≤ 281474976710656 →
    (Builtin.append_ #[t, tx] ty #[.slice base sLen sCap, x]).run P w = .ok (.slice (some ⟨w.heap.size, 0, Option.none⟩) (sLen + n) (grownCap w (sLen + n) sCap e)) (w.drew.alloc (.cells ((olds ++ news).toArray ++ Builtin.zeroCells z.cells (grownCap w (sLen + n) sCap e - (sLen + n))) e))
theorem App.ofSrc {t tx ty e : TypeId} {i : TypeInfo} (ht : P.underlying t = some (.slice e)) (hi : P.info? e = some i) {x : Value} {n : Nat} {news : List Value} (hs : Src P i.size tx x n news w) : App P t tx ty e i x n news w := by
  refine ⟨fun h0 A => ?_, fun b off sLen sCap h1 h2 h3 => run_append_room_src w t tx ty e i ht hi b off sLen sCap x n news hs h1 h2 h3, fun z base sLen sCap olds hz ho h1 h2 h3 => run_append_grow_src w t tx ty e i z ht hi hz base sLen sCap olds ho x n news hs h1 h2 h3⟩
  subst h0
  have hl : news = [] := List.length_eq_zero_iff.1 (by rw [hs.newsLen, Nat.zero_mul])
  subst hl
  rcases hs.kind with ⟨e', hk⟩ | hk <;> cases A <;> simp [Builtin.append_, run_underlying ht, run_underlying hk, sizeOf, typeInfo, hi, hs.len, hs.cells, storeCells]
theorem zeroCells_none (z : Array Value) : Builtin.zeroCells z 0 = #[] := by simp [Builtin.zeroCells]
theorem App.zeros {t tx ty e : TypeId} {i : TypeInfo} {z : Value} {kx : IntKind} (ht : P.underlying t = some (.slice e)) (hx : P.underlying tx = some (.int kx)) (hi : P.info? e = some i) (hz : i.zero = some z) (h0 : i.size ≠ 0) {k : IntKind} {l : Int} (hl : 0 ≤ l) (hb : l * i.bytes < 140737488355328) (hb0 : i.bytes ≠ 0) (hone : ∀ u ∈ (Builtin.zeroCells z.cells l.toNat).toList, u.oneCell' = true) :
    App P t tx ty e i (.int k l) l.toNat (Builtin.zeroCells z.cells l.toNat).toList w := by
  have hle : l ≤ l * i.bytes := by
    have := Int.mul_le_mul_of_nonneg_left (show (1 : Int) ≤ i.bytes by omega) hl
    omega
  have hw : IntKind.i64.wrap l = l := by rw [IntKind.wrap_i64]; omega
  have has : ∀ w' : World, (asInt (.int k l)).run P w' = .ok l w' := fun w' => by simp [asInt, asIntOf]
  have h48 : ¬ 281474976710656 < l * (i.bytes : Int) := by omega
  have hneg : ¬ l < 0 := by omega
  refine ⟨fun hn A => ?_, fun b off sLen sCap h1 h2 h3 => ?_, fun z' base sLen sCap olds hz' ho h1 h2 h3 => ?_⟩
  · have hz0 : Builtin.zeroCells z.cells l.toNat = #[] := by rw [hn]; exact zeroCells_none _
    have hl0 : l = 0 := by omega
    subst hl0
    have hz1 : Builtin.zeroCells z.cells 0 = #[] := zeroCells_none _
    cases A <;> simp [Builtin.append_, run_underlying ht, run_underlying hx, sizeOf, typeInfo, hi, storeCells, has, hw, hz1]
  · have hst := run_storeCells_cells (P := P) b (off + sLen * i.size) (Builtin.zeroCells z.cells l.toNat).toList 0 w (by simpa using h2) (by simpa using h3) hone
    simp only [Nat.add_zero] at hst
    by_cases hn : l.toNat = 0
    · have hz0 : Builtin.zeroCells z.cells l.toNat = #[] := by rw [hn]; exact zeroCells_none _
      rw [hz0] at hst
      simp [Builtin.append_, run_underlying ht, run_underlying hx, sizeOf, typeInfo, hi, has, hw, h48, hneg, h1, hn, hz0, Addr.add_lit, hst] at hst ⊢
      simp [hn] at h1
      simp [h1, zeroCells_none]
    · have hm : ¬ (l.toNat * i.size = 0) := Nat.mul_ne_zero hn h0
      simp [Builtin.append_, run_underlying ht, run_underlying hx, sizeOf, typeInfo, hi, has, hw, h48, hneg, h1, zeroValue, hz, hm, Addr.add_lit, hst]
  · have hzz : z' = z := by rw [hz] at hz'; exact (Option.some.inj hz').symm
    subst hzz
    have hn : ¬ (sLen + l.toNat ≤ sCap) := by omega
    have h63' : ¬ (9223372036854775807 < ((sLen : Int) + (l.toNat : Int))) := by omega
    have h48' : ¬ (281474976710656 < Builtin.nextslicecap (sLen + l.toNat) sCap * i.bytes) := by omega
    by_cases hn0 : l.toNat = 0
    · have hl0 : l = 0 := by omega
      subst hl0
      have e0 : (0 : Int).toNat = 0 := rfl
      have hz0 : Builtin.zeroCells z'.cells 0 = #[] := zeroCells_none _
      have h63'' : ¬ (9223372036854775807 < (sLen : Int)) := by omega
      simp only [e0, Nat.add_zero] at hn h48' ⊢
      simp [Builtin.append_, run_underlying ht, run_underlying hx, sizeOf, typeInfo, zeroValue, hi, hz, has, hw, hn, h63'', h48', Question.forced, ho, newRow, grownCap, hz0]
    · have hm : ¬ (l.toNat * i.size = 0) := Nat.mul_ne_zero hn0 h0
      have h63'' : ¬ (9223372036854775807 < (sLen : Int) + max l 0) := by omega
      simp [Builtin.append_, run_underlying ht, run_underlying hx, sizeOf, typeInfo, zeroValue, hi, hz, has, hw, h48, hneg, hn, h63'', h48', hm, Question.forced, ho, newRow, grownCap]
      try (congr 2; apply Array.ext'; simp [List.append_assoc])
theorem append_coreA {D : List Nat} (g : G P w0 F nt H L D X a w) {t tx ty e : TypeId} (ht : P.underlying t = some (.slice e)) (hrow : rowOk P e = true) {xs ys : List LT} {hd vx : Value} (hmT : Mem w (.sl false (ekOf P e) hd xs)) (hmY : MemL w ys)
    (hky : ∀ x ∈ ys, (cells x).length = (ekOf P e).n ∧ ((ekOf P e).m = false → all x = [])) (hsub : ∀ b ∈ blk hd ++ ownL (xs ++ ys), b ∈ ownL X) (hnd : (blk hd ++ ownL (xs ++ ys)).Nodup) (hss : ∀ b ∈ shrL (xs ++ ys), b ∈ shrL X)
    (hS : ∀ i, P.info? e = some i → App P t tx ty e i vx ys.length (cellsL ys) w) (hlim : (xs.length + ys.length) * bytesOf P e < lim) :
    ∃ w' T', (Builtin.append_ #[t, tx] ty #[hd, vx]).run P w = .ok (valOf T') w' ∧ G P w0 F nt H L D [T'] a w' ∧ er T' = .sl false (ekOf P e) () ((xs ++ ys).map er) := by
  obtain ⟨i, z, hi, hz, hsz, h0, hb0, hzs, hby⟩ := rowOk_spec hrow
  have hS0 := src_ok (P := P) hmT ht
  obtain ⟨⟨A, c, rfl, hc, hl, hx⟩, hkx, hmx⟩ := hmT
  have hk : ∀ x ∈ xs ++ ys, (cells x).length = (ekOf P e).n ∧ ((ekOf P e).m = false → all x = []) := fun x hx => (List.mem_append.1 hx).elim (hkx x) (hky x)
  have hm : MemL w (xs ++ ys) := memL_iff.2 fun x hx => (List.mem_append.1 hx).elim (memL_iff.1 hmx x) (memL_iff.1 hmY x)
  have hn : (ekOf P e).n = P.cellsOf e := rfl
  by_cases hroom : xs.length + ys.length ≤ c
  · by_cases hc0 : c = 0
    · have hx0 : xs = [] := List.length_eq_zero_iff.1 (by omega)
      have hy0 : ys = [] := List.length_eq_zero_iff.1 (by omega)
      subst hx0 hy0 hc0
      refine ⟨w, .sl false (ekOf P e) (.slice A 0 0) [], (hS i hi).none rfl A, ?_, by rw [er_sl]; rfl⟩
      have hb : own (.sl false (ekOf P e) (.slice A 0 0) [] : LT) = [] := by cases A <;> simp [own, ownL, blk, plc]
      exact g.swap (Ts := [.sl false (ekOf P e) (.slice A 0 0) []]) ⟨⟨⟨A, 0, rfl, Nat.le_refl _, by simp [cellsL], fun h => absurd rfl h⟩, by simp, trivial⟩, trivial⟩ (by simp only [ownL, hb]; exact List.nodup_nil) (fun b h => by simp only [ownL, hb] at h; cases h) (fun b h => by simp [shrL, shr] at h)
    · obtain ⟨b, o, rfl, hlt, hr, hth⟩ := hx hc0
      have hblk : blk (.slice (some ⟨b, o, none⟩) xs.length c) = [b] := by rw [blk_row, if_neg hc0]
      rw [hblk] at hsub hnd
      have g2 := roomed (b := b) (o := o) (c := c) g (hsub b (by simp)) (by simpa using hnd) (fun x hx => hsub x (by simp only [List.mem_append]; exact .inr hx)) hss hm hk hr (hth rfl) hlt (by simpa using hroom)
      refine ⟨_, _, ?_, g2, by rw [er_sl]⟩
      have hly : (cellsL ys).length = ys.length * P.cellsOf e := cellsL_len fun x hx => (hky x hx).1
      have hle : xs.length * P.cellsOf e + ys.length * P.cellsOf e ≤ c * P.cellsOf e := by
        rw [← Nat.add_mul]; exact Nat.mul_le_mul_right _ hroom
      have hth' : w.there b (o + xs.length * P.cellsOf e) (cellsL ys).length := there_sub (hth rfl) (by omega) (by rw [hly, hn]; omega)
      have := (hS i hi).room b o xs.length c hroom (fun j hj => by rw [hsz]; exact (hth' j hj).1) (fun j hj => by rw [hsz]; exact (hth' j hj).2)
      rw [this, hsz, valOf, List.length_append]
      rfl
  · have hlimv : lim = 140737488355328 := rfl
    have hbb : (xs.length + ys.length) * i.bytes < 140737488355328 := by rw [← hby, ← hlimv]; exact hlim
    have h63 : xs.length + ys.length ≤ (xs.length + ys.length) * i.bytes := Nat.le_mul_of_pos_right _ (Nat.pos_of_ne_zero hb0)
    have hge := grownCap_ge w (xs.length + ys.length) c e
    have g1 := g.swap hm (List.nodup_append.1 hnd).2.1 (fun b hb => hsub b (List.mem_append.2 (.inr hb))) hss
    have hln : (cellsL (xs ++ ys)).length = (xs ++ ys).length * P.cellsOf e := cellsL_len fun x hx => (hk x hx).1
    have hzl : (Builtin.zeroCells z.cells (grownCap w (xs.length + ys.length) c e - (xs.length + ys.length))).toList.length = (grownCap w (xs.length + ys.length) c e - (xs.length + ys.length)) * P.cellsOf e := by
      rw [Array.length_toList]
      simp [Builtin.zeroCells, hzs, hsz]
    have g2 := rowed (w1 := w.drew) (rest := (Builtin.zeroCells z.cells (grownCap w (xs.length + ys.length) c e - (xs.length + ys.length))).toList) (c := grownCap w (xs.length + ys.length) c e) (e := e) g1 rfl rfl rfl rfl hk (by simpa using hge) (by
      rw [List.length_append, hln, hzl, List.length_append, ← Nat.add_mul, hn]
      congr 1
      omega)
    refine ⟨_, _, ?_, g2, by rw [er_sl]⟩
    have := (hS i hi).grow z A xs.length c (cellsL xs) hz (by rw [hsz]; exact hS0.cellsD) (by omega) (by omega) (growslice_fits (by omega) (by omega))
    rw [this]
    have e1 : (cellsL (xs ++ ys) ++ (Builtin.zeroCells z.cells (grownCap w (xs.length + ys.length) c e - (xs.length + ys.length))).toList).toArray = (cellsL xs ++ cellsL ys).toArray ++ Builtin.zeroCells z.cells (grownCap w (xs.length + ys.length) c e - (xs.length + ys.length)) := by
      apply Array.ext'
      simp [cellsL_append]
    rw [e1, valOf, List.length_append]
    rfl
theorem append_core {D : List Nat} (g : G P w0 F nt H L D X a w) {t ty e : TypeId} (ht : P.underlying t = some (.slice e)) (hrow : rowOk P e = true) {xs ys : List LT} {hd vx : Value} (hmT : Mem w (.sl false (ekOf P e) hd xs)) (hmY : MemL w ys)
    (hky : ∀ x ∈ ys, (cells x).length = (ekOf P e).n ∧ ((ekOf P e).m = false → all x = [])) (hsub : ∀ b ∈ blk hd ++ ownL (xs ++ ys), b ∈ ownL X) (hnd : (blk hd ++ ownL (xs ++ ys)).Nodup) (hss : ∀ b ∈ shrL (xs ++ ys), b ∈ shrL X)
    (hS : Src P (P.cellsOf e) t vx ys.length (cellsL ys) w) (hlim : (xs.length + ys.length) * bytesOf P e < lim) :
    ∃ w' T', (Builtin.append_ #[t, t] ty #[hd, vx]).run P w = .ok (valOf T') w' ∧ G P w0 F nt H L D [T'] a w' ∧ er T' = .sl false (ekOf P e) () ((xs ++ ys).map er) :=
  append_coreA g ht hrow hmT hmY hky hsub hnd hss (fun i hi => App.ofSrc ht hi (by rw [show i.size = P.cellsOf e by simp [Program.cellsOf, hi]]; exact hS)) hlim
/-- append. -/
theorem appendE_ok (g : G P w0 F nt H L [] [] a w) {d : Option Tmp} (hd : fitD nt d = true) {t ty : TypeId} {s x : Operand} (hs : fitO nt s = true) (hx : fitO nt x = true) {K : Env → Option α} (h : appendE P t (L.map erA) d s x K = some res) :
    ∃ v w', (Builtin.append_ #[t, t] ty #[a.eval s, a.eval x]).run P w = .ok v w' ∧ Nxt P w0 F nt H K res (a.put d v) w' := by
  unfold appendE at h
  split at h
  · rename_i e ht
    cases hrow : rowOk P e with
    | false => rw [hrow] at h; cases h
    | true =>
      rw [hrow] at h
      obtain ⟨D, T, L1, h, g1, hv⟩ := takeO_ok g hs (fun s hs => by simp) h
      simp only [List.nil_append] at g1
      split at h
      · rename_i k hh xs hT
        obtain ⟨hdv, ys, rfl, rfl⟩ := er_sl_inv hT
        cases how : ownTy P fuelT e with
        | true =>
          rw [how] at h
          cases hb : D.any (rootOf (L1.map erA) x) with
          | true => rw [hb] at h; cases h
          | false =>
            rw [hb] at h
            obtain ⟨D2, U, L2, h, g2, hv2⟩ := takeO_ok g1 hx (fun s hs => rootOf_spec hs hb) h
            split at h
            · rename_i k2 hh2 us hU
              obtain ⟨hdu, us, rfl, rfl⟩ := er_sl_inv hU
              cases hc : (k == ekOf P e && k2 == k && decide (((ys.map er).length + (us.map er).length) * bytesOf P e < lim)) with
              | false => rw [hc] at h; cases h
              | true =>
                rw [hc] at h
                simp only [Bool.and_eq_true, beq_iff_eq, decide_eq_true_eq, List.length_map] at hc
                obtain ⟨⟨rfl, rfl⟩, hl⟩ := hc
                have hx1 : ownL ([.sl false (ekOf P e) hdv ys] ++ [.sl false (ekOf P e) hdu us]) = blk hdv ++ ownL ys ++ (blk hdu ++ ownL us) := by simp [ownL, own]
                have hx2 : shrL ([.sl false (ekOf P e) hdv ys] ++ [.sl false (ekOf P e) hdu us]) = shrL ys ++ shrL us := by simp [shrL, shr]
                have hnd := g2.dj.xn
                rw [hx1] at hnd
                have hmU := g2.memX.2.1
                have hmUo := hmU
                obtain ⟨_, hku, hmu⟩ := hmU
                obtain ⟨w', T', k1, k2, k3⟩ := append_core (ty := ty) (vx := hdu) g2 ht hrow g2.memX.1 hmu hku (fun b hb => by
                  rw [hx1]
                  simp only [ownL_append, List.mem_append] at hb ⊢
                  rcases hb with hb | hb | hb
                  · exact .inl (.inl hb)
                  · exact .inl (.inr hb)
                  · exact .inr (.inr hb)) (by
                  rw [ownL_append, ← List.append_assoc]
                  obtain ⟨n1, n2, n3⟩ := List.nodup_append.1 hnd
                  exact List.nodup_append.2 ⟨n1, (List.nodup_append.1 n2).2.1, fun p hp q hq => n3 p hp q (List.mem_append.2 (.inr hq))⟩) (fun b hb => by rw [hx2]; rwa [shrL_append] at hb) (src_ok hmUo ht) hl
                refine ⟨_, w', by rw [hv, hv2]; exact k1, landT k2 hd rfl ?_⟩
                rw [k3, List.map_append]
                exact h
            · cases h
        | false =>
          rw [how] at h
          obtain ⟨D2, U, h, hmU, hv2, _, hUX, _⟩ := lookO_ok g1 hx h
          split at h
          · rename_i ro k2 hh2 us hU
            obtain ⟨hdu, us, rfl, rfl⟩ := er_sl_inv hU
            cases hc : (k == ekOf P e && k2 == k && decide (((ys.map er).length + (us.map er).length) * bytesOf P e < lim)) with
            | false => rw [hc] at h; cases h
            | true =>
              rw [hc] at h
              simp only [Bool.and_eq_true, beq_iff_eq, decide_eq_true_eq, List.length_map] at hc
              obtain ⟨⟨rfl, rfl⟩, hl⟩ := hc
              have hx1 : ownL [.sl false (ekOf P e) hdv ys] = blk hdv ++ ownL ys := by simp [ownL, own]
              have hx2 : shrL [.sl false (ekOf P e) hdv ys] = shrL ys := by simp [shrL, shr]
              have hmUo := hmU
              obtain ⟨_, hku, hmu⟩ := hmU
              obtain ⟨n1, n2⟩ := all_nilL (Ts := us) fun x hx => (hku x hx).2 how
              have hnd := g1.dj.xn
              rw [hx1] at hnd
              obtain ⟨w', T', k1, k2, k3⟩ := append_core (ty := ty) (vx := hdu) g1 ht hrow g1.memX.1 hmu hku (fun b hb => by
                rw [hx1]; rwa [ownL_append, n1, List.append_nil] at hb) (by rw [ownL_append, n1, List.append_nil]; exact hnd) (fun b hb => by rw [hx2]; rwa [shrL_append, n2, List.append_nil] at hb) (src_ok hmUo ht) hl
              refine ⟨_, w', by rw [hv, hv2]; exact k1, landT k2 hd rfl ?_⟩
              rw [k3, List.map_append]
              exact h
          · cases h
      · cases h
  · cases h
/-- append of zeros. -/
theorem appendN_ok (g : G P w0 F nt H L [] [] a w) {d : Option Tmp} (hd : fitD nt d = true) {t tx ty : TypeId} {s x : Operand} (hs : fitO nt s = true) (hx : fitO nt x = true) {kx : IntKind} (hux : P.underlying tx = some (.int kx)) {K : Env → Option α} (h : appendN P t (L.map erA) d s x K = some res) :
    ∃ v w', (Builtin.append_ #[t, tx] ty #[a.eval s, a.eval x]).run P w = .ok v w' ∧ Nxt P w0 F nt H K res (a.put d v) w' := by
  unfold appendN at h
  split at h
  · rename_i e kn n ht hf
    have ex := flatO_ok g hx hf
    split at h
    · rename_i z hz
      obtain ⟨i, zv, Z, hi, hiz, rfl, vZ, hmZ, haZ⟩ := zeroT_ok (w := w) hz
      cases hc0 : (rowOk P e && csz (er Z) == P.cellsOf e && decide (0 ≤ n)) with
      | false => rw [hc0] at h; cases h
      | true =>
        rw [hc0, cond_true] at h
        simp only [Bool.and_eq_true, beq_iff_eq, decide_eq_true_eq, len_er] at hc0
        obtain ⟨⟨hrow, hlz⟩, hn0⟩ := hc0
        obtain ⟨D, T, L1, h, g1, hv⟩ := takeO_ok g hs (fun s hs => by simp) h
        simp only [List.nil_append] at g1
        split at h
        · rename_i k hh xs hT
          obtain ⟨hdv, ys, rfl, rfl⟩ := er_sl_inv hT
          cases hc : (k == ekOf P e && decide (((ys.map er).length + n.toNat) * bytesOf P e < lim)) with
          | false => rw [hc] at h; cases h
          | true =>
            rw [hc, cond_true] at h
            simp only [Bool.and_eq_true, beq_iff_eq, decide_eq_true_eq, List.length_map] at hc
            obtain ⟨rfl, hl⟩ := hc
            obtain ⟨i', z', hi', hz', hsz, h0, hb0, hzs, hby⟩ := rowOk_spec hrow
            rw [hi] at hi'
            cases hi'
            rw [hiz] at hz'
            cases hz'
            have hzc : zv.cells = (cells Z).toArray := by rw [← vZ, ← cells_toList hmZ]
            have hcl : Builtin.zeroCells zv.cells n.toNat = (cellsL (List.replicate n.toNat Z)).toArray := by
              rw [← made_repl hlz h0, Builtin.zeroCells, hzc]
              rw [show (cells Z).toArray.size = P.cellsOf e from hlz]
            have hx1 : ownL [.sl false (ekOf P e) hdv ys] = blk hdv ++ ownL ys := by simp [ownL, own]
            have hx2 : shrL [.sl false (ekOf P e) hdv ys] = shrL ys := by simp [shrL, shr]
            obtain ⟨n1, n2⟩ := all_nilL (Ts := List.replicate n.toNat Z) fun x hx => by rw [(List.mem_replicate.1 hx).2]; exact haZ
            have hnd := g1.dj.xn
            rw [hx1] at hnd
            have hmR := memL_repl (w := w) hmZ n.toNat
            obtain ⟨w', T', k1, k2, k3⟩ := append_coreA (tx := tx) (ty := ty) (vx := .int kn n) (ys := List.replicate n.toNat Z) g1 ht hrow g1.memX.1 hmR (fun x hx => by rw [(List.mem_replicate.1 hx).2]; exact ⟨hlz, fun _ => haZ⟩) (fun b hb => by
              rw [hx1]; rwa [ownL_append, n1, List.append_nil] at hb) (by rw [ownL_append, n1, List.append_nil]; exact hnd) (fun b hb => by rw [hx2]; rwa [shrL_append, n2, List.append_nil] at hb) (fun i' hi' => by
              rw [hi] at hi'
              cases hi'
              have hbn : n * (i.bytes : Int) < 140737488355328 := by
                rw [hby] at hl
                have h1 : n.toNat * i.bytes ≤ (ys.length + n.toNat) * i.bytes := Nat.mul_le_mul_right _ (by omega)
                have h2 : (lim : Nat) = 140737488355328 := rfl
                have h3 : ((n.toNat * i.bytes : Nat) : Int) = n * (i.bytes : Int) := by rw [Int.natCast_mul, Int.toNat_of_nonneg hn0]
                omega
              have := App.zeros (P := P) (w := w) (ty := ty) (z := zv) (k := kn) (l := n) ht hux hi hiz (by rw [hsz]; exact h0) hn0 hbn hb0 (fun u hu => by rw [hcl] at hu; exact cellsL_one' _ hmR u hu)
              rw [List.length_replicate]
              rw [hcl] at this
              exact this) (by rw [List.length_replicate]; exact hl)
            refine ⟨_, w', by rw [hv, ex]; exact k1, landT k2 hd rfl ?_⟩
            rw [k3, List.map_append, List.map_replicate]
            exact h
        · cases h
    · cases h
  · cases h
end Go.Tree

/- Trees of values: what the evaluator says of an operation is so. Ninth part: slices, strings, tuples, closures. -/
namespace Go.Tree
set_option linter.unusedSectionVars false
set_option linter.unusedVariables false
set_option linter.unusedSimpArgs false
variable {P : Program} {w0 : World} {F : Fm} {nt : Nat} {H : List Value} {L : List (AV Value)} {XD : List Nat} {X : List LT} {a : Act} {w : World} {α : Type} {res : α}
variable [Pol]
theorem intOf_some {v : Value} {i : Int} (h : intOf v = some i) : ∃ k, v = .int k i := by
  cases v <;> simp [intOf] at h
  subst h
  exact ⟨_, rfl⟩
theorem run_bounds {isS : Bool} {n c : Nat} {lv hv : Option Value} {l h : Int} (hl : lv.elim (some 0) intOf = some l) (hh : hv.elim (some (n : Int)) intOf = some h) (hb : boundsOk l h n = true) (hc : n ≤ c) :
    (Instr.sliceBounds isS n c lv hv none).run P w = .ok (l.toNat, h.toNat, c) w := by
  simp only [boundsOk, Bool.and_eq_true, decide_eq_true_eq] at hb
  obtain ⟨⟨b1, b2⟩, b3⟩ := hb
  have b4 : 0 ≤ h := by omega
  have b5 : h ≤ c := by omega
  have eh : (h.toNat : Int) = h := Int.toNat_of_nonneg b4
  have el : (l.toNat : Int) = l := Int.toNat_of_nonneg b1
  cases lv with
  | none =>
    simp only [Option.elim, Option.some.injEq] at hl
    subst hl
    cases hv with
    | none =>
      simp only [Option.elim, Option.some.injEq] at hh
      subst hh
      simp [Instr.sliceBounds]
    | some v =>
      obtain ⟨k, rfl⟩ := intOf_some hh
      simp [Instr.sliceBounds, run_sliceBound, b4, b5]
  | some u =>
    obtain ⟨k', rfl⟩ := intOf_some hl
    cases hv with
    | none =>
      simp only [Option.elim, Option.some.injEq] at hh
      subst hh
      simp [Instr.sliceBounds, run_sliceBound, b1, b2]
    | some v =>
      obtain ⟨k, rfl⟩ := intOf_some hh
      have b2' : l ≤ (h.toNat : Int) := by omega
      have e1 := run_sliceBound (P := P) w k' l h.toNat .sliceB b1 b2'
      simp [Instr.sliceBounds, run_sliceBound, e1, b4, b5]
theorem bind_int (g : G P w0 F nt H L XD X a w) {o : Option Operand} (ho : o.all (fitO nt) = true) {dv : Option Int} {i : Int} (h : o.elim dv (fun o => (flatO (L.map erA) o).bind intOf) = some i) : (o.map a.eval).elim dv intOf = some i := by
  cases o with
  | none => exact h
  | some o =>
    simp only [Option.elim, Option.bind_eq_some_iff] at h
    obtain ⟨v, h1, h2⟩ := h
    simp only [Option.map_some, Option.elim, flatO_ok g (by simpa using ho) h1]
    exact h2
theorem run_sliceT {t e : TypeId} (hu : P.underlying t = some (.slice e)) (h0 : P.cellsOf e ≠ 0) {A : Option Addr} {n c : Nat} {lv hv : Option Value} {l h : Int} (hl : lv.elim (some 0) intOf = some l) (hh : hv.elim (some (n : Int)) intOf = some h) (hb : boundsOk l h n = true) (hc : n ≤ c) :
    (Instr.sliceAt t (.slice A n c) lv hv none).run P w = .ok (sliced A l.toNat h.toNat c (P.cellsOf e)) w := by
  obtain ⟨i, hi, hsz⟩ := info_size (n := P.cellsOf e) rfl h0
  simp [Instr.sliceAt, run_underlying hu, Instr.slice, run_bounds hl hh hb hc, sizeOf, typeInfo, hi, hsz, sliced]
theorem refV_cut {ty e : TypeId} {sub : Option (Nat × Nat)} {h0 : Value} {A : Option Addr} {n c l h : Nat} (hr : RefV P ty sub h0 (.slice A n c)) (hk : elemSz P ty = some (ekOf P e)) (h1 : l ≤ h) (h2 : h ≤ n) (hc : n ≤ c) :
    RefV P ty (some (sub.elim 0 (·.1) + l, h - l)) h0 (sliced A l h c (P.cellsOf e)) := by
  have hm : ∀ B : Option Addr, c - l ≠ 0 → (if c = l then B else B.map (·.add (l * P.cellsOf e))) = B.map (·.add (l * P.cellsOf e)) := fun B hne => by rw [if_neg (by omega)]
  cases sub with
  | none =>
    have hr : (.slice A n c : Value) = h0 := hr
    refine ⟨A, n, c, ekOf P e, _, hr.symm, by simp; omega, hk, by simp only [sliced, Option.elim, Nat.zero_add]; rfl, fun hne => ?_⟩
    simp only [Option.elim, Nat.zero_add] at hne ⊢
    exact hm A hne
  | some q =>
    obtain ⟨lo, m⟩ := q
    obtain ⟨A0, len, c0, k, A', k1, k2, k3, k4, k5⟩ := hr
    simp only [Value.slice.injEq] at k4
    obtain ⟨rfl, rfl, rfl⟩ := k4
    rw [hk] at k3
    cases k3
    refine ⟨A0, len, c0, ekOf P e, _, k1, by simp only [Option.elim]; omega, hk, by simp only [sliced, Option.elim, Nat.sub_sub]; rfl, fun hne => ?_⟩
    simp only [Option.elim] at hne ⊢
    rw [if_neg (by omega), k5 (by omega), Option.map_map]
    congr 1
    funext ad
    obtain ⟨b, o, s⟩ := ad
    have : (ekOf P e).n = P.cellsOf e := rfl
    simp only [Function.comp, Addr.add, this, Nat.add_mul]
    by_cases c1 : lo * P.cellsOf e = 0 <;> by_cases c2 : l * P.cellsOf e = 0 <;> simp [c1, c2, Nat.add_assoc]
/-- A slice is cut. -/
theorem sliceE_ok (g : G P w0 F nt H L [] [] a w) {d : Option Tmp} (hd : fitD nt d = true) {t e : TypeId} (hu : P.underlying t = some (.slice e)) {x : Operand} (hx : fitO nt x = true) {lo hi : Option Operand} (hlo : lo.all (fitO nt) = true) (hhi : hi.all (fitO nt) = true) {K : Env → Option α}
    (h : sliceE P t e (L.map erA) d x lo hi K = some res) : ∃ v, (∀ w, (Instr.sliceAt t (a.eval x) (lo.map a.eval) (hi.map a.eval) none).run P w = .ok v w) ∧ Nxt P w0 F nt H K res (a.put d v) w := by
  unfold sliceE at h
  split at h
  · rename_i s
    have hs : s < nt := by simpa [fitO] using hx
    have hso := g.slots s hs
    obtain ⟨h0, r, p, lo0, n, deps, T, A, c, h, hr, hv, hev, hnc, _⟩ := row_ok g hx h
    split at h
    · rename_i l hh el eh
      cases hb : boundsOk l hh n with
      | false => rw [hb] at h; cases h
      | true =>
        rw [hb] at h
        have hb' := hb
        simp only [boundsOk, Bool.and_eq_true, decide_eq_true_eq] at hb'
        obtain ⟨⟨b1, b2⟩, b3⟩ := hb'
        have hrun : ∀ w, (Instr.sliceAt t (a.eval (.tmp s)) (lo.map a.eval) (hi.map a.eval) none).run P w = .ok (sliced A l.toNat hh.toNat c (P.cellsOf e)) w := fun w => by
          rw [hev]
          exact run_sliceT hu h0 (bind_int g hlo el) (bind_int g hhi eh) hb hnc
        refine ⟨_, hrun, ?_⟩
        rw [eval_tmp] at hev
        rw [hev] at hso
        have hlen : (hh - l).toNat = hh.toNat - l.toNat := by omega
        rw [slot_er] at h
        simp only [cond_true] at h
        split at h
        · rename_i d' t' ht
          obtain ⟨T', e', rfl⟩ := erA_val ht
          rw [e'] at hso
          have hk : elemSz P t = some (ekOf P e) := by simp [elemSz, hu]
          have hrv : RefV P t none (valOf T') (.slice A n c) := hso
          have hcut := refV_cut hrv hk (l := l.toNat) (h := hh.toNat) (by omega) (by omega) hnc
          simp only [Option.elim, Nat.zero_add] at hcut
          rw [← hlen] at hcut
          cases ho : hasOwn (er T') with
          | true =>
            rw [ho] at h
            refine landRef g hd (av := .ref s [] (some (l.toNat, (hh - l).toNat)) t false) ⟨rfl, rfl, rfl, fun _ => trivial, fun _ _ => by simp⟩ (fun L' d' hdd hkk hnv deps' t' ht' => ?_) h
            by_cases c' : s = d'
            · subst c'; exact absurd ht' (hnv _ _)
            · have := hkk s deps' t' ht' c'
              rw [e'] at this
              cases this
              refine ⟨trivial, hcut, fun _ => ?_⟩
              have hso : (.slice A n c : Value) = valOf T' := hso
              cases T' with
              | st xs => cases hso
              | _ => rfl
          | false =>
            rw [ho, cond_false] at h
            rw [hasOwn_er] at ho
            have ho := own_nil T' ho
            have hm := g.mem s
            rw [e'] at hm
            obtain ⟨U, h, hmU, hvU, hoU, hsU, haU⟩ := subK_ok hm hcut h
            have hoU' : own U = [] := by rw [ho] at hoU; exact List.eq_nil_of_sublist_nil hoU
            have hsh : ∀ b ∈ shr U, b ∈ shrA (slot L s) := fun b hb => by rw [e']; exact hsU b hb
            have g1 := g.addRo (T := U) (D := d') hmU hoU' (fun j b hb hj => by
              have := g.dj.sh s j b (hsh b hb) hj
              rwa [e'] at this) (fun b _ => by simp [ownL]) (fun b hb => g.sees s b (hsh b hb))
            exact landT (T := U) (D := d') g1 hd hvU.symm h
        · rename_i r' p' sub ty' sn ht
          have e' := erA_ref ht
          rw [e'] at hso
          cases hk : (elemSz P ty' == some (ekOf P e)) with
          | false => rw [hk] at h; cases h
          | true =>
            rw [hk] at h
            have hk := eq_of_beq hk
            refine landRef g hd (av := .ref r' p' (some (sub.elim 0 (·.1) + l.toNat, (hh - l).toNat)) ty' false) ⟨rfl, rfl, rfl, fun _ => trivial, fun _ _ => by simp⟩ (fun L' d' hdd hkk hnv deps' t' ht' => ?_) h
            by_cases c' : r' = d'
            · subst c'; exact absurd ht' (hnv _ _)
            · obtain ⟨h1, h2, h3⟩ := hso deps' t' (hkk r' deps' t' ht' c')
              refine ⟨h1, by rw [hlen]; exact refV_cut h2 hk (by omega) (by omega) hnc, fun _ => ?_⟩
              cases hi' : isSt (get default false t' p').2 with
              | false => rfl
              | true =>
                exfalso
                cases hg : (get default false t' p').2 with
                | st xs =>
                  rw [hg] at h2
                  cases sub with
                  | none => cases h2
                  | some q => obtain ⟨_, _, _, _, _, k1, _⟩ := h2; cases k1
                | _ => rw [hg] at hi'; cases hi'
        · cases h
    · cases h
  · cases h
end Go.Tree

/- Trees of values: what the evaluator says of an operation is so. Tenth part: tuples, closures, reading. -/
namespace Go.Tree
set_option linter.unusedSectionVars false
set_option linter.unusedVariables false
set_option linter.unusedSimpArgs false
variable {P : Program} {w0 : World} {F : Fm} {nt : Nat} {H : List Value} {L : List (AV Value)} {XD : List Nat} {X : List LT} {a : Act} {w : World} {α : Type} {res : α}
variable [Pol]
theorem valOf_deaden {T : LT} : valOf (deaden T) = valOf T := valOf_of (isSt_deaden T) (cells_deaden T)
/-- A part of a tuple is taken out. -/
theorem tu_out (g : G P w0 F nt H L [] [] a w) {s i : Nat} {deps : List Nat} {Ts : List LT} (hs : slot L s = .tu deps Ts) (hi : i < Ts.length) :
    G P w0 F nt H ((L.map (killC s [])).set s (.tu deps (Ts.set i (deaden (Ts.getD i (.dead default)))))) deps [Ts.getD i (.dead default)] a w := by
  have hsl : s < L.length := slot_lt (by rw [hs]; simp)
  obtain ⟨A, U, B, e1, hA, _, hU, hset⟩ := split_at Ts i (.dead default) hi
  rw [hU, hset]
  have e : ∀ j, slot ((L.map (killC s [])).set s (.tu deps (A ++ deaden U :: B))) j = if s = j then .tu deps (A ++ deaden U :: B) else killC s [] (slot L j) := fun j => by
    rw [slot_set, slot_map L _ (killC_un s [])]; simp [hsl]
  have kC := kills_C s []
  have hval : ((A ++ deaden U :: B).map valOf) = Ts.map valOf := by rw [e1]; simp [valOf_deaden]
  have ho : ownL Ts = ownL A ++ (own U ++ ownL B) := by rw [e1, ownL_append]; rfl
  have ho' : ownL (A ++ deaden U :: B) = ownL A ++ ownL B := by rw [ownL_append, ownL, own_deaden, List.nil_append]
  have hs' : ∀ b ∈ shrL (A ++ deaden U :: B), b ∈ shrL Ts := fun b hb => by
    rw [e1]
    rw [shrL_append, shrL] at hb ⊢
    simp only [List.mem_append] at hb ⊢
    exact hb.imp id (.imp (shr_deaden U b) id)
  have hsU : ∀ b ∈ shr U, b ∈ shrA (slot L s) := fun b hb => by
    rw [hs]; show b ∈ shrL Ts
    rw [e1, shrL_append, shrL]; simp [hb]
  have hoU : ∀ b ∈ own U, b ∈ ownA (slot L s) := fun b hb => by
    rw [hs]; show b ∈ ownL Ts
    rw [ho]; simp [hb]
  have hoi : ∀ j b, b ∈ ownA (slot ((L.map (killC s [])).set s (.tu deps (A ++ deaden U :: B))) j) → b ∈ ownA (slot L j) := fun j b hb => by
    rw [e] at hb
    split at hb
    · rename_i c; rw [← c, hs]
      show b ∈ ownL Ts
      have hb : b ∈ ownL (A ++ deaden U :: B) := hb
      rw [ho'] at hb; rw [ho]
      simp only [List.mem_append] at hb ⊢
      exact hb.imp id .inr
    · exact (kC.own hb).2
  have hsi : ∀ j b, b ∈ shrA (slot ((L.map (killC s [])).set s (.tu deps (A ++ deaden U :: B))) j) → b ∈ shrA (slot L j) := fun j b hb => by
    rw [e] at hb
    split at hb
    · rename_i c; rw [← c, hs]; exact hs' b hb
    · exact (kC.shr hb).2
  have hnd : (ownL A ++ (own U ++ ownL B)).Nodup := by have := g.dj.nd s; rw [hs] at this; rw [← ho]; exact this
  obtain ⟨n1, n2, n3⟩ := List.nodup_append.1 hnd
  obtain ⟨n4, n5, n6⟩ := List.nodup_append.1 n2
  have hmT : MemL w Ts := by have := g.mem s; rw [hs] at this; exact this
  have hmU : Mem w U := memL_iff.1 hmT U (by rw [e1]; simp)
  refine ⟨g.defers, g.size, by rw [List.length_set, List.length_map]; exact g.len, fun j hj => ?_, fun j v hj => ?_, fun j => ?_, ⟨hmU, trivial⟩, ⟨fun j => ?_, fun j k b h1 h2 => g.dj.dj j k b (hoi j b h1) (hoi k b h2), fun j b h1 h2 => g.dj.ss j b (hsi j b h1) (hoi j b h2), fun j k b h1 h2 => ?_, by simpa [ownL] using n4, fun j b h1 h2 => ?_, fun j b h1 h2 => ?_, fun b h1 h2 => ?_, fun j b h1 h2 => ?_⟩, fun j b hb => g.mine j b (hoi j b hb), fun b hb => ?_, g.fr, fun j b hb => g.sees j b (hsi j b hb), fun b hb => ?_⟩
  · have h := g.slots j hj
    rw [e]
    by_cases c : s = j
    · rw [if_pos c]
      rw [← c, hs] at h
      rw [← c]
      show _ = Value.tuple ((A ++ deaden U :: B).map valOf).toArray
      rw [hval]; exact h
    · rw [if_neg c]
      rcases kC (slot L j) with h1 | h1
      · rw [h1]; trivial
      · rw [h1]
        cases ev : slot L j with
        | un => trivial
        | val d t => rw [ev] at h; exact h
        | tu d t => rw [ev] at h; exact h
        | ref r p sb ty sn =>
          rw [ev] at h
          intro deps' t' ht
          rw [e] at ht
          split at ht
          · cases ht
          · exact h deps' t' (killC_val ht).1
        | adr r p =>
          rw [ev] at h
          intro deps' t' ht
          rw [e] at ht
          split at ht
          · cases ht
          · exact h deps' t' (killC_val ht).1
  · have h := g.hid j v hj
    generalize nt + j = j at h ⊢
    rw [e]
    by_cases c : s = j
    · rw [if_pos c]
      rw [← c, hs] at h
      show _ = Value.tuple ((A ++ deaden U :: B).map valOf).toArray
      rw [hval]; exact h
    · rw [if_neg c]
      rcases kC (slot L j) with h1 | h1
      · rw [h1]; trivial
      · rw [h1]
        cases ev : slot L j with
        | un => trivial
        | val d t => rw [ev] at h; exact h
        | tu d t => rw [ev] at h; exact h
        | ref r p sb ty sn =>
          rw [ev] at h
          intro deps' t' ht
          rw [e] at ht
          split at ht
          · cases ht
          · exact h deps' t' (killC_val ht).1
        | adr r p =>
          rw [ev] at h
          intro deps' t' ht
          rw [e] at ht
          split at ht
          · cases ht
          · exact h deps' t' (killC_val ht).1
  · rw [e]
    split
    · show MemL w (A ++ deaden U :: B)
      exact memL_iff.2 fun x hx => by
        rcases List.mem_append.1 hx with h | h
        · exact memL_iff.1 hmT x (by rw [e1]; simp [h])
        · rcases List.mem_cons.1 h with h | h
          · rw [h]; exact mem_deaden U hmU
          · exact memL_iff.1 hmT x (by rw [e1]; simp [h])
    · exact kC.mem (g.mem j)
  · rw [e]
    split
    · show (ownL (A ++ deaden U :: B)).Nodup
      rw [ho']
      exact List.nodup_append.2 ⟨n1, n5, fun x hx y hy => n3 x hx y (by simp [hy])⟩
    · have := (g.dj.kill kC).nd j
      rwa [slot_map L _ (killC_un s [])] at this
  · have := g.dj.sh j k b (hsi j b h1) (hoi k b h2)
    rw [e] at h1 ⊢
    split
    · rename_i c; rw [← c, hs] at this; exact this
    · rename_i c; rw [if_neg c] at h1; rw [(kC.shr h1).1]; exact this
  · have h1 : b ∈ own U := by simpa [ownL] using h1
    have := g.dj.dj s j b (hoU b h1) (hoi j b h2)
    subst this
    rw [e, if_pos rfl] at h2
    have h2 : b ∈ ownL (A ++ deaden U :: B) := h2
    rw [ho'] at h2
    rcases List.mem_append.1 h2 with h | h
    · exact n3 b h b (by simp [h1]) rfl
    · exact n6 b h1 b h rfl
  · have h2 : b ∈ own U := by simpa [ownL] using h2
    rw [e] at h1
    split at h1
    · exact g.dj.ss s b (by rw [hs]; exact hs' b h1) (hoU b h2)
    · exact killC_deps h1 (g.dj.sh j s b (kC.shr h1).2 (hoU b h2))
  · have h1 : b ∈ shr U := by simpa [shrL] using h1
    have h2 : b ∈ own U := by simpa [ownL] using h2
    exact g.dj.ss s b (hsU b h1) (hoU b h2)
  · have h1 : b ∈ shr U := by simpa [shrL] using h1
    have := g.dj.sh s j b (hsU b h1) (hoi j b h2)
    rwa [hs] at this
  · have hb : b ∈ own U := by simpa [ownL] using hb
    exact g.mine s b (hoU b hb)
  · have hb : b ∈ shr U := by simpa [shrL] using hb
    exact g.sees s b (hsU b hb)
/-- A tuple's part. -/
theorem extract_ok (g : G P w0 F nt H L [] [] a w) {d : Option Tmp} (hd : fitD nt d = true) {s i : Nat} (hs : s < nt) {deps : List Nat} {ts : List TV} (ht : slot (L.map erA) s = .tu deps ts) {K : Env → Option α}
    (h : (bif decide (i < ts.length) then (if hasOwn (ts.getD i (.dead ())) then K (putD (((L.map erA).map (killC s [])).set s (.tu deps (ts.set i (deaden (ts.getD i (.dead ())))))) d (.val deps (ts.getD i (.dead ())))) else K (putD (L.map erA) d (.val deps (ts.getD i (.dead ()))))) else none) = some res) :
    ∃ v, (∀ w, (Instr.extract (a.eval (.tmp s)) i).run P w = .ok v w) ∧ Nxt P w0 F nt H K res (a.put d v) w := by
  rw [slot_er] at ht
  obtain ⟨Ts, e, rfl⟩ := erA_tu ht
  have hso := g.slots s hs
  rw [e] at hso
  cases hb : decide (i < (Ts.map er).length) with
  | false => rw [hb] at h; cases h
  | true =>
    rw [hb, cond_true] at h
    have hi : i < Ts.length := by simpa using hb
    have hrun : ∀ w, (Instr.extract (a.eval (.tmp s)) i).run P w = .ok (valOf (Ts.getD i (.dead default))) w := fun w => by
      have : a.tmps.getD s undef = .tuple (Ts.map valOf).toArray := hso
      rw [eval_tmp, this]
      simp [Instr.extract, hi]
    refine ⟨_, hrun, ?_⟩
    rw [getD_er] at h
    split at h
    · refine landT (tu_out g e hi) hd rfl ?_
      rw [er_deaden, ← map_set_er, map_er L (killC s []) (killC_er s [])] at h
      rw [List.map_set]
      exact h
    · rename_i ho
      rw [hasOwn_er] at ho
      have ho := own_nil (Ts.getD i (.dead default)) (by simpa using ho)
      have hin : Ts.getD i (.dead default) ∈ Ts := getD_mem hi
      have hsh : ∀ b ∈ shr (Ts.getD i (.dead default)), b ∈ shrA (slot L s) := fun b hb => by rw [e]; exact shrL_mem hin b hb
      have hmT : MemL w Ts := by have := g.mem s; rw [e] at this; exact this
      have g1 := g.addRo (T := Ts.getD i (.dead default)) (D := deps) (memL_iff.1 hmT _ hin) ho (fun j b hb hj => by
        have := g.dj.sh s j b (hsh b hb) hj
        rwa [e] at this) (fun b _ => by simp [ownL]) (fun b hb => g.sees s b (hsh b hb))
      exact landT g1 hd rfl h
/-- The operands that are read, among those that are lent. -/
def Rd (a : Act) : List (TypeId × Operand) → List Bool → List LT → List LT → Prop
  | [], _, _, Ts => Ts = []
  | (ty, x) :: rest, ws, Us, T :: Ts => (ws.headD false = true ∧ ∃ Us', Us = T :: Us' ∧ Rd a rest ws.tail Us' Ts) ∨ (ws.headD false = false ∧ a.eval x = valOf T ∧ own T = [] ∧ Rd a rest ws.tail Us Ts)
  | _ :: _, _, _, [] => False
theorem addr_mem : ∀ (p : List Stp) (base : Option (Nat × Nat)) (t : LT) {b o : Nat}, Valid t p → addr base t p = some (b, o) → b ∈ all t ∨ ∃ o', base = some (b, o')
  | [], base, t, b, o, _, h => .inr ⟨o, h⟩
  | .f s i :: p, base, .st xs, b, o, hv, h => by
    rw [addr] at h
    rcases addr_mem p _ _ hv.2 h with h1 | ⟨o', h1⟩
    · exact .inl (allL_mem (getD_mem hv.1) b h1)
    · cases base with
      | none => cases h1
      | some q =>
        obtain ⟨q1, q2⟩ := q
        simp only [Option.map_some, Option.some.injEq, Prod.mk.injEq] at h1
        obtain ⟨rfl, _⟩ := h1
        exact .inr ⟨q2, rfl⟩
  | .d s :: p, base, .pt r hd x, b, o, hv, h => by
    rw [addr] at h
    rcases addr_mem p _ _ hv h with h1 | ⟨o', h1⟩
    · rw [all]; exact .inl (List.mem_append.2 (.inr h1))
    · rw [all, blk, h1]; exact .inl (by simp)
  | .i s n :: p, base, .sl r k hd xs, b, o, hv, h => by
    rw [addr] at h
    rcases addr_mem p _ _ hv.2 h with h1 | ⟨o', h1⟩
    · rw [all]; exact .inl (List.mem_append.2 (.inr (allL_mem (getD_mem hv.1) b h1)))
    · cases hp : plc hd with
      | none => rw [hp] at h1; cases h1
      | some q =>
        rw [hp] at h1
        obtain ⟨q1, q2⟩ := q
        simp only [Option.map_some, Option.some.injEq, Prod.mk.injEq] at h1
        obtain ⟨rfl, _⟩ := h1
        rw [all, blk, hp]; exact .inl (by simp)
theorem lookP_ok (g : G P w0 F nt H L XD X a w) {ty : TypeId} {x : Operand} (hx : fitO nt x = true) {K : List Nat → TV → Option α} (h : lookP P (L.map erA) ty x K = some res) :
    ∃ D T, K D (er T) = some res ∧ Mem w T ∧ a.eval x = valOf T ∧ (∀ j b, b ∈ all T → b ∈ ownA (slot L j) → j ∈ reads.srcs (L.map erA) x ++ D) ∧ (∀ b ∈ all T, b ∉ ownL X) ∧ (∀ j b, b ∈ shr T → b ∈ ownA (slot L j) → j ∈ D) ∧ (∀ b ∈ all T, Bs F w0 b) := by
  unfold lookP at h
  split at h
  · rename_i s
    have hs : s < nt := by simpa [fitO] using hx
    split at h
    · rename_i r p hv
      rw [slot_er] at hv
      have e1 := erA_adr hv
      have hso := g.slots s hs
      rw [e1] at hso
      rw [slot_er] at h
      split at h
      · rename_i deps t hr
        obtain ⟨T, e2, rfl⟩ := erA_val hr
        split at h
        · rename_i e he
          obtain ⟨b, o, h1, h2⟩ := hso deps T e2
          have hm := g.mem r
          rw [e2] at hm
          have hm : Mem w T := hm
          obtain ⟨hvd, had, opq, u, h, hlk, hmu, hvk⟩ := getK_ok p false false T _ hm (addrS_bd h1) h
          obtain ⟨U, h, hvU, hmU⟩ := lay_ok hmu h
          cases hf : fitsTy P e (er U) with
          | false => rw [hf] at h; cases h
          | true =>
            rw [hf, cond_true] at h
            have ha : addr none T p = some (b, o) := (had none).trans h1
            have hL : Lk (get default false T p).2 U := hlk.trans hvU.lk
            have hrange := range_get p false none T hm hvd (fun q h => by cases h) ha
            have hbT : b ∈ all T := (addr_mem p none T hvd ha).resolve_right (fun ⟨_, h⟩ => by cases h)
            have hall : ∀ c ∈ all (.pt true (.pointer (some ⟨b, o, none⟩)) U : LT), c ∈ all T := fun c hc => by
              rw [all] at hc
              rcases List.mem_append.1 hc with hc | hc
              · simp only [blk, plc, List.mem_singleton] at hc
                rw [hc]; exact hbT
              · rw [hL.all] at hc
                exact all_get p false T hvd c hc
            have hown : ∀ j c, c ∈ all T → c ∈ ownA (slot L j) → j = r ∨ j ∈ deps := fun j c hc hj => by
              rcases all_of T hc with h' | h'
              · exact .inl (g.dj.dj j r c hj (by rw [e2]; exact h'))
              · right
                have := g.dj.sh r j c (by rw [e2]; exact h') hj
                rwa [e2] at this
            refine ⟨r :: deps, .pt true (.pointer (some ⟨b, o, none⟩)) U, h, ⟨⟨b, o, rfl, all_lt _ hm hbT, by rw [hL.cells]; exact hrange, fun h => by cases h⟩, hmU⟩, h2, fun j c hc hj => ?_, fun c hc hx' => ?_, fun j c hc hj => ?_, fun c hc => ?_⟩
            · exact List.mem_append.2 (.inr (List.mem_cons.2 (hown j c (hall c hc) hj)))
            · rcases all_of T (hall c hc) with h' | h'
              · exact g.dj.xo r c hx' (by rw [e2]; exact h')
              · exact g.dj.xs r c (by rw [e2]; exact h') hx'
            · have hc : c ∈ all (.pt true (.pointer (some ⟨b, o, none⟩)) U : LT) := hc
              exact List.mem_cons.2 (hown j c (hall c hc) hj)
            · rcases all_of T (hall c hc) with h' | h'
              · exact .inr (g.mine r c (by rw [e2]; exact h'))
              · exact g.sees r c (by rw [e2]; exact h')
        · cases h
      · cases h
    · exact lookO_ok (ty := ty) g hx h
  · exact lookO_ok g hx h
theorem reads_ok (g : G P w0 F nt H L XD X a w) : ∀ (args : List (TypeId × Operand)) (ws : List Bool) (Us : List LT) (K : List Nat → List TV → Option α), args.all (fun q => fitO nt q.2) = true → reads P (L.map erA) ws args (Us.map er) K = some res →
    ∃ (D : List Nat) (Ts Ro : List LT), K D (Ts.map er) = some res ∧ Rd a args ws Us Ts ∧ (∀ T ∈ Ts, T ∈ Us ∨ T ∈ Ro) ∧ (∀ T ∈ Ro, Mem w T ∧ own T = [] ∧ (∀ j b, b ∈ shr T → b ∈ ownA (slot L j) → j ∈ D) ∧ (∀ b ∈ shr T, b ∉ ownL X) ∧ (∀ b ∈ shr T, Bs F w0 b)) ∧ (ownL Ts).Sublist (ownL Us)
  | [], ws, Us, K, _, h => ⟨[], [], [], by simpa [reads] using h, rfl, fun T h => (by cases h), fun T h => (by cases h), by simp [ownL]⟩
  | (ty, x) :: rest, ws, Us, K, hf, h => by
    simp only [List.all_cons, Bool.and_eq_true] at hf
    simp only [reads] at h
    cases hw : ws.headD false with
    | true =>
      rw [hw, cond_true] at h
      cases Us with
      | nil => cases h
      | cons U Us =>
        obtain ⟨D, Ts, Ro, h1, h2, h3, h5, h4⟩ := reads_ok g rest ws.tail Us _ hf.2 h
        refine ⟨D, U :: Ts, Ro, h1, .inl ⟨hw, Us, rfl, h2⟩, fun T hT => ?_, h5, by simpa [ownL] using h4⟩
        rcases List.mem_cons.1 hT with h | h
        · exact .inl (by simp [h])
        · exact (h3 T h).imp (List.mem_cons_of_mem _) id
    | false =>
      rw [hw, cond_false] at h
      obtain ⟨D, T, h, hmT, hvT, ha, hX, hs, hB⟩ := lookP_ok g hf.1 h
      obtain ⟨D2, Ts, Ro, h1, h2, h3, h5, h4⟩ := reads_ok g rest ws.tail Us _ hf.2 h
      refine ⟨_, roTop T :: Ts, roTop T :: Ro, by rw [List.map_cons, ← er_roTop]; exact h1, .inr ⟨hw, by rw [valOf_roTop]; exact hvT, own_roTop T, h2⟩, fun T' hT => ?_, fun T' hT => ?_, by simpa [ownL, own_roTop] using h4⟩
      · rcases List.mem_cons.1 hT with h | h
        · exact .inr (by simp [h])
        · exact (h3 T' h).imp id (List.mem_cons_of_mem _)
      · rcases List.mem_cons.1 hT with h | h
        · subst h
          refine ⟨mem_roTop T hmT, own_roTop T, fun j b hb hj => ?_, fun b hb => hX b (by rwa [shr_roTop] at hb), fun b hb => hB b (by rwa [shr_roTop] at hb)⟩
          rw [shr_roTop] at hb
          exact List.mem_append.2 (.inl (ha j b hb hj))
        · obtain ⟨k1, k2, k3, k4, k5⟩ := h5 T' h
          exact ⟨k1, k2, fun j b hb hj => List.mem_append.2 (.inr (k3 j b hb hj)), k4, k5⟩
/-- A closure is made. -/
theorem makeFunc_ok (g : G P w0 F nt H L [] [] a w) {d : Option Tmp} (hd : fitD nt d = true) {f : FuncId} {caps : Array Operand} (hf : caps.toList.all (fitO nt) = true) {K : Env → Option α}
    (h : reads P (L.map erA) [] (caps.toList.map fun x => (0, x)) [] (fun deps ts => bif ts.any isStT then none else K (putD (L.map erA) d (.val deps (.cl f ts)))) = some res) :
    ∃ v, (∀ w, (Instr.makeFunc (.func f) #[] (caps.map a.eval)).run P w = .ok v w) ∧ Nxt P w0 F nt H K res (a.put d v) w := by
  obtain ⟨D, Ts, Ro, h, hrd, hTsU, hRo, hown⟩ := reads_ok g _ _ [] _ (by simpa using hf) h
  cases hst : (Ts.map er).any isStT with
  | true => rw [hst] at h; cases h
  | false =>
    rw [hst, cond_false] at h
    have hvals : ∀ (xs : List Operand) (Ts : List LT), Rd a (xs.map fun x => (0, x)) [] [] Ts → (∀ T ∈ Ts, isSt T = false) → xs.map a.eval = cellsL Ts := by
      intro xs
      induction xs with
      | nil => intro Ts h _; cases h; rfl
      | cons x xs ih =>
        intro Ts h hT
        cases Ts with
        | nil => cases h
        | cons T Ts =>
          rcases h with ⟨h, _⟩ | ⟨_, h1, _, h2⟩
          · cases h
          · rw [List.map_cons, ih Ts h2 (fun T' h' => hT T' (List.mem_cons_of_mem _ h')), cellsL, cells_one (hT T List.mem_cons_self), h1]; rfl
    have hTs' := fun T hT => hRo T ((hTsU T hT).resolve_left (by simp))
    have hv := hvals caps.toList Ts hrd (fun T hT => by
      have := List.any_eq_false.1 hst (er T) (List.mem_map.2 ⟨T, hT, rfl⟩)
      rw [isSt_er] at this
      simpa using this)
    have ho : ownL Ts = [] := List.eq_nil_of_sublist_nil (by simpa [ownL] using hown)
    have hsm : ∀ b, b ∈ shrL Ts → ∃ T ∈ Ts, b ∈ shr T := fun b hb => by rw [shrL_eq] at hb; simpa using hb
    have g1 := g.addRo (T := .cl f Ts) (D := D) (memL_iff.2 fun T hT => (hTs' T hT).1) ho (fun j b hb hj => by
      obtain ⟨T, hT, hb⟩ := hsm b hb
      exact (hTs' T hT).2.2.1 j b hb hj) (fun b _ => by simp [ownL]) (fun b hb => by
      obtain ⟨T, hT, hb⟩ := hsm b hb
      exact (hTs' T hT).2.2.2.2 b hb)
    refine ⟨_, fun _ => rfl, landT g1 hd ?_ (by rw [er_cl]; exact h)⟩
    show Value.func (.func f) #[] (caps.map a.eval) = Value.func (.func f) #[] (cellsL Ts).toArray
    rw [← hv]
    congr 1
    apply Array.ext'
    simp
end Go.Tree

/- Trees of values: calls: arguments are lent and read; what came of them is put back. -/
namespace Go.Tree
set_option linter.unusedSectionVars false
set_option linter.unusedVariables false
set_option linter.unusedSimpArgs false
variable {P : Program} {w0 : World} {F : Fm} {nt : Nat} {H : List Value} {L : List (AV Value)} {XD : List Nat} {X : List LT} {a : Act} {w : World} {α : Type} {res : α}
variable [Pol]
abbrev Lp := Nat × List Stp × TypeId × Bool
theorem farP_symm {q q' : Nat × List Stp} (h : farP q q' = true) : farP q' q = true := by
  rcases farP_spec h with h | ⟨h1, h2⟩
  · simp [farP, Ne.symm h]
  · simp [farP, h1, h2]
/-- The places of what is lent. -/
def Plcs (sm : Bool) (L : List (AV Value)) : List Lp → List LT → Prop
  | [], Us => Us = []
  | (r, p, _, _) :: pl, U :: Us => Pl L (r, p) (valOf U) ∧ Qt L (r, p) ∧ (sm = false → isSt U = false) ∧ (∀ e ∈ pl, farP (r, p) (e.1, e.2.1) = true) ∧ Plcs sm L pl Us
  | _ :: _, [] => False
/-- The operands that are lent. -/
def Ln (a : Act) : List (TypeId × Operand) → List Bool → List Bool → List Lp → List LT → Prop
  | [], _, _, pl, Us => pl = [] ∧ Us = []
  | (ty, x) :: rest, ws, cs, pl, Us => (ws.headD false = true ∧ ∃ e pl' U Us', pl = e :: pl' ∧ Us = U :: Us' ∧ e.2.2.2 = cs.headD false ∧ a.eval x = valOf U ∧ Ln a rest ws.tail cs.tail pl' Us') ∨ (ws.headD false = false ∧ Ln a rest ws.tail cs.tail pl Us)
theorem Plcs.mono {sm : Bool} {L L' : List (AV Value)} : ∀ {pl : List Lp} {Us : List LT}, Plcs sm L pl Us → (∀ e ∈ pl, ∀ v, Pl L (e.1, e.2.1) v → Pl L' (e.1, e.2.1) v) → (∀ q, Qt L q → Qt L' q) → Plcs sm L' pl Us
  | [], Us, h, _, _ => h
  | (r, p, ty, us) :: pl, U :: Us, h, h1, h2 => ⟨h1 _ List.mem_cons_self _ h.1, h2 _ h.2.1, h.2.2.1, h.2.2.2.1, h.2.2.2.2.mono (fun e he => h1 e (List.mem_cons_of_mem _ he)) h2⟩
  | _ :: _, [], h, _, _ => h
/-- One slot's value is lent. -/
theorem lend_ok {sm : Bool} (g : G P w0 F nt H L XD X a w) {s : Nat} (hs : s < nt) (hX : rootS L s ∉ XD) {K : List Nat → TV → Nat → List Stp → Env → Option α} (h : lend P sm (L.map erA) s K = some res) :
    ∃ D U r p L', K D (er U) r p (L'.map erA) = some res ∧ G P w0 F nt H L' (XD ++ D) (X ++ [U]) a w ∧ a.eval (.tmp s) = valOf U ∧ (sm = false → isSt U = false) ∧ Pl L' (r, p) (valOf U) ∧ Qt L' (r, p) ∧ (∀ q v, farP (r, p) q = true → Pl L q v → Pl L' q v) ∧ (∀ q, Qt L q → Qt L' q) := by
  have hso := g.slots s hs
  unfold lend at h
  rw [slot_er] at h
  split at h
  · rename_i deps t ht
    obtain ⟨T, e, rfl⟩ := erA_val ht
    have hm := g.mem s
    rw [e] at hso hm
    split at h
    · rename_i hc
      simp only [Bool.and_eq_true] at hc
      rw [rootS, e] at hX
      have hst : sm = false → isSt T = false := fun h0 => isBox_st (by simpa [h0] using hc.2)
      have g1 := take_core (p := []) (u' := T) (T' := deaden T) g e hX (Vk.refl T) hm trivial (Vk.refl T) hm rfl (by simp [Flt]) rfl
      have hsl : s < L.length := Nat.lt_of_lt_of_le hs g.len
      obtain ⟨l1, l2, l3, l4⟩ := lent_places (p := []) (U := T) (T2 := T) (T' := deaden T) hsl e (Lk.refl T) (isSt_val hm) (Vk.refl T) trivial rfl
      refine ⟨deps, T, s, [], _, ?_, g1, hso, hst, l1, l2, l3, l4⟩
      rw [← killC_map_er, ← er_deaden]; exact h
    · cases h
  · rename_i r p ty sn ht
    have e := erA_ref ht
    rw [slot_er] at h
    split at h
    · rename_i deps t hr
      obtain ⟨T, er', rfl⟩ := erA_val hr
      rw [e] at hso
      rw [rootS, e] at hX
      obtain ⟨hv, hrv, _⟩ := hso deps T er'
      have hm := g.mem r
      rw [er'] at hm
      obtain ⟨_, _, opq, u, h, hlk, hmu, hvk⟩ := getK_ok p false false T _ hm hv.bd h
      obtain ⟨U, h, hv', hmU⟩ := lay_ok hmu h
      have evu : valOf U = valOf (get default false T p).2 := by rw [hv'.lk.valOf, hlk.valOf]
      split at h
      · rename_i hc
        simp only [Bool.and_eq_true] at hc
        have hst : sm = false → isSt U = false := fun h0 => isBox_st (by simpa [h0] using hc.2)
        rw [er_deaden] at h
        obtain ⟨T2, T', h, h2, h3, h4, h5, h6, h7, h8, h9⟩ := putK_ok (deaden U) p false T _ hm hv.bd (fun h => by cases h) h
        have hg := h2.get hv
        have h0 : (get default false T p).1 = false := by rw [← hg.1]; exact h7
        rw [h0] at hv'
        have g1 := take_core g er' hX h2 h3 h4 ((hvk h0).trans hv') hmU h5 h9 h7
        have hrl : r < L.length := slot_lt (by rw [er']; simp)
        obtain ⟨l1, l2, l3, l4⟩ := lent_places hrl er' (hlk.trans hv'.lk) (isSt_val hmU) h2 h4 h5
        refine ⟨deps, U, r, p, _, ?_, g1, ?_, hst, l1, l2, l3, l4⟩
        · rw [← killC_map_er]; exact h
        · rw [eval_tmp, evu]; exact hrv
      · cases h
    · cases h
  · cases h
/-- Arguments are lent. -/
theorem lends_ok {sm : Bool} : ∀ (args : List (TypeId × Operand)) (ws cs : List Bool) (pls : List (Nat × List Stp)) {XD : List Nat} {X : List LT} {L : List (AV Value)} (g : G P w0 F nt H L XD X a w) {K : List Nat → List Lp → List TV → Env → Option α}, args.all (fun q => fitO nt q.2) = true → lends P sm XD pls (L.map erA) ws cs args K = some res →
    ∃ (D : List Nat) (pl : List Lp) (Us : List LT) (L' : List (AV Value)), K D pl (Us.map er) (L'.map erA) = some res ∧ G P w0 F nt H L' D (X ++ Us) a w ∧ Ln a args ws cs pl Us ∧ Plcs sm L' pl Us ∧ (∀ q ∈ pls, ∀ v, Pl L q v → Pl L' q v) ∧ (∀ q, Qt L q → Qt L' q) ∧ (∀ e ∈ pl, ∀ q ∈ pls, farP q (e.1, e.2.1) = true)
  | [], ws, cs, pls, XD, X, L, g, K, _, h => ⟨XD, [], [], L, by simpa [lends] using h, by simpa using g, ⟨rfl, rfl⟩, rfl, fun q _ v h => h, fun q h => h, fun e he => by cases he⟩
  | (ty, x) :: rest, ws, cs, pls, XD, X, L, g, K, hf, h => by
    simp only [List.all_cons, Bool.and_eq_true] at hf
    simp only [lends] at h
    cases hw : ws.headD false with
    | false =>
      rw [hw, cond_false] at h
      obtain ⟨D, pl, Us, L', h1, h2, h3, h4⟩ := lends_ok rest ws.tail cs.tail pls g hf.2 h
      exact ⟨D, pl, Us, L', h1, h2, .inr ⟨hw, h3⟩, h4⟩
    | true =>
      rw [hw, cond_true] at h
      cases x with
      | tmp s =>
        simp only at h
        cases hb : XD.any (rootOf (L.map erA) (.tmp s)) with
        | true => rw [hb] at h; cases h
        | false =>
          rw [hb, cond_false] at h
          obtain ⟨D, U, r, p, L1, h, g1, hv, hst, l1, l2, l3, l4⟩ := lend_ok g (by simpa [fitO] using hf.1) (rootOf_spec rfl hb) h
          cases hfar : pls.all (farP (r, p)) with
          | false => rw [hfar] at h; cases h
          | true =>
            rw [hfar, cond_true] at h
            have hfar := List.all_eq_true.1 hfar
            obtain ⟨D2, pl, Us, L2, h, g2, h3, h4, h5, h6, h7⟩ := lends_ok rest ws.tail cs.tail ((r, p) :: pls) g1 hf.2 h
            refine ⟨D2, (r, p, ty, cs.headD false) :: pl, U :: Us, L2, by rw [List.map_cons]; exact h, by simpa using g2, .inl ⟨hw, _, pl, U, Us, rfl, rfl, rfl, hv, h3⟩, ⟨h5 _ List.mem_cons_self _ l1, h6 _ l2, hst, fun e he => h7 e he _ List.mem_cons_self, h4⟩, fun q hq v hp => ?_, fun q hq => h6 q (l4 q hq), fun e he q hq => ?_⟩
            · exact h5 q (List.mem_cons_of_mem _ hq) v (l3 q v (hfar q hq) hp)
            · rcases List.mem_cons.1 he with he | he
              · rw [he]; exact farP_symm (hfar q hq)
              · exact h7 e he q (List.mem_cons_of_mem _ hq)
      | const => cases h
      | global => cases h
      | func => cases h
mutual
/-- What may lead to nobody else's memory does not. -/
theorem hasRo_shr : ∀ (T : LT), Mem w T → hasRo (er T) = false → shr T = []
  | .fl v, _, _ => rfl
  | .st xs, hm, h => by
    rw [er_st] at h
    exact hasRoL_shr xs hm h
  | .sl ro k hd xs, hm, h => by
    rw [er_sl] at h
    simp only [hasRo, Bool.or_eq_false_iff] at h
    obtain ⟨rfl, hk⟩ := h
    simp only [shr, Bool.false_eq_true, if_false]
    exact (all_nilL fun x hx => (hm.2.1 x hx).2 hk).2
  | .pt ro hd x, hm, h => by
    rw [er_pt] at h
    simp only [hasRo, Bool.or_eq_false_iff] at h
    obtain ⟨rfl, hx⟩ := h
    simp only [shr, Bool.false_eq_true, if_false]
    exact hasRo_shr x hm.2 hx
  | .cl f xs, hm, h => by
    rw [er_cl] at h
    exact hasRoL_shr xs hm h
  | .dead v, _, _ => rfl
theorem hasRoL_shr : ∀ (Ts : List LT), MemL w Ts → hasRoL (Ts.map er) = false → shrL Ts = []
  | [], _, _ => rfl
  | x :: xs, hm, h => by
    simp only [List.map_cons, hasRoL, Bool.or_eq_false_iff] at h
    rw [shrL, hasRo_shr x hm.1 h.1, hasRoL_shr xs hm.2 h.2]; rfl
end
mutual
/-- What owns all that it leads to leads to nobody else's memory. -/
theorem deep_shr : ∀ (T : LT), Mem w T → deep (er T) = true → shr T = []
  | .fl v, _, _ => rfl
  | .st xs, hm, h => by
    rw [er_st] at h
    exact deepL_shr xs hm h
  | .sl ro k hd xs, hm, h => by
    rw [er_sl] at h
    simp only [deep, Bool.and_eq_true, Bool.not_eq_true', Bool.or_eq_true] at h
    obtain ⟨rfl, hk⟩ := h
    simp only [shr, Bool.false_eq_true, if_false]
    rcases hk with hk | hk
    · exact (all_nilL fun x hx => (hm.2.1 x hx).2 hk).2
    · exact deepL_shr xs hm.2.2 hk
  | .pt ro hd x, hm, h => by
    rw [er_pt] at h
    simp only [deep, Bool.and_eq_true, Bool.not_eq_true'] at h
    obtain ⟨rfl, hx⟩ := h
    simp only [shr, Bool.false_eq_true, if_false]
    exact deep_shr x hm.2 hx
  | .cl f xs, hm, h => by rw [er_cl] at h; cases h
  | .dead v, _, _ => rfl
theorem deepL_shr : ∀ (Ts : List LT), MemL w Ts → deepL (Ts.map er) = true → shrL Ts = []
  | [], _, _ => rfl
  | x :: xs, hm, h => by
    simp only [List.map_cons, deepL, Bool.and_eq_true] at h
    rw [shrL, deep_shr x hm.1 h.1, deepL_shr xs hm.2 h.2]; rfl
end
/-- What came of what was lent. -/
def Bk : List Lp → List LT → List LT → Prop
  | [], _, Vs => Vs = []
  | e :: pl, U :: Us, Vs => (e.2.2.2 = true ∧ Bk pl Us Vs) ∨ (e.2.2.2 = false ∧ ∃ V Vs', Vs = V :: Vs' ∧ valOf V = valOf U ∧ Bk pl Us Vs')
  | _ :: _, [], _ => False
theorem G.perm (g : G P w0 F nt H L XD X a w) {X' : List LT} (h : X'.Perm X) : G P w0 F nt H L XD X' a w := by
  have ho : (ownL X').Perm (ownL X) := by rw [ownL_eq, ownL_eq]; exact h.flatMap_right own
  have hs : (shrL X').Perm (shrL X) := by rw [shrL_eq, shrL_eq]; exact h.flatMap_right shr
  exact g.swap (memL_iff.2 fun x hx => memL_iff.1 g.memX x (h.mem_iff.1 hx)) (ho.nodup_iff.2 g.dj.xn) (fun b hb => ho.mem_iff.1 hb) (fun b hb => hs.mem_iff.1 hb)
theorem backs_ok {sm : Bool} {D : List Nat} : ∀ (pl : List Lp) (Us Vs : List LT) {X : List LT} {L : List (AV Value)} (g : G P w0 F nt H L D (Vs ++ X) a w) {K : Env → Option α}, Plcs sm L pl Us → Bk pl Us Vs → backs P (L.map erA) D pl (Vs.map er) K = some res →
    ∃ L', K (L'.map erA) = some res ∧ G P w0 F nt H L' D X a w
  | [], Us, Vs, X, L, g, K, hp, hb, h => by
    have hb : Vs = [] := hb
    subst hb
    exact ⟨L, by simpa [backs, mNil] using h, by simpa using g⟩
  | e :: pl, [], Vs, X, L, g, K, hp, hb, h => hb.elim
  | (r, p, ty, used) :: pl, U :: Us, Vs, X, L, g, K, hp, hb, h => by
    obtain ⟨hp1, hp2, hst, hfar, hp3⟩ := hp
    simp only [backs] at h
    rcases hb with ⟨hu, hb⟩ | ⟨hu, V, Vs', rfl, hvv, hb⟩
    · have hu : used = true := hu
      rw [hu, cond_true] at h
      exact backs_ok pl Us Vs g hp3 hb h
    · have hu : used = false := hu
      rw [hu, cond_false] at h
      simp only [List.map_cons, mCons] at h
      rw [slot_er] at h
      split at h
      · rename_i deps t ht
        obtain ⟨T, e, rfl⟩ := erA_val ht
        have hmV : Mem w V := g.memX.1
        obtain ⟨V', h, hvk, hmV'⟩ := view_ok _ hmV h
        have h : (bif !(isBox (er V') || isStT (er V')) then none else _) = some res := h
        cases hbx : (isBox (er V') || isStT (er V')) with
        | false => rw [hbx] at h; cases h
        | true =>
        rw [hbx] at h
        simp only [Bool.not_true, cond_false] at h
        have hD : ∀ j b, b ∈ shr V' → b ∈ ownA (slot L j) → j ∈ (if hasRo (er V') then D else []) := fun j b hb hj => by
          cases hr : hasRo (er V') with
          | true =>
            simp only [if_true]
            rw [hvk.wr.2] at hb
            exact g.dj.xd j b (by simp [shrL, hb]) hj
          | false => rw [hasRo_shr V' hmV' hr] at hb; cases hb
        generalize hD' : (if hasRo (er V') = true then D else []) = D' at h hD
        cases hc : D'.contains r with
        | true => rw [hc] at h; cases h
        | false =>
          rw [hc, cond_false] at h
          have hm := g.mem r
          rw [e] at hm
          obtain ⟨hv1, hv2, hv3⟩ := hp1 deps T e
          obtain ⟨T2, T', h, h2, h3, h4, h5, h6, h7, h8, h9⟩ := putB_ok V' p false T _ hm hv1.bd (fun h => by cases h) h
          have g1 : G P w0 F nt H L D (V :: (Vs' ++ X)) a w := g
          obtain ⟨g2, k1, k2⟩ := back_core g1 e (by rw [hvv]; exact hp1) hp2 (isSt_val hmV) hvk hmV' hbx hD (by simpa using hc) h2 h3 h4 h5 h7 h9
          have hset : (L.map erA).set r (.val (deps ++ D') (er T')) = (L.set r (.val (deps ++ D') T')).map erA := by rw [List.map_set]; rfl
          rw [hset] at h
          exact backs_ok pl Us Vs' g2 (hp3.mono (fun e' he v => k1 _ v (hfar e' he)) k2) hb h
      · cases h
end Go.Tree
