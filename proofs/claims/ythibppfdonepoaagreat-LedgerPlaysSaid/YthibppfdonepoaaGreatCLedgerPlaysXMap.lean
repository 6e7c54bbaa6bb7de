/- Words of this session: a map with keys of one integer kind, its entries told as a rising list. No condition. -/
import Derived.Maps.Keyed
import Derived.Maps.Range
import Derived.Maps.RangeRun
import Derived.Maps.Own
import Derived.WideLaws
set_option linter.unusedVariables false
namespace Go.Proofs.YthibppfdonepoaaGreat.XMap
open Go.RowKit Go.MapKept Go.Maps Go.ChangeMaps
def Rising (m : List (Int × Value)) : Prop := m.Pairwise fun p r => p.1 < r.1
def look (m : List (Int × Value)) (k : Int) : Option Value := (m.find? fun p => p.1 == k).map (·.2)
def put : List (Int × Value) → Int → Value → List (Int × Value)
 | [], k, v => [(k, v)]
 | p :: m, k, v => if k < p.1 then (k, v) :: p :: m else if k = p.1 then (k, v) :: m else p :: put m k v
def del (m : List (Int × Value)) (k : Int) : List (Int × Value) := m.filter fun p => p.1 != k
theorem look_mem {m : List (Int × Value)} (hr : Rising m) {p : Int × Value} (h : p ∈ m) : look m p.1 = some p.2 := by
 induction m with
 | nil => cases h
 | cons a m ih =>
  obtain ⟨h1, h2⟩ := List.pairwise_cons.1 hr
  unfold look
  rcases List.mem_cons.1 h with rfl | h
  ·simp
  ·have := h1 p h
   rw [List.find?_cons_of_neg (by simp; omega)]
   exact ih h2 h
theorem look_none {m : List (Int × Value)} {k : Int} (h : ∀ p ∈ m, p.1 ≠ k) : look m k = none := by
 unfold look
 rw [List.find?_eq_none.2 (fun p hp => by simpa using h p hp)]
 rfl
theorem mem_of_look {m : List (Int × Value)} {k : Int} {v : Value} (h : look m k = some v) : (k, v) ∈ m := by
 unfold look at h
 obtain ⟨p, hp, rfl⟩ := Option.map_eq_some_iff.1 h
 have h1 := List.find?_some hp
 have h2 := List.mem_of_find?_eq_some hp
 have h3 : p.1 = k := by simpa using h1
 subst h3
 exact h2
theorem not_of_look {m : List (Int × Value)} {k : Int} (h : look m k = none) : ∀ p ∈ m, p.1 ≠ k := by
 unfold look at h
 intro p hp e
 have := List.find?_eq_none.1 (Option.map_eq_none_iff.1 h) p hp
 simp [e] at this
theorem put_mem {m : List (Int × Value)} {k : Int} {v : Value} {p : Int × Value} (h : p ∈ put m k v) : p = (k, v) ∨ p ∈ m := by
 induction m with
 | nil => exact .inl (by simpa [put] using h)
 | cons a m ih =>
  unfold put at h
  split at h
  ·rcases List.mem_cons.1 h with h | h
   ·exact .inl h
   ·exact .inr h
  ·split at h
   ·rcases List.mem_cons.1 h with h | h
    ·exact .inl h
    ·exact .inr (by simp [h])
   ·rcases List.mem_cons.1 h with h | h
    ·exact .inr (by simp [h])
    ·exact (ih h).imp id fun h => by simp [h]
theorem put_rising {m : List (Int × Value)} (hr : Rising m) (k : Int) (v : Value) : Rising (put m k v) := by
 induction m with
 | nil => exact List.pairwise_singleton _ _
 | cons a m ih =>
  obtain ⟨h1, h2⟩ := List.pairwise_cons.1 hr
  unfold put
  split
  ·rename_i h
   refine List.pairwise_cons.2 ⟨fun p hp => ?_, hr⟩
   rcases List.mem_cons.1 hp with rfl | hp
   ·exact h
   ·have := h1 p hp
    simp only
    omega
  ·split
   ·rename_i _ h
    refine List.pairwise_cons.2 ⟨fun p hp => ?_, h2⟩
    have := h1 p hp
    simp only
    omega
   ·rename_i h3 h4
    refine List.pairwise_cons.2 ⟨fun p hp => ?_, ih h2⟩
    rcases put_mem hp with rfl | hp
    ·simp only
     omega
    ·exact h1 p hp
theorem put_new {m : List (Int × Value)} {k : Int} {v : Value} (h : look m k = none) : (put m k v).Perm ((k, v) :: m) := by
 induction m with
 | nil => exact .refl _
 | cons a m ih =>
  have hn := not_of_look h
  unfold put
  split
  ·exact .refl _
  ·rename_i h1
   rw [if_neg (fun e => hn a (by simp) e.symm)]
   have h2 : look m k = none := look_none fun p hp => hn p (by simp [hp])
   exact ((ih h2).cons a).trans (.swap _ _ _)
theorem put_there {m : List (Int × Value)} (hr : Rising m) {k : Int} {v : Value} (h : ∃ x, look m k = some x) : put m k v = m.map fun p => if p.1 = k then (k, v) else p := by
 induction m with
 | nil => obtain ⟨x, h⟩ := h; cases h
 | cons a m ih =>
  obtain ⟨h1, h2⟩ := List.pairwise_cons.1 hr
  obtain ⟨x, hx⟩ := h
  have hm := mem_of_look hx
  unfold put
  rw [List.map_cons]
  rcases List.mem_cons.1 hm with rfl | hm
  ·rw [if_neg (by simp), if_pos rfl, if_pos rfl]
   congr 1
   refine ((List.map_congr_left fun p hp => ?_).trans (List.map_id m)).symm
   have := h1 p hp
   simp only at this
   exact if_neg (by omega)
  ·have := h1 _ hm
   simp only at this
   rw [if_neg (by omega), if_neg (by omega), if_neg (by omega), ih h2 ⟨x, look_mem h2 hm⟩]
theorem del_rising {m : List (Int × Value)} (hr : Rising m) (k : Int) : Rising (del m k) := List.Pairwise.sublist List.filter_sublist hr
def ents (q : IntKind) (m : List (Int × Value)) : List (Value × Value) := m.map fun p => (Value.int q p.1, p.2)
def pairOf (e : MapEntry) : Value × Value := (e.key, e.val)
structure Fits (q : IntKind) (es : Array MapEntry) (clock : Nat) (m : List (Int × Value)) : Prop where
 stamped : Stamped es clock
 perm : (es.toList.map pairOf).Perm (ents q m)
 rising : Rising m
 wf : ∀ p ∈ m, (Lit.int q p.1).wf = true
def MapAt (w : World) (q : IntKind) (g : Nat) (m : List (Int × Value)) : Prop := ∃ es clock, w.heap[g]? = some (.map es clock) ∧ Fits q es clock m
theorem Fits.size {q : IntKind} {es : Array MapEntry} {clock : Nat} {m : List (Int × Value)} (h : Fits q es clock m) : es.size = m.length := by
 have := h.perm.length_eq
 simpa [ents] using this
theorem Fits.mem {q : IntKind} {es : Array MapEntry} {clock : Nat} {m : List (Int × Value)} (h : Fits q es clock m) {e : MapEntry} (he : e ∈ es.toList) : ∃ p ∈ m, e.key = .int q p.1 ∧ e.val = p.2 := by
 have h1 : pairOf e ∈ ents q m := h.perm.mem_iff.1 (List.mem_map.2 ⟨e, he, rfl⟩)
 obtain ⟨p, hp, h2⟩ := List.mem_map.1 h1
 unfold pairOf at h2
 injection h2 with h3 h4
 exact ⟨p, hp, h3.symm, h4.symm⟩
theorem Fits.mem' {q : IntKind} {es : Array MapEntry} {clock : Nat} {m : List (Int × Value)} (h : Fits q es clock m) {p : Int × Value} (hp : p ∈ m) : ∃ e ∈ es.toList, e.key = .int q p.1 ∧ e.val = p.2 := by
 have h1 : (Value.int q p.1, p.2) ∈ es.toList.map pairOf := h.perm.mem_iff.2 (List.mem_map.2 ⟨p, hp, rfl⟩)
 obtain ⟨e, he, h2⟩ := List.mem_map.1 h1
 unfold pairOf at h2
 injection h2 with h3 h4
 exact ⟨e, he, h3, h4⟩
section
variable {P : Program} {w : World} {q : IntKind} {t kt et : TypeId} {g : Nat} {m : List (Int × Value)} {k : Int}
theorem MapAt.lt (h : MapAt w q g m) : g < w.heap.size := by
 obtain ⟨es, clock, hb, _⟩ := h
 exact (Array.getElem?_eq_some_iff.1 hb).1
theorem MapAt.rising (h : MapAt w q g m) : Rising m := by
 obtain ⟨es, clock, _, F⟩ := h
 exact F.rising
theorem MapAt.wf (h : MapAt w q g m) : ∀ p ∈ m, (Lit.int q p.1).wf = true := by
 obtain ⟨es, clock, _, F⟩ := h
 exact F.wf
theorem MapAt.of_block {w' : World} (h : MapAt w q g m) (hb : w'.heap[g]? = w.heap[g]?) : MapAt w' q g m := by
 obtain ⟨es, clock, h1, F⟩ := h
 exact ⟨es, clock, hb.trans h1, F⟩
theorem MapAt.made (w : World) : MapAt (w.alloc (.map #[] 0)) q w.heap.size [] :=
 ⟨#[], 0, (MapKept.heap_alloc w _).1, stamped_empty 0, .refl _, List.Pairwise.nil, fun p hp => by cases hp⟩
theorem Fits.find {es : Array MapEntry} {clock : Nat} (F : Fits q es clock m) (hk : P.underlying kt = some (.int q)) (hw : (Lit.int q k).wf = true) :
  ((Instr.findKey kt (.int q k) es.toList).run P w = .ok none w ∧ look m k = none ∧ ∀ e ∈ es.toList, e.key ≠ .int q k) ∨
  ∃ j e, (Instr.findKey kt (.int q k) es.toList).run P w = .ok (some (j, e.val)) w ∧ es.toList[j]? = some e ∧ e.key = .int q k ∧ look m k = some e.val := by
 have K := int_keyed hk
 rcases K.find w (keyOf_int_mk hk hw) es.toList (fun e he => by
  obtain ⟨p, hp, h1, _⟩ := F.mem he
  rw [h1]
  exact ⟨_, keyOf_int_mk hk (F.wf p hp)⟩) with ⟨h1, h2⟩ | ⟨j, e, h1, h2, h3⟩
 ·refine .inl ⟨h1, look_none fun p hp e => ?_, h2⟩
  obtain ⟨x, hx, h3, _⟩ := F.mem' hp
  exact h2 x hx (by rw [h3, e])
 ·refine .inr ⟨j, e, h1, h2, h3, ?_⟩
  obtain ⟨p, hp, h4, h5⟩ := F.mem (List.mem_of_getElem? h2)
  rw [h3] at h4
  injection h4 with _ h4
  rw [h4, h5]
  exact look_mem F.rising hp
theorem MapAt.look (h : MapAt w q g m) (ht : P.underlying t = some (.map kt et)) (hk : P.underlying kt = some (.int q)) (hw : (Lit.int q k).wf = true) :
  (∃ v, XMap.look m k = some v ∧ (Instr.lookup t (.map (some g)) (.int q k) true).run P w = .ok (.tuple #[v, .bool true]) w ∧ (Instr.lookup t (.map (some g)) (.int q k) false).run P w = .ok v w) ∨
  (XMap.look m k = none ∧ ∀ z, (zeroValue et).run P w = .ok z w → (Instr.lookup t (.map (some g)) (.int q k) true).run P w = .ok (.tuple #[z, .bool false]) w ∧ (Instr.lookup t (.map (some g)) (.int q k) false).run P w = .ok z w) := by
 obtain ⟨es, clock, hb, F⟩ := h
 have hc := (int_keyed hk).check w es.isEmpty (keyOf_int_mk hk hw)
 rcases F.find (w := w) hk hw with ⟨h1, h2, _⟩ | ⟨j, e, h1, _, _, h2⟩
 ·exact .inr ⟨h2, fun z hz => ⟨by simp [Instr.lookup, run_underlying ht, MapKept.run_getObj_map hb, hc, h1, hz, Result.andThen], by simp [Instr.lookup, run_underlying ht, MapKept.run_getObj_map hb, hc, h1, hz, Result.andThen]⟩⟩
 ·exact .inl ⟨e.val, h2, by simp [Instr.lookup, run_underlying ht, MapKept.run_getObj_map hb, hc, h1, Result.andThen], by simp [Instr.lookup, run_underlying ht, MapKept.run_getObj_map hb, hc, h1, Result.andThen]⟩
theorem MapAt.drew (h : MapAt w q g m) : MapAt w.drew q g m := h
open Classical in
theorem MapAt.store (h : MapAt w q g m) (ht : P.underlying t = some (.map kt et)) (hk : P.underlying kt = some (.int q)) (hw : (Lit.int q k).wf = true) (hn : m.length < maxLen) (v : Value) :
  ∃ o, (Instr.mapUpdate t (.map (some g)) (.int q k) v).run P w = .ok () (setBlock w g o) ∧ MapAt (setBlock w g o) q g (put m k v) := by
 obtain ⟨es, clock, hb, F⟩ := h
 have K := int_keyed hk
 have hkey := keyOf_int_mk hk hw
 have hc := K.check w false hkey
 have hwf : ∀ p ∈ put m k v, (Lit.int q p.1).wf = true := fun p hp => by
  rcases put_mem hp with rfl | hp
  ·exact hw
  ·exact F.wf p hp
 rcases F.find (w := w) hk hw with ⟨h1, h2, h3⟩ | ⟨j, e0, h1, h2, h3, h4⟩
 ·refine ⟨.map (es.push ⟨.int q k, v, clock⟩) (clock + 1), ?_, ⟨_, _, heap_setBlock_same hb _, stamped_push F.stamped h3, ?_, put_rising F.rising k v, hwf⟩⟩
  ·simp [Instr.mapUpdate, run_underlying ht, MapKept.run_getObj_map hb, hc, h1, MapKept.run_setObj_map _ hb, Result.andThen, setBlock]
  ·rw [Array.toList_push, List.map_append]
   refine (List.perm_append_singleton _ _).trans ?_
   refine (F.perm.cons _).trans ?_
   exact ((put_new (v := v) h2).map fun p => (Value.int q p.1, p.2)).symm
 ·have hj : es[j]? = some e0 := by simpa using h2
  have hjl : j < es.toList.length := (List.getElem?_eq_some_iff.1 h2).1
  have hkeyf : ∀ e', es[j]? = some e' → ({ e' with key := .int q k, val := v } : MapEntry).key = e'.key := fun e' he' => by rw [hj] at he'; cases he'; exact h3.symm
  refine ⟨.map (es.modify j (fun e' => { e' with key := .int q k, val := v })) clock, ?_, ⟨_, _, heap_setBlock_same hb _, stamped_modify F.stamped _ _ (fun _ _ => rfl) (fun e' _ he' => hkeyf e' he'), ?_, put_rising F.rising k v, hwf⟩⟩
  ·simp [Instr.mapUpdate, run_underlying ht, MapKept.run_getObj_map hb, hc, h1, hj, h3, K.stays w hkey, MapKept.run_setObj_map _ hb, Result.andThen, setBlock]
  ·have hmod : (es.modify j (fun e' => { e' with key := .int q k, val := v })).toList.map pairOf = (es.toList.map pairOf).map fun z => if z.1 = .int q k then (.int q k, v) else z := by
    have hst := ((stamped_iff es clock).1 F.stamped).2.2
    apply List.ext_getElem?
    intro i
    rw [List.getElem?_map, List.getElem?_map, List.getElem?_map, Array.getElem?_toList, Array.getElem?_modify, Array.getElem?_toList]
    by_cases hij : j = i
    ·subst hij
     rw [if_pos rfl, hj]
     simp [pairOf, h3]
    ·rw [if_neg hij]
     cases hi : es[i]? with
     | none => rfl
     | some x =>
      have hne : x.key ≠ .int q k := fun e => by
       have hx : es.toList[i]? = some x := by simpa using hi
       have h7 := List.pairwise_iff_getElem.1 hst
       obtain ⟨li, gi⟩ := List.getElem?_eq_some_iff.1 hx
       obtain ⟨lj, gj⟩ := List.getElem?_eq_some_iff.1 h2
       rcases Nat.lt_or_gt_of_ne hij with h | h
       ·exact h7 j i lj li h (by rw [gj, gi, h3, e])
       ·exact h7 i j li lj h (by rw [gj, gi, h3, e])
      simp [pairOf, hne]
   rw [hmod]
   refine (F.perm.map _).trans ?_
   rw [put_there F.rising ⟨_, h4⟩]
   unfold ents
   rw [List.map_map, List.map_map]
   refine List.Perm.of_eq (List.map_congr_left fun p hp => ?_)
   simp only [Function.comp]
   by_cases hp : p.1 = k
   ·rw [if_pos (by rw [hp]), if_pos hp]
   ·rw [if_neg (fun e => hp (by injection e)), if_neg hp]
open Classical in
theorem MapAt.strike {ty : TypeId} (h : MapAt w q g m) (ht : P.underlying t = some (.map kt et)) (hk : P.underlying kt = some (.int q)) (hw : (Lit.int q k).wf = true) :
  ∃ o, (Builtin.delete_ #[t, kt] ty #[.map (some g), .int q k]).run P w = .ok (.tuple #[]) (setBlock w g o) ∧ MapAt (setBlock w g o) q g (del m k) := by
 obtain ⟨es, clock, hb, F⟩ := h
 have K := int_keyed hk
 have hkey := keyOf_int_mk hk hw
 have hc := K.check w es.isEmpty hkey
 have hwf : ∀ p ∈ del m k, (Lit.int q p.1).wf = true := fun p hp => F.wf p (List.mem_filter.1 hp).1
 rcases F.find (w := w) hk hw with ⟨h1, h2, h3⟩ | ⟨j, e0, h1, h2, h3, h4⟩
 ·refine ⟨.map es clock, ?_, ⟨_, _, heap_setBlock_same hb _, F.stamped, ?_, del_rising F.rising k, hwf⟩⟩
  ·simp [Builtin.delete_, run_underlying ht, MapKept.run_getObj_map hb, hc, h1, MapKept.run_setObj_map _ hb, Result.andThen, setBlock]
  ·have : del m k = m := List.filter_eq_self.2 fun p hp => by simpa using not_of_look h2 p hp
   rw [this]
   exact F.perm
 ·have hjl : j < es.toList.length := (List.getElem?_eq_some_iff.1 h2).1
  have hjs : j < es.size := by simpa using hjl
  have hsub : (es.eraseIdxIfInBounds j).toList = es.toList.eraseIdx j := by
   unfold Array.eraseIdxIfInBounds
   rw [dif_pos hjs]
   simp
  refine ⟨.map (es.eraseIdxIfInBounds j) clock, ?_, ⟨_, _, heap_setBlock_same hb _, stamped_erase F.stamped j, ?_, del_rising F.rising k, hwf⟩⟩
  ·simp [Builtin.delete_, run_underlying ht, MapKept.run_getObj_map hb, hc, h1, MapKept.run_setObj_map _ hb, Result.andThen, setBlock]
  ·have hst := ((stamped_iff es clock).1 F.stamped).2.2
   obtain ⟨lj, gj⟩ := List.getElem?_eq_some_iff.1 h2
   have herase : (es.toList.eraseIdx j) = es.toList.filter fun e => !decide (e.key = .int q k) := by
    have hd : ∀ (l : List MapEntry) (j : Nat) (hj : j < l.length), l.Pairwise (fun x y => x.key ≠ y.key) → l[j].key = .int q k → l.eraseIdx j = l.filter fun e => !decide (e.key = .int q k) := by
     intro l
     induction l with
     | nil => intro j hj; simp at hj
     | cons a l ih =>
      intro j hj hp hk
      obtain ⟨p1, p2⟩ := List.pairwise_cons.1 hp
      cases j with
      | zero =>
       have ha : a.key = .int q k := hk
       rw [List.eraseIdx_cons_zero, List.filter_cons_of_neg (by simp [ha])]
       exact (List.filter_eq_self.2 fun e he => by simpa [ha] using fun h => p1 e he (ha.trans h.symm)).symm
      | succ j =>
       have hj' : j < l.length := by simpa using hj
       have hk' : l[j].key = .int q k := hk
       rw [List.eraseIdx_cons_succ, List.filter_cons_of_pos (by simpa using fun h => p1 l[j] (List.getElem_mem hj') (h.trans hk'.symm)), ih j hj' p2 hk']
    exact hd es.toList j lj hst (by rw [gj]; exact h3)
   rw [hsub, herase]
   have e1 : ((es.toList.filter fun e => !decide (e.key = .int q k)).map pairOf) = (es.toList.map pairOf).filter fun z => !decide (z.1 = .int q k) := by
    rw [List.filter_map]
    rfl
   rw [e1]
   refine (F.perm.filter _).trans (List.Perm.of_eq ?_)
   unfold ents del
   rw [List.filter_map]
   congr 1
   refine List.filter_congr fun p hp => ?_
   by_cases h9 : p.1 = k
   ·simp [h9]
   ·simp [h9]
def Told (w : World) (q : IntKind) (g r : Nat) (m : List (Int × Value)) (pre : List Int) : Prop :=
 ∃ es clock since seen c0, w.heap[g]? = some (.map es clock) ∧ Fits q es clock m ∧ w.heap[r]? = some (.mapIter (some g) since seen c0) ∧ (∀ x ∈ es.toList, x.born < since) ∧ since ≤ c0 ∧ since ≤ clock ∧
  pre.Nodup ∧ (∀ x ∈ es.toList, seen.contains x.born = true ↔ ∃ a ∈ pre, x.key = .int q a) ∧ ∀ a ∈ pre, ∃ p ∈ m, p.1 = a
theorem Told.map {r : Nat} {pre : List Int} (h : Told w q g r m pre) : MapAt w q g m := by
 obtain ⟨es, clock, since, seen, c0, h1, F, _⟩ := h
 exact ⟨es, clock, h1, F⟩
theorem Told.of_blocks {w' : World} {r : Nat} {pre : List Int} (h : Told w q g r m pre) (hg : w'.heap[g]? = w.heap[g]?) (hr : w'.heap[r]? = w.heap[r]?) : Told w' q g r m pre := by
 obtain ⟨es, clock, since, seen, c0, h1, F, h2, h3⟩ := h
 exact ⟨es, clock, since, seen, c0, hg.trans h1, F, hr.trans h2, h3⟩
theorem Told.lt {r : Nat} {pre : List Int} (h : Told w q g r m pre) : r < w.heap.size := by
 obtain ⟨es, clock, since, seen, c0, h1, F, h2, h3⟩ := h
 exact (Array.getElem?_eq_some_iff.1 h2).1
theorem MapAt.range (h : MapAt w q g m) (ht : P.underlying t = some (.map kt et)) :
  ∃ o, (Instr.range t (.map (some g))).run P w = .ok (.pointer (some ⟨w.heap.size, 0, none⟩)) (w.alloc o) ∧ Told (w.alloc o) q g w.heap.size m [] := by
 have hlt := h.lt
 obtain ⟨es, clock, hb, F⟩ := h
 refine ⟨_, run_range_map w t kt et g es clock ht hb, es, clock, clock, #[], clock, ((MapKept.heap_alloc w _).2 g hlt).trans hb, F, (MapKept.heap_alloc w _).1, F.stamped.1, Nat.le_refl _, Nat.le_refl _, List.nodup_nil, ?_, fun a h => by cases h⟩
 intro x hx
 simp
theorem nodup_snoc {pre : List Int} {a : Int} (h : pre.Nodup) (ha : a ∉ pre) : (pre ++ [a]).Nodup := by
 rw [List.nodup_append]
 refine ⟨h, List.pairwise_singleton _ _, fun x hx y hy e => ?_⟩
 rw [List.mem_singleton.1 hy] at e
 exact ha (e ▸ hx)
theorem Told.next {r : Nat} {pre : List Int} (h : Told w q g r m pre) (hne : g ≠ r) (ty : TypeId) :
  ((Instr.next (.pointer (some ⟨r, 0, none⟩)) false ty).run P w = .ok (.tuple #[.bool false]) w ∧ pre.Perm (m.map (·.1))) ∨
  ∃ p ∈ m, p.1 ∉ pre ∧ ∃ w1 o, (w1 = w ∨ w1 = w.drew) ∧ (Instr.next (.pointer (some ⟨r, 0, none⟩)) false ty).run P w = .ok (.tuple #[.bool true, .int q p.1, p.2]) (setBlock w1 r o) ∧ Told (setBlock w1 r o) q g r m (pre ++ [p.1]) ∧
   (Instr.entry (.pointer (some ⟨r, 0, none⟩))).run P (setBlock w1 r o) = .ok (.tuple #[.int q p.1, p.2]) (setBlock w1 r o) := by
 obtain ⟨es, clock, since, seen, c0, hb, F, hr, hold, hsc, hsk, hnd, hseen, hin⟩ := h
 rcases run_next_at (P := P) w ty r g since c0 seen es clock hr hb hold hsc with ⟨h0, hrun⟩ | ⟨e, he, w1, hal, hrun⟩
 ·refine .inl ⟨hrun, ?_⟩
  have hall := all_seen es seen h0
  have hnm : (m.map (·.1)).Nodup := List.pairwise_map.2 (F.rising.imp fun h e => by omega)
  refine (List.perm_ext_iff_of_nodup hnd hnm).2 fun a => ⟨fun ha => ?_, fun ha => ?_⟩
  ·obtain ⟨p, hp, rfl⟩ := hin a ha
   exact List.mem_map.2 ⟨p, hp, rfl⟩
  ·obtain ⟨p, hp, rfl⟩ := List.mem_map.1 ha
   obtain ⟨x, hx, h1, _⟩ := F.mem' hp
   obtain ⟨b, hb, h2⟩ := (hseen x hx).1 (hall x hx)
   rw [h1] at h2
   injection h2 with _ h2
   rw [h2]
   exact hb
 ·obtain ⟨hem, hes⟩ := mem_left he
  obtain ⟨p, hp, h1, h2⟩ := F.mem hem
  have hr1 : w1.heap[r]? = some (.mapIter (some g) since seen c0) := by rcases hal with rfl | rfl <;> exact hr
  have hb1 : w1.heap[g]? = some (.map es clock) := by rcases hal with rfl | rfl <;> exact hb
  have hset := heap_set (o' := .mapIter (some g) since (seen.push e.born) clock) hr1
  have hb' : (setBlock w1 r (.mapIter (some g) since (seen.push e.born) clock)).heap[g]? = some (.map es clock) := (hset.2 g hne).trans hb1
  have hst := (stamped_iff es clock).1 F.stamped
  have hnew : p.1 ∉ pre := fun hin' => by
   have := (hseen e hem).2 ⟨p.1, hin', h1⟩
   rw [hes] at this
   cases this
  refine .inr ⟨p, hp, hnew, w1, .mapIter (some g) since (seen.push e.born) clock, hal, by rw [hrun, h1, h2], ⟨es, clock, since, seen.push e.born, clock, hb', F, hset.1, hold, hsk, hsk, ?_, ?_, ?_⟩, ?_⟩
  ·exact nodup_snoc hnd hnew
  ·intro x hx
   rw [contains_push, Bool.or_eq_true, hseen x hx]
   constructor
   ·rintro (⟨a, ha, h3⟩ | h3)
    ·exact ⟨a, by simp [ha], h3⟩
    ·have : x.born = e.born := by simpa using h3
     obtain rfl := born_inj hst.2.1 hx hem this
     exact ⟨p.1, by simp, h1⟩
   ·rintro ⟨a, ha, h3⟩
    rcases List.mem_append.1 ha with ha | ha
    ·exact .inl ⟨a, ha, h3⟩
    ·rw [List.mem_singleton.1 ha, ← h1] at h3
     obtain rfl := entry_eq_of_key hst.2.2 hx hem h3
     exact .inr (by simp)
  ·intro a ha
   rcases List.mem_append.1 ha with ha | ha
   ·exact hin a ha
   ·rw [List.mem_singleton.1 ha]
    exact ⟨p, hp, rfl⟩
  ·have := run_entry_at (P := P) _ r g since seen es clock e hset.1 hb' hem hst.2.1
   rw [this, h1, h2]
end
end Go.Proofs.YthibppfdonepoaaGreat.XMap
