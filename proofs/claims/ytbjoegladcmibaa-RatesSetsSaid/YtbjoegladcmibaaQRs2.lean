/-
  'm[k] = v' in the round of a range over that very map, at a key that is there: the range goes on as it would.
-/
import Derived.Maps.RangeWalk
import Derived.Maps.OwnOps
namespace Go.Proofs.Ytbjoegladcmibaa.Mp
set_option linter.unusedVariables false
set_option linter.unusedSimpArgs false
set_option linter.unnecessarySimpa false
open Go.ChangeMaps Go.MapKept Go.WideShapes Go.ChangeShapes
open Go.WideElems (Fit rd rg pl rd_key rd_val rg_of rd_mk rd_stay other_key)
open Go.Maps (Keyed fit_store)
section
variable {H : Type} {P : Program} {k : TypeId} {R : Value → Option (DataW H × List MemPlace)} {w : World} {b r n : Nat} {D : DataW H} {left : Lit → Bool} {cnt : Nat}
theorem ranges_put {t e : TypeId} (h : w.ranges P k R b r n D left cnt) (K : Keyed P k) (ht : P.underlying t = some (.map k e)) (hn : n < maxLen) {key val : Value} {kl : Lit} {d : DataW H} {ps : List MemPlace}
    (hkey : keyOf P k key = some kl) (hhas : Maps.has D kl = true) (hv : R val = some (d, ps)) :
    ∃ w', (Instr.mapUpdate t (.map (some b)) key val).run P w = .ok () w' ∧ w'.ranges P k R b r n (D.put kl d) left cnt ∧ w.grownBy w' (some b) := by
  have hne := h.ne
  obtain ⟨es, clock, since, seen, c0, hb, F, hs, rfl, hr, hold, hcnt, hl1, hl2, hsc, hsk⟩ := h
  obtain ⟨es', clock', hrun, F', hput, _, _, hwho⟩ := fit_store (R' := R) K ht hb F (Nat.lt_of_le_of_lt hs hn) (fun _ _ _ _ hz => hz) hkey hv
  obtain ⟨p, hp, hpk⟩ := List.any_eq_true.1 hhas
  obtain ⟨x0, hx0, rfl⟩ := List.mem_map.1 (mem_sorted.1 hp)
  have hx0k : (rg P k R x0).1 = kl := WideAt.sameKey_eq hpk
  have hx0key : x0.key = key := by
    obtain ⟨y, hy⟩ := F.reads x0 hx0
    have m1 := rd_key hy
    rw [rg_of hy] at hx0k
    exact K.inj (hx0k ▸ m1) hkey
  rcases K.find w hkey es.toList F.keys with ⟨h1, h2⟩ | ⟨j, e0, h1, h2, h3⟩
  · exact absurd hx0key (h2 x0 hx0)
  · have hj : es[j]? = some e0 := by simpa using h2
    have hlist : (es.modify j (fun e' => { e' with key := key, val := val })).toList = es.toList.set j { e0 with key := key, val := val } := by rw [Array.toList_modify, modify_eq_set _ _ _ _ h2]
    have hrun2 : (Instr.mapUpdate t (.map (some b)) key val).run P w = .ok () (setBlock w b (.map (es.modify j (fun e' => { e' with key := key, val := val })) clock)) := by
      simp [Instr.mapUpdate, run_underlying ht, MapKept.run_getObj_map hb, K.check w false hkey, h1, hj, h3, K.stays w hkey, MapKept.run_setObj_map _ hb, Result.andThen, setBlock]
    have heq : setBlock w b (.map es' clock') = setBlock w b (.map (es.modify j (fun e' => { e' with key := key, val := val })) clock) := by
      rw [hrun] at hrun2
      injection hrun2
    have hobj : some (Obj.map es' clock') = some (Obj.map (es.modify j (fun e' => { e' with key := key, val := val })) clock) := by
      rw [← heap_setBlock_same hb (.map es' clock'), heq, heap_setBlock_same hb]
    injection hobj with hobj
    injection hobj with he1 he2
    subst he1
    subst he2
    have hm0 : e0 ∈ es.toList := List.mem_of_getElem? h2
    have hk0 : (rg P k R e0).1 = kl := by
      obtain ⟨y, hy⟩ := F.reads e0 hm0
      have m1 := rd_key hy
      rw [h3, hkey] at m1
      rw [rg_of hy]
      exact (Option.some.inj m1).symm
    have hnew : (rg P k R { e0 with key := key, val := val }).1 = kl := by
      rw [rg_of (rd_mk (born := e0.born) hkey hv)]
    have hmem : ∀ x ∈ (es.modify j (fun e' => { e' with key := key, val := val })).toList, ∃ y ∈ es.toList, y.born = x.born ∧ (rg P k R x).1 = (rg P k R y).1 := fun x hx => by
      rw [hlist] at hx
      rcases List.mem_or_eq_of_mem_set hx with hx | rfl
      · exact ⟨x, hx, rfl, rfl⟩
      · exact ⟨e0, hm0, rfl, by rw [hk0]; exact hnew⟩
    refine ⟨_, hrun, ⟨_, _, since, seen, c0, heap_setBlock_same hb _, F', by simpa using hs, ?_, (heap_setBlock_other hb _ hne).trans hr, fun x hx => ?_, ?_, fun x hx => ?_, fun kl' hkl' => ?_, hsc, hsk⟩, ⟨rfl, rfl, rfl, by simp [setBlock], fun i _ hi => heap_setBlock_other hb _ (fun e => hi (by rw [e]))⟩⟩
    · rw [DataW.put_eq, hput]
    · obtain ⟨y, hy, e1, _⟩ := hmem x hx
      rw [← e1]; exact hold y hy
    · rw [← hcnt]
      have e1 : ∀ a : Array MapEntry, (leftOf a seen).size = ((a.toList.map (·.born)).filter fun q => !seen.contains q).length := fun a => by
        unfold leftOf
        rw [← Array.length_toList, Array.toList_filter, List.filter_map, List.length_map]
        rfl
      rw [e1, e1, hlist, List.map_set]
      congr 2
      have hb0 : (es.toList.map (·.born))[j]? = some e0.born := by rw [List.getElem?_map, h2]; rfl
      obtain ⟨hlt, e2⟩ := List.getElem?_eq_some_iff.1 hb0
      rw [← e2]
      exact List.set_getElem_self hlt
    · obtain ⟨y, hy, e1, e2⟩ := hmem x hx
      rw [e2, ← e1]; exact hl1 y hy
    · obtain ⟨x, hx, e1⟩ := hl2 kl' hkl'
      by_cases hxk : x.key = key
      · refine ⟨{ e0 with key := key, val := val }, ?_, ?_⟩
        · rw [hlist]
          exact List.mem_iff_getElem.2 ⟨j, by simpa using (List.getElem?_eq_some_iff.1 h2).1, by simp⟩
        · rw [hnew, ← e1]
          obtain ⟨y, hy⟩ := F.reads x hx
          have m1 := rd_key hy
          rw [hxk, hkey] at m1
          rw [rg_of hy]
          exact Option.some.inj m1
      · refine ⟨x, ?_, e1⟩
        rw [hlist]
        obtain ⟨i, hi, ex⟩ := List.getElem_of_mem hx
        have hij : j ≠ i := fun e => by
          subst e
          rw [List.getElem?_eq_getElem hi, ex] at h2
          exact hxk (by rw [Option.some.inj h2]; exact h3)
        exact List.mem_iff_getElem.2 ⟨i, by simpa using hi, by rw [List.getElem_set, if_neg hij]; exact ex⟩
end
end Go.Proofs.Ytbjoegladcmibaa.Mp
