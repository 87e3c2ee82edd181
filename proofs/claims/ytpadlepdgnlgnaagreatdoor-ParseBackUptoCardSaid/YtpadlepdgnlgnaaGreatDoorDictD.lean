/- The dictionary that has been gathered is the plain parser's. -/
import Derived.Test.YtpadlepdgnlgnaaGreatDoorDictC
import Derived.Test.YtpadlepdgnlgnaaGreatDoorValid
set_option linter.all false
namespace Go.Proofs.YtpadlepdgnlgnaaGreatDoor
open Go.RowKit Fo Go.Maps

theorem cellsO_k {c : Obv} {o : Ob} {S : Nat → Prop} {d : Nat} {w : World} (h : ObjAt S d w (cellsO c) o) : c.k = o.kind := by
  obtain ⟨p1, n1, c1, p2, n2, c2, e⟩ := h.shape
  unfold cellsO objCells at e
  simp at e
  exact e.1
theorem pair_of_val {S : Nat → Prop} {d : Nat} {w : World} {vals : List (L × Obv)} {acc : List (L × Ob)} (hkeys : vals.map (·.1) = acc.map (·.1)) (hkids : KidsAt S d w (vals.map fun p => cellsO p.2) (acc.map (·.2))) {x : L} {c : Obv} (hm : (x, c) ∈ vals) :
    ∃ o, (x, o) ∈ acc ∧ ObjAt S d w (cellsO c) o := by
  obtain ⟨i, hi, he⟩ := List.mem_iff_getElem.1 hm
  have hl : vals.length = acc.length := by have := congrArg List.length hkeys; simpa using this
  have hi2 : i < acc.length := by omega
  have hk : acc[i].1 = x := by
    have h1 : (vals.map (·.1))[i]? = (acc.map (·.1))[i]? := by rw [hkeys]
    simp [hi, hi2, he] at h1
    exact h1.symm
  refine ⟨acc[i].2, ?_, ?_⟩
  · rw [← hk]; exact List.getElem_mem hi2
  · exact (hkids.2 i (cellsO c) acc[i].2 (by simp [hi, he]) (by simp [hi2])).2
theorem val_of_pair {S : Nat → Prop} {d : Nat} {w : World} {vals : List (L × Obv)} {acc : List (L × Ob)} (hkeys : vals.map (·.1) = acc.map (·.1)) (hkids : KidsAt S d w (vals.map fun p => cellsO p.2) (acc.map (·.2))) {x : L} {o : Ob} (hm : (x, o) ∈ acc) :
    ∃ c, (x, c) ∈ vals ∧ ObjAt S d w (cellsO c) o := by
  obtain ⟨i, hi, he⟩ := List.mem_iff_getElem.1 hm
  have hl : vals.length = acc.length := by have := congrArg List.length hkeys; simpa using this
  have hi2 : i < vals.length := by omega
  have hk : vals[i].1 = x := by
    have h1 : (vals.map (·.1))[i]? = (acc.map (·.1))[i]? := by rw [hkeys]
    simp [hi, hi2, he] at h1
    exact h1
  refine ⟨vals[i].2, ?_, ?_⟩
  · rw [← hk]; exact List.getElem_mem hi2
  · exact (hkids.2 i (cellsO vals[i].2) o (by simp [hi2]) (by simp [hi, he])).2
theorem keepB_val {vals : List (L × Obv)} (hn : (vals.map (·.1)).Nodup) {x : L} {c : Obv} (hm : (x, c) ∈ vals) : keepB vals x = (c.k != 0) := by
  unfold keepB
  cases hk : (c.k != 0)
  · rw [List.any_eq_false]
    intro q hq
    by_cases hqx : q.1 = x
    · have h1 := valAt_mem hn hm
      have h2 := valAt_mem hn (x := x) (c := q.2) (by rw [← hqx]; exact hq)
      rw [h1] at h2
      rw [← h2]; simp [hk]
    · simp [hqx]
  · exact List.any_eq_true.2 ⟨(x, c), hm, by simp [hk]⟩
theorem keys_perm {S : Nat → Prop} {d : Nat} {w : World} {vals : List (L × Obv)} {acc : List (L × Ob)} {D : DataW Value} {n b : Nat} (hown : w.ownsMap Tryz.prog 9 obR b n D) (hmi : MapIs D vals) (hkeys : vals.map (·.1) = acc.map (·.1))
    (hkids : KidsAt S d w (vals.map fun p => cellsO p.2) (acc.map (·.2))) {sa : List L} (hP : sa.Perm (strKeys D)) : (sa.filter (keepB vals)).Perm ((acc.filter fun p => p.2.kind != 0).map (·.1)) := by
  obtain ⟨es, hD, hpw, _⟩ := hown.entries Tryz.keyed
  obtain ⟨es', hD', hko⟩ := hown.keysOf
  obtain rfl : es = es' := by rw [hD] at hD'; simpa using hD'
  have h1 : (acc.map (·.1)).Perm (strKeys D) := by
    rw [hD]
    refine perm_strKeys hpw (fun p hp => by obtain ⟨v, hv⟩ := hko p hp; obtain ⟨x, _, hx, _⟩ := Maps.keyOf_str Tryz.underlying9 hv; exact ⟨x, hx⟩) (hkeys ▸ hmi.nodup) (fun x => ?_)
    rw [← hD, hmi.has, any_keys hkeys, List.any_eq_true, List.mem_map]
    exact ⟨fun ⟨p, h1, h2⟩ => ⟨p, h1, by simpa using h2⟩, fun ⟨p, h1, h2⟩ => ⟨p, h1, by simpa using h2⟩⟩
  have h2 := (hP.trans h1.symm).filter (keepB vals)
  rw [List.filter_map] at h2
  refine h2.trans ?_
  have h3 : acc.filter (keepB vals ∘ (·.1)) = acc.filter fun p => p.2.kind != 0 := by
    apply List.filter_congr
    intro p hp
    obtain ⟨c, hc, hO⟩ := val_of_pair hkeys hkids (x := p.1) (o := p.2) hp
    show keepB vals p.1 = _
    rw [keepB_val hmi.nodup hc, cellsO_k hO]
  rw [h3]
theorem keysAt_own {S : Nat → Prop} {w : World} {B : Nat} {v : Value} {ks : List L} (h : ownS w B v ks) (hS : ∀ b, B ≤ b → S b) : KeysAt S w v ks := by
  rcases h.2 with ⟨h1, h2⟩ | ⟨g, cap, cur, h1, h2, h3⟩
  · exact .inl ⟨List.eq_nil_of_length_eq_zero h2, _, _, h1⟩
  · refine .inr ⟨g, 0, cap, h1, hS g h2, fun i hi => ?_⟩
    have := World.ownsRow.cellAt (g := g) (cap := cap) (by rw [← h1]; exact h) i (by omega)
    rw [show 0 + i = i by omega, this]
    simp [hi]
/-- The six cells that the dictionary's reader returns. -/
theorem dict_out {s : ByteArray} {m : Int} {d r : Nat} {w wo wr : World} {a n : Nat} {acc : List (L × Ob)} {vals : List (L × Obv)} {D : DataW Value} (hE : DEnd s m d r w wo a acc vals D) {sa ks : List L} {v kv : Value} (hP : sa.Perm (strKeys D)) (hks : isort (sa.filter (keepB vals)) = ks)
    (hI : KInv wo (w.heap.size + 1) n vals D ks v wr ks.length kv) : ObjAt (fun b => w.heap.size + 1 ≤ b) (d + 2) wr (objCells 7 0 0 [] v kv) (mkDict acc) := by
  have hw := hE.hown.lt
  have hkeq : isort ((acc.filter fun p => p.2.kind != 0).map (·.1)) = ks := by
    rw [← hks]
    have hp := keys_perm (d := d + 1) hE.hown hE.hmi hE.hkeys hE.hkids hP
    exact (isort_of_perm (hp.symm.trans (isort_perm _).symm) (isort_sorted _)).symm
  have hnda : (acc.map (·.1)).Nodup := hE.hkeys ▸ hE.hmi.nodup
  have hmem : ∀ x ∈ ks, ∃ o, (x, o) ∈ acc := by
    intro x hx
    rw [← hkeq] at hx
    have := (isort_perm _).mem_iff.1 hx
    obtain ⟨p, hp, rfl⟩ := List.mem_map.1 this
    exact ⟨p.2, (List.mem_filter.1 hp).1⟩
  have hkids : KidsAt (fun b => w.heap.size + 1 ≤ b ∧ b < wo.heap.size) (d + 1) wr (ks.map fun x => cellsO (valAt vals x)) (ks.map fun k => ((acc.find? fun p => p.1 == k).map (·.2)).getD .zero) := by
    refine ⟨by simp, fun i cs o h1 h2 => ?_⟩
    rw [List.getElem?_map] at h1 h2
    cases hx : ks[i]? with
    | none => rw [hx] at h1; cases h1
    | some x =>
      rw [hx] at h1 h2
      simp only [Option.map_some, Option.some.injEq] at h1 h2
      obtain ⟨o', ho⟩ := hmem x (List.mem_of_getElem? hx)
      obtain ⟨c, hc, hO⟩ := val_of_pair hE.hkeys hE.hkids ho
      have e1 : valAt vals x = c := valAt_mem hE.hmi.nodup hc
      have e2 : acc.find? (fun p => p.1 == x) = some (x, o') := find_pair hnda ho
      rw [e2] at h2
      rw [e1] at h1
      simp at h2
      subst h1; subst h2
      refine ⟨rfl, hO.grow (fun b hb1 hb2 => ⟨⟨by omega, hb2⟩, hI.hb.block b hb2⟩)⟩
  have hrow := hI.hrow
  rw [List.take_of_length_le (Nat.le_refl _)] at hrow
  have hlen : (ks.map fun k => ((acc.find? fun p => p.1 == k).map (·.2)).getD Ob.zero).length = ks.length := by simp
  rw [← hlen] at hrow
  have hk2 := kids_at (S' := fun b => w.heap.size + 1 ≤ b) hrow hkids (fun b hb => hb.1) (fun b hb => by omega)
  unfold mkDict
  rw [hkeq]
  exact ⟨_, _, rfl, keysAt_own hI.hkeys (fun b hb => by omega), hk2⟩
end Go.Proofs.YtpadlepdgnlgnaaGreatDoor
