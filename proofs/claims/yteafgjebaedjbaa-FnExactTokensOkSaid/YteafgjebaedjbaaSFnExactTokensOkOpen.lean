-- Written by this session's program wip/slim.py out of the print's texts. Lean checks it.
import Derived.Test.YteafgjebaedjbaaSFnExactTokensOkW
import Derived.Deep.Slices
import Derived.ChangeSame
namespace Go.Proofs.Yteafgjebaedjbaa.Open
open Go.ChangeShapes Go.WideShapes Go.RowKit Go.Proofs.YteafgjebaedjbaaW.PrintWords
set_option linter.unusedVariables false
section
variable {H : Type} {enc : TypeId × Value → H} {P : Program} {W : World}
def Opens (enc : TypeId × Value → H) (P : Program) (W : World) (t : Nat) {α : Type} (d : Kd α) (G : α → Prop) : Prop :=
 ∀ (fuel : Nat) (cs : List Value) (x : DataW H × List MemPlace), DataW.trod enc P W 0 (fun _ => true) true fuel t cs = some x → ∃ v, d.K W v cs ∧ G v
theorem opens_int {t : Nat} {k : IntKind} (ht : P.underlying t = some (.int k)) : Opens enc P W t (Kd.int k) (fun n => (Lit.int k n).wf = true) := by
 intro fuel cs x h
 obtain ⟨n, rfl, _, hw⟩ := DataW.trod_int ht h
 exact ⟨n, rfl, hw⟩
theorem opens_bool {t : Nat} (ht : P.underlying t = some .bool) : Opens enc P W t Kd.bool (fun _ => True) := by
 intro fuel cs x h
 obtain ⟨b, rfl, _⟩ := DataW.trod_bool ht h
 exact ⟨b, rfl, trivial⟩
theorem opens_string {t : Nat} (ht : P.underlying t = some .string) : Opens enc P W t Kd.string (fun s => s.size ≤ 9223372036854775807) := by
 intro fuel cs x h
 obtain ⟨s, rfl, _, hs⟩ := DataW.trod_string ht h
 exact ⟨s, rfl, hs⟩
theorem opens_slice {t e : Nat} {α : Type} [Inhabited α] {d : Kd α} {G : α → Prop} (ht : P.underlying t = some (.slice e)) (hc : P.cellsOf e = d.sz) (ho : Opens enc P W e d G) :
  Opens enc P W t (Kd.slice e d) (fun xs => xs.length ≤ 9223372036854775807 ∧ ∀ x ∈ xs, G x) := by
 intro fuel cs x h
 rcases Deep.open_slice ht h with ⟨rfl, _⟩ | ⟨a, len, cap, m, n, D, Pl, rfl, _, hl, hm, hmm, _, hx⟩
 ·exact ⟨[], ⟨none, 0, rfl, Nat.le_refl _, rfl, by simp, fun h => absurd h (by simp)⟩, by simp, by simp⟩
 ·have hm2 : cap ≤ 9223372036854775807 := hm
  have hlm : m = cap := by rw [hmm]; rfl
  obtain ⟨V, hV⟩ := Deep.choose_lt (α := α) (n := len) (p := fun i v => ∃ c, W.cells? 0 (a.add (i * P.cellsOf e)) (P.cellsOf e) = some c ∧ d.K W v c ∧ G v) (fun i hi => by
   obtain ⟨c, h1, h2⟩ := hx i (by omega)
   obtain ⟨v, hk, hg⟩ := ho _ _ _ h2
   exact ⟨v, c, h1, hk, hg⟩)
  have hlen : ((List.range len).map V).length = len := by simp
  refine ⟨(List.range len).map V, ⟨some a, cap, by rw [hlen], by rw [hlen]; exact hl, rfl, by rw [hlen]; omega, fun _ => ⟨a, rfl, ?_⟩⟩, by rw [hlen]; omega, ?_⟩
  ·intro j p hj
   rw [List.getElem?_map] at hj
   obtain ⟨j2, hj2, rfl⟩ := Option.map_eq_some_iff.1 hj
   obtain ⟨hjl, e2⟩ := List.getElem?_eq_some_iff.1 hj2
   rw [List.getElem_range] at e2
   subst e2
   rw [List.length_range] at hjl
   obtain ⟨c, h1, hk, hg⟩ := hV j hjl
   obtain ⟨_, h2, h3⟩ := World.cells?_some h1
   refine ⟨c, by rw [h2, hc], hk, fun i u hi => ?_⟩
   have hil : i < c.length := (List.getElem?_eq_some_iff.1 hi).1
   have h4 := h3 i (by omega)
   rw [Deep.add_add] at h4
   rw [← hc, h4, hi]
  ·intro y hy
   obtain ⟨j, hj, rfl⟩ := List.mem_map.1 hy
   obtain ⟨c, _, _, hg⟩ := hV j (by simpa using hj)
   exact hg
def OF (enc : TypeId × Value → H) (P : Program) (W : World) (fs : List Field) (off : Nat) {α : Type} (d : Kd α) (G : α → Prop) : Prop :=
 ∀ (n : Nat) (cs : List Value), (∀ f ∈ fs, ∃ y, DataW.trod enc P W 0 (fun _ => true) true n f.type ((cs.drop f.offset).take (P.cellsOf f.type)) = some y) → cs.length = off + d.sz → ∃ v, d.K W v (cs.drop off) ∧ G v
theorem of_one {f : Field} {off : Nat} {α : Type} {d : Kd α} {G : α → Prop} (hf : f.offset = off) (hc : P.cellsOf f.type = d.sz) (ho : Opens enc P W f.type d G) : OF enc P W [f] off d G := by
 intro n cs h hl
 obtain ⟨y, hy⟩ := h f (List.mem_cons_self ..)
 obtain ⟨v, hv⟩ := ho _ _ _ hy
 rw [hf, List.take_of_length_le (by rw [List.length_drop]; omega)] at hv
 exact ⟨v, hv⟩
theorem of_cons {f : Field} {fs : List Field} {off : Nat} {α β : Type} {a : Kd α} {b : Kd β} {Ga : α → Prop} {Gb : β → Prop} (hf : f.offset = off) (hc : P.cellsOf f.type = a.sz) (ho : Opens enc P W f.type a Ga) (hr : OF enc P W fs (off + a.sz) b Gb) :
  OF enc P W (f :: fs) off (Kd.pair a b) (fun v => Ga v.1 ∧ Gb v.2) := by
 intro n cs h hl
 obtain ⟨y, hy⟩ := h f (List.mem_cons_self ..)
 obtain ⟨v, hv, hg⟩ := ho _ _ _ hy
 have hl2 : cs.length = off + a.sz + b.sz := by rw [hl]; show off + (a.sz + b.sz) = _; omega
 obtain ⟨u, hu, hg2⟩ := hr n cs (fun g hm => h g (List.mem_cons_of_mem _ hm)) hl2
 refine ⟨(v, u), ⟨(cs.drop off).take a.sz, cs.drop (off + a.sz), ?_, ?_, hu⟩, hg, hg2⟩
 ·rw [← List.drop_drop, List.take_append_drop]
 ·rw [hf, hc] at hv
  exact hv
theorem opens_struct {t : Nat} {fs : Array Field} {α : Type} {d : Kd α} {G : α → Prop} (ht : P.underlying t = some (.struct fs)) (hs : P.cellsOf t = d.sz) (ho : OF enc P W fs.toList 0 d G) : Opens enc P W t d G := by
 intro fuel cs x h
 obtain ⟨xs, n, _, rfl, hl, hlen, hf⟩ := DataW.trod_struct ht h
 have hv := ho n cs (fun f hm => by
  obtain ⟨i, hi, e⟩ := List.getElem_of_mem hm
  have hi2 : i < xs.length := by rw [hlen]; simpa using hi
  have h1 := hf i f (by rw [← e]; simp [Array.getElem?_eq_getElem (show i < fs.size by simpa using hi)])
  rw [List.getElem?_eq_getElem hi2] at h1
  exact ⟨_, h1⟩) (by rw [hl, hs]; omega)
 simpa using hv
theorem opens_iso {t : Nat} {α β : Type} {d : Kd α} {G : α → Prop} (f : β → α) (g : α → β) (hfg : ∀ a, f (g a) = a) (ho : Opens enc P W t d G) : Opens enc P W t (Kd.iso d f) (fun b => G (f b)) := by
 intro fuel cs x h
 obtain ⟨v, hv, hg⟩ := ho _ _ _ h
 refine ⟨g v, ?_, ?_⟩
 ·show d.K W (f (g v)) cs
  rw [hfg]; exact hv
 ·show G (f (g v))
  rw [hfg]; exact hg
theorem open_row {t e : Nat} {α : Type} {d : Kd α} {G : α → Prop} {a : Option Addr} {len cap : Nat} {x : DataW H} {p : List MemPlace} (ho : Opens enc P W t (Kd.slice e d) (fun xs => xs.length ≤ 9223372036854775807 ∧ ∀ x ∈ xs, G x))
  (h : DataW.Trod enc P W 0 (fun _ => true) true t (.slice a len cap) x p) : ∃ l : List α, l.length = len ∧ len ≤ cap ∧ d.C W a len l ∧ ∀ x ∈ l, G x := by
 obtain ⟨fuel, hf⟩ := h
 obtain ⟨l, ⟨A, c, hcs, hle, hC⟩, _, hg⟩ := ho _ _ _ hf
 simp [Value.cells] at hcs
 obtain ⟨rfl, rfl, rfl⟩ := hcs
 exact ⟨l, rfl, hle, hC, hg⟩
end
end Go.Proofs.Yteafgjebaedjbaa.Open
