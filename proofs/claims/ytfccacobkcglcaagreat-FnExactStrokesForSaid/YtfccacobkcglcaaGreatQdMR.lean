/- Plain facts: codes of groups and patterns, which groups keep a pattern, the first cells of orbits. -/
import Derived.Test.YtfccacobkcglcaaGreatQdMQ
import Derived.Test.YtfccacobkcglcaaGreatQdMN
namespace Go.Proofs.YtfccacobkcglcaaGreat.X
open Go
set_option linter.unusedSimpArgs false
set_option linter.unusedVariables false
def dP : Pt := (0, (0, 0, 0), [])
def codeK (p : Pt) (g : List Mo) : Int := bif okP p then (if grpB p.1 p.2.1 g then 0 else 2) else 1
def keptS (p : Pt) (g : List Mo) : Bool := g.all (keepsS p)
theorem l13Kept_eq {p : Pt} (hp : IsP p) {g : List Mo} (h : OrbG p.1 p.2.1 g) : f134G KK p g = some (keptS p g) := by
  have hl := h.len
  have hh := iter_all (R := Bool) (body := fun L x => f134_b3 KK p g (fun v0 => L v0) x) g (fun q => (q : Int)) (keepsS p) (some false) (some true)
    (fun L q hq => by
      have hg := h.good _ (List.getElem_mem hq)
      unfold f134_b3
      rw [in1 hq, in0, gd hq]
      simp only [Bool.and_self, cond_true]
      rw [show f246G KK p ((g[q].1.1, g[q].1.2.1, g[q].1.2.2), g[q].2) = some (keepsS p g[q]) from l09Keeps_eq hp (pm_sm hg.1) hg.2, Option.bind_some, w_succ (by omega)]
      cases keepsS p g[q] <;> rfl)
    (fun L => by
      unfold f134_b3
      rw [out1, cond_false]) KK 0 (by omega) (by simp only [KK]; omega)
  unfold f134G f134_g f134_l3
  refine hh.trans ?_
  rw [List.drop_zero]
  unfold keptS
  cases g.all (keepsS p) <;> rfl
theorem isKept_eq {p : Pt} (hp : IsP p) {g : List Mo} (h : OrbG p.1 p.2.1 g) : f139G KK p g = some (keptS p g) := by
  have hl := h.len
  have hh := iter_all (R := Bool) (body := fun L x => f139_b3 KK p g (fun v0 => L v0) x) g (fun q => (q : Int)) (keepsS p) (some false) (some true)
    (fun L q hq => by
      have hg := h.good _ (List.getElem_mem hq)
      unfold f139_b3
      rw [in1 hq, in0, gd hq]
      simp only [Bool.and_self, cond_true]
      rw [show f251G KK p ((g[q].1.1, g[q].1.2.1, g[q].1.2.2), g[q].2) = some (keepsS p g[q]) from keeps_eq hp (pm_sm hg.1) hg.2, Option.bind_some, w_succ (by omega)]
      cases keepsS p g[q] <;> rfl)
    (fun L => by
      unfold f139_b3
      rw [out1, cond_false]) KK 0 (by omega) (by simp only [KK]; omega)
  unfold f139G f139_g f139_l3
  refine hh.trans ?_
  rw [List.drop_zero]
  unfold keptS
  cases g.all (keepsS p) <;> rfl
theorem orbs_ne {f : Int} {l : Lt} {g : List Mo} (h : OrbG f l g) {o : List Vc} (ho : o ∈ orbsS l g) : ∃ x t, o = x :: t ∧ cellB l x = true := by
  obtain ⟨r, hr, rfl⟩ := List.mem_map.1 ho
  have hc : cellB l r = true := cellsS_cell (List.mem_filter.1 hr).1
  obtain ⟨x, t, e, _⟩ := orb_cons h hc
  exact ⟨x, t, e, orb_cell h (v := r) (by rw [e]; simp)⟩
end Go.Proofs.YtfccacobkcglcaaGreat.X
