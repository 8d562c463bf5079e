/- Zero values: their slices are rows of the frame's own. -/
import Derived.Test.YtbgdojniimdihaaXAft
namespace Go.Proofs.Ytbgdojniimdihaa.X
open Go Go.RowKit
variable {C : Cx} {fr : Fr} {big : FF} {g : Sg} {a : Act} {w : World} {ch : List (Nat × Bool)} {E : Env}
theorem Sim.zero (hs : Sim C big g a w) {s : Sh} (hd : s.data = true) {zs : List Value} (hz : zerosV s = some zs) (fr : Fr) (hfree : ∀ j, fr.rw.length ≤ j → j < fr.rw.length + (expand .own s s.dfl fr.rw.length).2.length → g.ρ j = none) :
    ∃ g', Fresh fr (expand .own s s.dfl fr.rw.length).2 [] g g' ∧ g'.β = g.β ∧ Sim C { big with rw := more fr.rw.length (expand .own s s.dfl fr.rw.length).2 big.rw } g' a w ∧ LfsR C g' (expand .own s s.dfl fr.rw.length).1 zs := by
  obtain ⟨g', le, out, hβ, hs', hl, _⟩ := Sim.expandO s (n := fr.rw.length) hs hd (dfl_OC s hz w fun _ => False) (fun k h => h.elim) hfree
  exact ⟨g', ⟨le, fun j _ => by rw [hβ], out⟩, hβ, hs', hl⟩
theorem stAlloc_ok (hE : EnvOK C.P E) (hC : CxOK C) (hs : Sim C big g a w) (o : Oper) (t : TypeId) (ho : o.op = .alloc t) : Good C g a fr big ((execOp a.eval o).run C.P w) (stAlloc E fr t) := by
  unfold stAlloc
  split
  · rename_i ty hl
    cases hd : ty.sh.data
    · trivial
    · rw [cond_true]
      have hT := (hE.ty _ _ hl).ok
      intro _ _ hfree
      obtain ⟨_, _, _, _, _, us, hu, _⟩ := hT.info
      obtain ⟨g1, f1, hβ, s1, hr⟩ := hs.zero hd hu fr hfree.ρ
      have hi := hfree.β fr.bx.length (Nat.le_refl _) (by simp)
      have hi1 : g1.β fr.bx.length = none := by rw [hβ]; exact hi
      have hlen := zerosV_len _ hu
      have hcl : (packB ty.sh.agg us).cells = us.toArray := by rw [← Array.toArray_toList (xs := (packB ty.sh.agg us).cells), packB_cells (fun hb => by rw [hlen, Sh.n_one hb]) hr.one]
      have hrun : (execOp a.eval o).run C.P w = .ok (.value (.pointer (some ⟨w.heap.size, 0, none⟩))) (w.alloc (.cells us.toArray t)) := by
        simp only [execOp, ho, Instr.alloc, Sem.run_bind, hT.zero hu, Result.andThen_ok, newVar, newRow, newObj, hcl]
        rfl
      refine ⟨_, _, _, hrun, .inl rfl, g1.box fr.bx.length w.heap.size, ⟨f1.le.trans (Sg.le_box hi1 _), fun j hj => ?_, fun j hj => f1.ρ j hj⟩, by simpa only [grow, more_one, effB, effR] using s1.mkBox hC hi1 us _ hr t, fun av hav => ?_⟩
      · have hne : j ≠ fr.bx.length := fun e => hj (by subst e; simp)
        rw [Sg.box_ne _ _ hne, hβ]
      · cases hav
        exact VR.of1 ⟨w.heap.size, Sg.box_at _ _ _, rfl⟩
  · trivial
theorem stBuild_ok (hE : EnvOK C.P E) (_ : CxOK C) (hs : Sim C big g a w) (hsub : Sub fr big) (hc : Holds a ch) (o : Oper) (t : TypeId) (parts : Array (Nat × Operand)) (ho : o.op = .build t parts) : Good C g a fr big ((execOp a.eval o).run C.P w) (stBuild E fr ch t parts.toList) := by
  unfold stBuild
  split
  · rename_i s fs hl
    cases hd : s.data
    · trivial
    · rw [cond_true]
      simp only
      split
      · rename_i cs hb
        intro _ _ hfree
        have hT := hE.ty _ _ hl
        obtain ⟨hag, fds, hu, hpl, _⟩ := hT.desc
        obtain ⟨i, z0, hi, hsz, hz0, zs, hzs, hzz⟩ := hT.ok.info
        obtain ⟨g1, f1, hβ, s1, hzr⟩ := hs.zero hd hzs fr hfree.ρ
        have hsub1 : Sim C fr.f g1 a w := { hs.sub hsub with slots := (hs.sub hsub).mono_slots f1.le, boxes := fun j b hj => ((hs.sub hsub).boxes j b hj).mono f1.le, bdisj := fun i j b b' k h1 h2 ho k1 k2 => (hs.sub hsub).bdisj i j b b' k h1 h2 ho (by rw [← hβ]; exact k1) (by rw [← hβ]; exact k2), rows := fun j r hj => ((hs.sub hsub).rows j r hj).mono f1.le fun _ _ h => h, rdisj := fun i j r r' q q' k h1 h2 m1 m2 q1 q2 => (hs.sub hsub).rdisj i j r r' q q' k h1 h2 m1 m2 (((hs.sub hsub).rows i r h1).old f1.le q1) (((hs.sub hsub).rows j r' h2).old f1.le q2), rbox := fun i r q j b k h1 m1 q1 hb ho hk => (hs.sub hsub).rbox i r q j b k h1 m1 (((hs.sub hsub).rows i r h1).old f1.le q1) hb ho (by rw [← hβ]; exact hk) }
        obtain ⟨us', hf, hr⟩ := buildP_ok hsub1 hc fs hzr hb
        have hz1 : z0 = .agg zs.toArray := by
          simp only [Ty.sh] at hzz
          rw [hzz, hag, packB_true]
        have hbt : C.P.built t (parts.map fun (i, x) => (i, a.eval x)).toList = some us'.toArray := by
          unfold Program.built
          rw [hi, hu]
          simp only [hz0, hpl, hz1, Value.cells]
          rw [Array.toList_map]
          exact hf
        refine ⟨.value (.agg us'.toArray), _, w, ?_, .inl rfl, g1, f1, by simpa only [grow, more_nil, effB, effR] using s1, fun av hav => ?_⟩
        · simp only [execOp, ho, Sem.run_bind, run_build w t _ _ hbt, Result.andThen_ok]
          rfl
        · cases hav
          exact ⟨us', rfl, hr, by simp⟩
      · trivial
  · trivial
end Go.Proofs.Ytbgdojniimdihaa.X
