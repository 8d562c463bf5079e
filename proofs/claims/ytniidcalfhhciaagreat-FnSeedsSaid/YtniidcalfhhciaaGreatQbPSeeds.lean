/- The plain law of FnSeeds. -/
import Derived.Test.YtniidcalfhhciaaGreatQbMZ
import Derived.Test.YtniidcalfhhciaaGreatQbPCountKept
import Derived.Test.YtniidcalfhhciaaGreatQbPCountOrbits
namespace Go.Proofs.YtniidcalfhhciaaGreat.X
open Go
set_option linter.unusedSimpArgs false
set_option linter.unusedVariables false
theorem ck_inv {f : Int} {l : Lt} {g : List Mo} {k : Int} (h : (resCK f l g k).2 = 0) : codeC f l g true = 0 ∧ 1 ≤ k ∧ k ≤ 10 ∧ powK k (orbsS l g).length 1 = some (resCK f l g k).1 := by
  unfold resCK at h ⊢
  cases hc : codeC f l g (inK k) != 0
  · have h0 : codeC f l g (inK k) = 0 := by simpa using hc
    have hk := (codeC_0 h0).2
    rw [hk] at h0
    rw [hc, cond_false] at h
    rw [cond_false]
    unfold inK at hk
    rw [Bool.and_eq_true, decide_eq_true_eq, decide_eq_true_eq] at hk
    refine ⟨h0, hk.1, hk.2, ?_⟩
    cases hp : powK k (orbsS l g).length 1 with
    | some r => rfl
    | none => rw [hp] at h; exact absurd h (by decide)
  · rw [hc, cond_true] at h
    have h : codeC f l g (inK k) = 0 := h
    rw [h] at hc
    exact absurd hc (by decide)
theorem sp_inv {f : Int} {l : Lt} {g : List Mo} {v : Vc} (h : (resSP f l g v).2 = 0) : codeC f l g (cellB l v) = 0 ∧ resSP f l g v = ((f, l, seedS l (orbS l g v)), 0) := by
  unfold resSP at h ⊢
  cases hc : codeC f l g (cellB l v) != 0
  · exact ⟨by simpa using hc, rfl⟩
  · rw [hc, cond_true] at h
    have h : codeC f l g (cellB l v) = 0 := h
    rw [h] at hc
    exact absurd hc (by decide)
/-- what is asked of the seed's pattern -/
theorem seed_end {f : Int} {l : Lt} {g : List Mo} {v : Vc} (hn : g.length ≤ 1048576) (h : codeC f l g (cellB l v) = 0) :
    f73G KK f l g v = some (orbS l g v, 0) ∧ f74G KK (f, l, seedS l (orbS l g v)) g = some (true, 0) ∧ f75G KK (seedS l (orbS l g v)) = some ((orbS l g v).length : Int) := by
  obtain ⟨h1, h2, h3, h4⟩ := codeC_parts h
  have hO := (codeC_0 h).1
  have hN := cellsS_le hO.la
  refine ⟨?_, ?_, ?_⟩
  · rw [implOrb_eq f l hn]
    unfold resOrb
    rw [h]
    rfl
  · rw [implIK_eq _ hn, seed_pat hO]
    unfold resIK
    rw [codeK_map h1 h2 h3 (fun u _ => by by_cases hu : u ∈ orbS l g v <;> simp [hu, okC]), kept_map hO (fun m hm u hu => by
      by_cases hx : u ∈ orbS l g v
      · rw [if_pos hx, if_pos ((orb_move hO h4 hm hu).2 hx)]
      · rw [if_neg hx, if_neg (fun h => hx ((orb_move hO h4 hm hu).1 h))])]
    rfl
  · rw [sum_eq (by rw [seedS_len]; omega) (fun a ha => by
      rw [seedS_map hO.la fun u hu => orb_cell hO hu] at ha
      obtain ⟨u, _, rfl⟩ := List.mem_map.1 ha
      by_cases hu : u ∈ orbS l g v <;> simp [hu]), seed_sum hO]
theorem seeds_loop {c : List Int} {y1 y8 : Bool} {y2 : Int × Lt × List Mo × Vc} {y3 y4 : Pt × Int} {f : Int} {l : Lt} {g : List Mo} {k : Int} {y6 y7 : Int × Int} {N : Nat} {d : Int} {r : Int} (h1 : 1 ≤ k) (h2 : k ≤ 10) (hN : N ≤ 1000) : ∀ (n fuel q : Nat) (p : Int), q + n = N → n < fuel → 0 ≤ p → p ≤ 1000000000 → powK k n p = some r →
    f8_l11 KK c y1 y2 y3 y4 (f, l, g, k) y6 y7 y8 ((N : Int), d) fuel p (q : Int) = f8_b11 KK c y1 y2 y3 y4 (f, l, g, k) y6 y7 y8 ((N : Int), d) (fun _ _ => none) r (N : Int)
  | _, 0, _, _, _, h, _, _, _ => by omega
  | 0, fuel + 1, q, p, hq, _, h3, h4, h5 => by
    have e : p = r := by simpa [powK] using h5
    subst e
    have e2 : q = N := by omega
    subst e2
    show f8_b11 KK c y1 y2 y3 y4 (f, l, g, k) y6 y7 y8 ((q : Int), d) (fun v0 v1 => f8_l11 KK c y1 y2 y3 y4 (f, l, g, k) y6 y7 y8 ((q : Int), d) fuel v0 v1) p (q : Int) = _
    unfold f8_b11
    simp only
    rw [out1, cond_false, cond_false]
  | n + 1, fuel + 1, q, p, hq, hf, h3, h4, h5 => by
    obtain ⟨b1, b2⟩ := powK_b h1 h2 h3 h4
    have e : f8_l11 KK c y1 y2 y3 y4 (f, l, g, k) y6 y7 y8 ((N : Int), d) (fuel + 1) p (q : Int) = f8_l11 KK c y1 y2 y3 y4 (f, l, g, k) y6 y7 y8 ((N : Int), d) fuel (p * k) ((q + 1 : Nat) : Int) := by
      show f8_b11 KK c y1 y2 y3 y4 (f, l, g, k) y6 y7 y8 ((N : Int), d) (fun v0 v1 => f8_l11 KK c y1 y2 y3 y4 (f, l, g, k) y6 y7 y8 ((N : Int), d) fuel v0 v1) p (q : Int) = _
      unfold f8_b11
      simp only
      rw [decide_eq_true (show (q : Int) < (N : Int) by omega), cond_true, w_id (n := p * k) (by omega) (by omega), w_succ (by omega)]
    rw [e]
    simp only [powK] at h5
    cases h : decide (p * k > 1000000000)
    · have h' : ¬ p * k > 1000000000 := by simpa using h
      rw [h, cond_false] at h5
      exact seeds_loop h1 h2 hN n fuel (q + 1) (p * k) (by omega) (by omega) b1 (by omega) h5
    · rw [h, cond_true] at h5; cases h5
theorem FnSeeds_pure (a0 : List Int) (h : WfA [(.list 5 (.int .u8))] (a0, ())) : ∃ K, f8G K a0 = some true := by
  refine ⟨KK, ?_⟩
  have hw : Wf (.list 5 (.int .u8)) a0 := h.1
  unfold f8G f8_g
  rw [big_eq, Option.bind_some]
  by_cases hb : (a0.length : Int) > 4096
  · rw [decide_eq_true hb]; rfl
  · rw [decide_eq_false hb, cond_false]
    obtain ⟨t0, s0, e0⟩ := from_ok (code_ok hw) (by omega)
    obtain ⟨t1, f, l, g, e1, s1, hg⟩ := draw_ok s0
    obtain ⟨t2, v, e2, s2⟩ := cell_ok s1 l
    obtain ⟨t3, r3, e3, s3, _⟩ := next_ok s1 12
    obtain ⟨t4, k, e4, s4, _⟩ := pick_ok s3 (l := [(2 : Int), 2, 3, 4, 10, r3]) (by simp)
    have eD : f67G KK a0 = some (f, l, g, v) := by
      unfold f67G f191G
      rw [e0, Option.bind_some, e1, Option.bind_some]
      simp only
      rw [e2]
      rfl
    have eK : f70G KK a0 = some (f, l, g, k) := by
      unfold f70G
      rw [e0, Option.bind_some, e1, Option.bind_some]
      simp only
      rw [e3, Option.bind_some]
      simp only
      rw [e4]
      rfl
    have hn : g.length ≤ 1048576 := by omega
    rw [eD, Option.bind_some]
    simp only
    rw [implSP_eq f l hn, Option.bind_some, specSP_eq f l hn, Option.bind_some, eK, Option.bind_some]
    simp only
    rw [implCK_eq f l hn, Option.bind_some, specCK_eq f l hn, Option.bind_some]
    have r1 := resSP_len (f := f) (l := l) (g := g) (v := v)
    simp only [bne_self_eq_false, Bool.not_false, Bool.not_true, Bool.or_true, cond_true, cond_false]
    rw [likePatterns_eq (by omega), Option.bind_some]
    simp only [bne_self_eq_false, Bool.not_false, Bool.not_true, Bool.or_true, cond_true, cond_false]
    cases hk : (resCK f l g k).2 == 0
    · rw [cond_false]
      cases hs : (resSP f l g v).2 != 0
      · obtain ⟨c0, e⟩ := sp_inv (by simpa using hs)
        obtain ⟨x1, x2, x3⟩ := seed_end hn c0
        rw [e, cond_false]
        simp only
        rw [x1, Option.bind_some, x2, Option.bind_some]
        simp only [beq_self_eq_true, cond_true]
        rw [x3, Option.bind_some]
        simp only [beq_self_eq_true, cond_true]
      · rfl
    · have hk0 : (resCK f l g k).2 = 0 := by simpa using hk
      obtain ⟨c0, k1, k2, hp⟩ := ck_inv hk0
      have hO := (codeC_0 c0).1
      have hOl := orbs_len hO.la g
      rw [cond_true, implCO_eq f l hn, Option.bind_some]
      have eC : resCO f l g = ((((orbsS l g).length : Nat) : Int), 0) := by
        unfold resCO
        rw [c0]
        rfl
      rw [eC]
      have hl := seeds_loop (c := a0) (y1 := false) (y8 := true) (y2 := (f, l, g, v)) (y3 := resSP f l g v) (y4 := resSP f l g v) (f := f) (l := l) (g := g) (y6 := resCK f l g k) (y7 := resCK f l g k) (d := 0) k1 k2 (N := (orbsS l g).length) (by omega) (orbsS l g).length KK 0 1 (by omega) (by simp only [KK]; omega) (by omega) (by omega) hp
      refine Eq.trans hl ?_
      unfold f8_b11
      simp only
      rw [out1, cond_false]
      simp only [bne_self_eq_false, Bool.or_true, cond_true, cond_false]
      cases hs : (resSP f l g v).2 != 0
      · obtain ⟨c0, e⟩ := sp_inv (by simpa using hs)
        obtain ⟨x1, x2, x3⟩ := seed_end hn c0
        rw [e, cond_false]
        simp only
        rw [x1, Option.bind_some, x2, Option.bind_some]
        simp only [beq_self_eq_true, cond_true]
        rw [x3, Option.bind_some]
        simp only [beq_self_eq_true, cond_true]
      · rfl
end Go.Proofs.YtniidcalfhhciaaGreat.X
