/- Plain facts: no translation keeps a lean pattern; groups that grow by a motion. -/
import Derived.Test.YtphhbdjjfacpiaaGreatDoorQsMU
import Derived.Test.YtphhbdjjfacpiaaGreatDoorQsNS
namespace Go.Proofs.YtphhbdjjfacpiaaGreatDoor.X
open Go
set_option linter.unusedSimpArgs false
set_option linter.unusedVariables false
def PerS (p : Pt) (d : Vc) : Prop := ∀ u : Vc, atS p (u.1 + d.1, u.2 + d.2) = atS p u
structure Gd' (f : Int) (l : Lt) (gs g : List Mo) : Prop where
 orb : OrbG f l g
 gen : ∀ x ∈ g, Gn l gs x
 all : ∀ x, Gn l gs x → x ∈ g
theorem close_gen {f : Int} {l : Lt} (hl : IsL l) {gs : List Mo} (hg : ∀ m ∈ gs, OkM f l m) (hgn : gs.length ≤ 1000) : ∃ g, f10G KK l gs = some g ∧ f27G KK l gs = some g ∧ Gd' f l gs g := by
 have hu := uMo_ok (f := f) hl
 have hc : Cg f l gs [uMo] [uMo] := ⟨⟨pre_pw (fun m hm => by rw [mS] at hm; rw [hm]; exact hu) (by simp), fun x => Iff.rfl, rfl⟩, fun x hx => by rw [mS] at hx; rw [hx]; exact .one⟩
 have hk : 768 - 0 < KK := by simp only [KK]; omega
 obtain ⟨o, q, c1, c2, c3, c4⟩ := closeG_out hl hg hgn KK 0 [uMo] [uMo] hc (by omega) hk (by simp) (by simp)
 have c5 : f10_l17 KK l gs KK 0 [uMo] [uMo] = some o := c4
 have hmem := c1.cl.mem
 have e := (close_g l gs).trans c5
 have hG : grpB f l o = true := grpB_of hl c1.cl.pre.mem c1.cl.pre.pw ((hmem _).2 c3) fun m hm n hn => (hmem _).2 (gen_mul hl hg (fun x hx => c1.cl.pre.mem x ((hmem x).2 hx)) c2 (c1.gen m ((hmem m).1 hm)) n ((hmem n).1 hn))
 refine ⟨o, e, (close_same hl hg hgn).trans e, ⟨hl, c1.cl.pre, hG⟩, fun x hx => c1.gen x ((hmem x).1 hx), fun x hx => (hmem x).2 ?_⟩
 induction hx with
 | one => exact c3
 | mul m x hm _ ih => exact c2 x ih m hm
end Go.Proofs.YtphhbdjjfacpiaaGreatDoor.X
