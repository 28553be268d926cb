/- A scope out of which the run jumps forward to one label: what stands behind the label is walked at the jump. No program in sight. -/
import Derived.Test.YtollcbacpoohlaaGreatDoorBase
import Derived.ScopeJumps
import Derived.WalkMore
namespace Go.Proofs.YtollcbacpoohlaaGreatDoor

theorem wp_scope_fwd {P : Program} {a : Act} {w : World} {Q : Exit → Act → World → Prop} {c rest : Code} (l : Nat) (hf : findLabel c l = some rest)
    (h : c.wp P (Exit.jump l (fun a' w' => rest.wp P (Exit.noGoto Q) a' w') Q) a w) : (Code.scope c).wp P Q a w :=
  wp_scope_jumps l (fun a' w' => rest.wp P (Exit.noGoto Q) a' w') (fun _ _ => 0) hf h fun a w hJ => wp_mono hJ fun e a' w' hq => by
    cases e <;> first | exact hq | exact hq.elim
end Go.Proofs.YtollcbacpoohlaaGreatDoor
