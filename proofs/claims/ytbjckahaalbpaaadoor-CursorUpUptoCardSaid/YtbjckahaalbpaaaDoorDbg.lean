/- For trials alone: what is left of a walk. No text of a claim imports this. -/
import Derived.Test.YtbjckahaalbpaaaDoorB
namespace Go.Proofs.YtbjckahaalbpaaaDoor
open Go Go.RowKit
def Stuck (o : Oper) (a : Act) : Prop := o.dst = none ∧ a.defers = []
def StuckC (a : Act) (w : World) : Prop := a.defers = [] ∧ w.drawn = 0
theorem dbg_q {P : Program} {ops : Array Oper} {C : World → Prop} {Q : Act → Prop} {o : Oper} {rest : List Oper} {a : Act} (h : Stuck o a) : wpQuiet P ops C Q (o :: rest) a := sorry
theorem dbg_o {P : Program} {K : Act → Prop} {C : World → Prop} {o : Oper} {a : Act} (h : Stuck o a) : o.quiet P a C K := sorry
theorem dbg_l {P : Program} {ops : Array Oper} {Q : Exit → Act → World → Prop} {o : Oper} {rest : List Oper} {a : Act} {w : World} (h : Stuck o a) : wpList P ops Q (o :: rest) a w := sorry
theorem dbg_c {P : Program} {Q : Exit → Act → World → Prop} {c : Code} {a : Act} {w : World} (h : StuckC a w) : c.wp P Q a w := sorry
end Go.Proofs.YtbjckahaalbpaaaDoor
