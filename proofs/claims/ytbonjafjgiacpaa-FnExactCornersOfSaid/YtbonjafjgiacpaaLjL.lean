/- The law CornersOf: from every start its run ends well. No condition. -/
import Derived.Test.YtbonjafjgiacpaaLjA
import Derived.Test.YtbonjafjgiacpaaLjB
import Derived.Test.YtbonjafjgiacpaaLjC
import Derived.Test.YtbonjafjgiacpaaLjD
namespace Go.Proofs.Ytbonjafjgiacpaa
open Sim Go.Conc Go.ConcN Go.RowKit Go.Conc.Lib Go.ConcR.Gen Go.ConcN.Gen
open Go.ConcR (KK wgBlock WgAt stA smA rd wr mk Payload DC0)
set_option linter.unusedVariables false
theorem no_globals : Try.prog.globals.size = 0 := by kernel_rfl
theorem law_CornersOf (A : Option Addr) (n c : Nat) (R : Nat → Nat → Int) (w : World) (hm : n ≤ maxLen) (hA : Sl w 0 w.heap.size 4 (.slice A n c) n (intF R)) : Sim.Ends Try.prog (PostL w) (solo (G (Frame.enter Try.prog 3 #[.slice A n c] .normal) []) w) #[] := by
  refine J.run ?_
  by_cases hn : n ≤ 1048576
  · refine law_A (st_first w (by rw [no_globals]; exact Nat.zero_le _)) hn hA fun T w1 Shun SB S v3 v5 B4 l3 h3 l4 h4 l5 h5 hT t0 t4 t5 t6 st o3 o4 o5 e1 e2 e3 e4 e5 => ?_
    refine law_B hn (coL_len R n) hA hT t0 t4 t5 t6 st o3 o4 o5 (by omega) (by omega) (by omega) fun T w2 S2 hT t0 t4 t6 st o3 o5 => ?_
    refine law_C (coL_len R n) hT t0 t4 t6 st o3 o5 (by omega) (by omega) fun T w3 S3 hT t0 t4 t6 t8 st o3 o5 => ?_
    exact law_D hn hA hT t0 t4 t6 t8 st o3 o5
  · exact law_out hm hn
end Go.Proofs.Ytbonjafjgiacpaa
