import Derived.Test.YtikehilbmldadaaGreatDoorQ41
import Derived.Test.YtikehilbmldadaaGreatDoorQ42
namespace Go.Proofs.YtikehilbmldadaaGreatDoor
open Go.RowKit
set_option linter.unusedVariables false
theorem line_ent (E : EntV) : lineB [.str entB, .str E.name, .num E.tol] = [101, 110, 116, 105, 116, 121, 32] ++ E.name.data.toList ++ [32] ++ Lib.itoa E.tol ++ [10] := by simp [lineB, upB, sepB, wordB, entB, List.range_succ]
theorem ent_lines (E : EntV) : linesB (entLn E) = lineB [.str entB, .str E.name, .num E.tol] ++ linesB (E.points.map pntL) ++ linesB (cntLn E) ++ linesB (E.gaps.map (gapLn E)) ++ linesB (E.edges.map (edgLn E)) ++ linesB (E.first.map (fstLn E)) ++ linesB (E.last.map (lstLn E)) := by
  unfold entLn
  rw [show ([.str entB, .str E.name, .num E.tol] :: (E.points.map pntL ++ cntLn E ++ E.gaps.map (gapLn E) ++ E.edges.map (edgLn E) ++ E.first.map (fstLn E) ++ E.last.map (lstLn E)) : List (List W1)) = [[.str entB, .str E.name, .num E.tol]] ++ (E.points.map pntL ++ cntLn E ++ E.gaps.map (gapLn E) ++ E.edges.map (edgLn E) ++ E.first.map (fstLn E) ++ E.last.map (lstLn E)) from rfl]
  simp only [linesB_app, linesB_one, List.append_assoc]
end Go.Proofs.YtikehilbmldadaaGreatDoor
