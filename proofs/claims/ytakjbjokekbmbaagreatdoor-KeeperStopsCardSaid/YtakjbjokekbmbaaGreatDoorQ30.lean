/- The document's ConfigText: one entity (made by mkct.py). -/
import Derived.Test.YtakjbjokekbmbaaGreatDoorQ29
namespace Go.Proofs.YtakjbjokekbmbaaGreatDoor
open Go.RowKit
set_option linter.unusedVariables false

theorem line_ent (E : EntV) : lineB [.str entB, .str E.name, .num E.tol] = [101, 110, 116, 105, 116, 121, 32] ++ E.name.data.toList ++ [32] ++ Lib.itoa E.tol ++ [10] := by simp [lineB, upB, sepB, wordB, entB, List.range_succ]
theorem line_cnt (E : EntV) : lineB [.str cntB, .str (nameAt E E.count), .num E.mn, .num E.mx] = [99, 111, 117, 110, 116, 32] ++ (nameAt E E.count).data.toList ++ [32] ++ Lib.itoa E.mn ++ [32] ++ Lib.itoa E.mx ++ [10] := by simp [lineB, upB, sepB, wordB, cntB, List.range_succ]
theorem ent_lines (E : EntV) : linesB (entLn E) = lineB [.str entB, .str E.name, .num E.tol] ++ linesB (E.points.map pntL) ++ linesB (cntLn E) ++ linesB (E.gaps.map (gapLn E)) ++ linesB (E.edges.map (edgLn E)) ++ linesB (E.first.map (fstLn E)) ++ linesB (E.last.map (lstLn E)) := by
  unfold entLn
  rw [show ([.str entB, .str E.name, .num E.tol] :: (E.points.map pntL ++ cntLn E ++ E.gaps.map (gapLn E) ++ E.edges.map (edgLn E) ++ E.first.map (fstLn E) ++ E.last.map (lstLn E)) : List (List W1)) = [[.str entB, .str E.name, .num E.tol]] ++ (E.points.map pntL ++ cntLn E ++ E.gaps.map (gapLn E) ++ E.edges.map (edgLn E) ++ E.first.map (fstLn E) ++ E.last.map (lstLn E)) from rfl]
  simp only [linesB_app, linesB_one, List.append_assoc]
end Go.Proofs.YtakjbjokekbmbaaGreatDoor
