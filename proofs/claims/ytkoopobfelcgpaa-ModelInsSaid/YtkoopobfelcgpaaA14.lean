/- layer 5: the laws' walks -/
import Derived.Test.YtkoopobfelcgpaaA13
import Derived.Deep.RegionHeld3
namespace Go.Proofs.Ytkoopobfelcgpaa
open Go.RowKit

theorem held4 {w W W' : World} {n : Nat} {a b c d : Value} (h : (W.cell? ⟨n, 0, none⟩ = some a ∧ W.cell? ⟨n, 1, none⟩ = some b ∧ W.cell? ⟨n, 2, none⟩ = some c ∧ W.cell? ⟨n, 3, none⟩ = some d) ∧ Gr w W) (g : Gr W W') :
    (W'.cell? ⟨n, 0, none⟩ = some a ∧ W'.cell? ⟨n, 1, none⟩ = some b ∧ W'.cell? ⟨n, 2, none⟩ = some c ∧ W'.cell? ⟨n, 3, none⟩ = some d) ∧ Gr w W' :=
  ⟨⟨g.cell h.1.1, g.cell h.1.2.1, g.cell h.1.2.2.1, g.cell h.1.2.2.2⟩, h.2.trans g⟩

set_option maxHeartbeats 2000000 in
theorem ModelIns_any (x : PIns) (len : Int) (w : World) : Calls Try.prog 4 #[.agg #[.int .i64 x.op, .int .i64 x.a, .int .i64 x.b, .int .i64 x.c], .int .i64 len] w fun e w' => e = .returned (.bool true) ∧ Gr w w' := by
  go_enter Try.func4, Try.ntmps4
  go_wp2_with fail
  have hB := (Gr.refl w).alloc (.cells #[.int .i64 x.op, .int .i64 x.a, .int .i64 x.b, .int .i64 x.c] 34)
  go_region_held3 (fun w' => (w'.cell? ⟨w.heap.size, 0, none⟩ = some (.int .i64 x.op) ∧ w'.cell? ⟨w.heap.size, 1, none⟩ = some (.int .i64 x.a) ∧ w'.cell? ⟨w.heap.size, 2, none⟩ = some (.int .i64 x.b) ∧ w'.cell? ⟨w.heap.size, 3, none⟩ = some (.int .i64 x.c)) ∧ Gr w w')
    (first | (refine held4 ?_ (by assumption); assumption) | (refine ⟨?_, hB.drew⟩; go_keep) | go_keep)
    (first
      | (go_at_call 29; refine (awake5_any _).mono ?_; rintro e w' ⟨rfl, hg⟩)
      | (go_at_call 33; refine (Ins_any _ _ _ _ _ _).mono ?_; rintro e w' ⟨rfl, hg⟩)
      | (go_at_call 34; refine (RIns_any _ _ _ _ _ _).mono ?_; rintro e w' ⟨rfl, hg⟩))
  all_goals
    have hend : Gr w _ := And.right (by assumption)
    go_wp2
    go_ret
    exact ⟨rfl, hend⟩
end Go.Proofs.Ytkoopobfelcgpaa
