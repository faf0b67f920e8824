/-
  Walks of package rate: New, Drop, All.
  No conditions.
-/
import Derived.Test.YtfdfnmlbmijdjaaRateH
namespace Go.Proofs.Ytfdfnmlbmijdjaa.Rt
open Go.RowKit Go.Lib Go.Proofs.YtfdfnmlbmijdjaaW.PrintWords Go.Proofs.YtfdfnmlbmijdjaaW.PrintLast Go.Proofs.YtfdfnmlbmijdjaaW.PrintMore
set_option linter.unusedVariables false
set_option linter.unusedSimpArgs false
set_option maxHeartbeats 8000000 in
set_option maxRecDepth 100000 in
theorem new_ (base : Nat) (W : World) : Calls Try.prog 6 #[] W fun e w' => e = .returned (.pointer (some ⟨W.heap.size, 0, none⟩)) ∧ Tab base w' W.heap.size (.slice none 0 0) [] ∧ Below W.heap.size W w' := by
  go_enter Try.func6, Try.ntmps6
  go_wp2
  go_ret
  exact ⟨rfl, ⟨blk_new W _, World.ownsRow_nil _ _ _ _⟩, below_alloc (Below.refl _ _) _⟩
set_option maxHeartbeats 8000000 in
set_option maxRecDepth 100000 in
theorem dropM_ (base g : Nat) (v : Value) (E : List Ent) (kc ks : Int) (W : World) (h : Tab base W g v E) (hso : Sorted E) (hsz : E.length < 1099511627776) : Calls Try.prog 10 #[.pointer (some ⟨g, 0, none⟩), .int .i64 kc, .int .i64 ks] W fun e w' => e = .returned (.int .i64 (if isAt E kc ks then 0 else 5)) ∧ ∃ v', Tab base w' g v' (rem E kc ks) ∧ Moved W w' g v.ownBlock := by
  have hcon := drop_ base g v E kc ks W h hso hsz
  have hg : g < W.heap.size := blk_lt h.1
  have HC := Lib.hid hcon
  cases ht : isAt E kc ks with
  | false =>
    rw [ht] at HC
    clear hcon h ht
    go_enter Try.func10, Try.ntmps10
    go_wp2_with (go_at_call 31; refine HC.out.mono ?_; rintro e w2 ⟨rfl, v', hT, hM⟩; have HT := Lib.hid (And.intro hT hM); clear hT hM)
    go_ret
    refine ⟨?_, ⟨v', HT.out.1⟩, HT.out.2⟩
    simp
  | true =>
    rw [ht] at HC
    clear hcon h ht
    go_enter Try.func10, Try.ntmps10
    go_wp2_with (go_at_call 31; refine HC.out.mono ?_; rintro e w2 ⟨rfl, v', hT, hM⟩; have HT := Lib.hid (And.intro hT hM); clear hT hM)
    go_ret
    refine ⟨?_, ⟨v', HT.out.1⟩, HT.out.2⟩
    simp
end Go.Proofs.Ytfdfnmlbmijdjaa.Rt
