/- A loop over a function at the widest fence, where deferred marks lie already. No condition. -/
import Derived.Test.YtkekhnclbkachaaRng
namespace Go.Proofs.Ytkekhnclbkachaa
open Go.RowKit
theorem wp_rangeHD {P : Program} {α : Type} {g : Operand} {ps : Array Tmp} {assign body : Code} {Q : Exit → Act → World → Prop} {T : Array Value} {ds : List Deferred} {w : World} (n : Nat) (h1 : 1 ≤ n)
    {gf : Nat} {lb : Array Value} (hg : (⟨T, ds⟩ : Act).eval g = .func (.func gf) #[] lb) (eg : ∀ args w, (callFunc gf args).run P w = .ok (.enter gf args) w)
    {encs : α → Array Value} {n₀ : Nat} {S Sp : List α → Prop} {N : Nat} (hseq : SeqStopsK Fence.wide (n - 1) P gf lb encs (Below n₀) S Sp N w) (hn0 : n₀ ≤ w.heap.size) (hps : ∀ x, (encs x).size = ps.size)
    (I : List α → World → Prop) (Ix : Code → List α → World → Prop) (hI : OwnFrom w.heap.size I) (hIx : ∀ c, OwnFrom w.heap.size (Ix c)) (h0 : I [] w) (Bx : α → Nat → World → Prop) (hBx : ∀ x m, OwnFrom w.heap.size (fun (_ : Unit) W => Bx x m W)) (sets : α → Nat → Array Value → Array Value)
    (hassign : ∀ (l : Nat) (pre : List α) (x : α) (W : World) (K : Act → World → Prop), I pre W → (∀ m W', KeepsFrom w.heap.size W W' → Below n₀ W W' → I pre W' → Bx x m W' → K ⟨sets x m ((ps.zip (encs x)).foldl (fun t (p, v) => t.setIfInBounds p v) T), []⟩ W') →
      assign.wpIn (Fence.wide.inRound l) (n - 1 - 1) P (Exit.then K (fun _ _ _ => False)) { tmps := (ps.zip (encs x)).foldl (fun t (p, v) => t.setIfInBounds p v) T, defers := [] } W)
    (hbody : ∀ (l : Nat) (pre : List α) (x : α) (m : Nat) (W : World), w.heap.size ≤ l → I pre W → Bx x m W → pre.length < N → body.wpIn (Fence.wide.inRound l) (n - 1 - 1) P (ownPostG w.heap.size (Below n₀) I Ix (pre ++ [x]) W) ⟨sets x m ((ps.zip (encs x)).foldl (fun t (p, v) => t.setIfInBounds p v) T), []⟩ W)
    (hdone : ∀ (D : Nat) (xs : List α) (W : World), w.heap.size ≤ D → S xs → I xs W → W.heap[D]? = some (.deferred (some [])) → Q .normal ⟨T, { target := .collected D, args := #[] } :: ds⟩ W)
    (hstop : ∀ (D : Nat) (c : Code) (pre : List α) (W : World), w.heap.size ≤ D → Sp pre → Ix c pre W → W.heap[D]? = some (.deferred (some [])) → c.wp P Q ⟨T, { target := .collected D, args := #[] } :: ds⟩ W) :
    (Code.rangeFunc g ps assign body).wp P Q ⟨T, ds⟩ w := by
  refine (wpIn_wide (n := n)).1 (wpIn_rangeFunc_ownH (F := Fence.wide) rfl h1 hg trivial eg hseq belowK_t (belowK_b hn0) (Below.refl _ _) hps I Ix hI hIx h0
    (fun x a' W => ∃ m, Bx x m W ∧ a' = ⟨sets x m ((ps.zip (encs x)).foldl (fun t (p, v) => t.setIfInBounds p v) T), []⟩) ?_ ?_ ?_ ?_ ?_)
  · rintro x a' s A B row ⟨m, hm, ha⟩ hg hr
    exact ⟨m, hBx x m s A B row hm hg hr, ha⟩
  · intro l pre x W K hI hK
    exact hassign l pre x W K hI fun m W' h1 h2 h3 h4 => hK _ W' h1 h2 h3 ⟨m, h4, rfl⟩
  · rintro l pre x a' W hl _ hI ⟨m, hm, rfl⟩ hN
    exact hbody l pre x m W hl hI hm hN
  · intro D xs W hD hS hI hW
    exact hdone D xs W hD hS hI hW
  · intro D c pre W hD hS hI hW
    exact wpIn_wide.2 (hstop D c pre W hD hS hI hW)

end Go.Proofs.Ytkekhnclbkachaa
