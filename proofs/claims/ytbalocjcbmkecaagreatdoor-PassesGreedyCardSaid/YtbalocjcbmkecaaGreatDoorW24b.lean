/- Walks. -/
import Derived.Test.YtbalocjcbmkecaaGreatDoorRows
import Derived.Test.YtbalocjcbmkecaaGreatDoorW24
import Derived.Test.YtbalocjcbmkecaaGreatDoorXOp
import Derived.Test.YtbalocjcbmkecaaGreatDoorXMap
set_option linter.unusedVariables false
set_option linter.unusedSimpArgs false
namespace Go.Proofs.YtbalocjcbmkecaaGreatDoor
open Go.Lw

theorem count_v {l : List MOp} (h : ∀ o ∈ l, chkO o = 0) (hl : l.length ≤ 4096) : countS l = (cntS l : Int) := if_pos ⟨by omega, h⟩
theorem time_v {l : List MOp} (h : ∀ o ∈ l, chkO o = 0) (hl : l.length ≤ 4096) : timeS l = timS l := if_pos ⟨by omega, h⟩
theorem count_rng (l : List MOp) : 0 ≤ countS l ∧ countS l ≤ l.length + 1 := by
  unfold countS
  split
  · have h1 := cntP_le l (divS l)
    have h2 := divS_len l
    rw [cnt_div] at h1
    omega
  · omega
theorem chk_app {a b : List MOp} (ha : ∀ o ∈ a, chkO o = 0) (hb : ∀ o ∈ b, chkO o = 0) : ∀ o ∈ a ++ b, chkO o = 0 := fun o ho => by
  rcases List.mem_append.1 ho with h | h
  · exact ha o h
  · exact hb o h
theorem chk_one {o : MOp} (h : chkO o = 0) : ∀ x ∈ [o], chkO x = 0 := fun x hx => by rw [List.mem_singleton.1 hx]; exact h
theorem chk_rack0 : chkO rack0 = 0 := by decide
theorem take_sl {w : World} {A : Option Addr} {c : Nat} {os : List MOp} {o : MOp} (hs : Sl encOp w (.slice A (os ++ [o]).length c) (os ++ [o])) : Sl encOp w (.slice A os.length c) os := by
  have hs0 := hs
  obtain ⟨A', c', e, hl, hM, _⟩ := hs0
  cases e
  have := hs.take rfl (m := os.length) (by simp) (B := A) (c' := c) (by simp at hl; omega) hM (fun _ => rfl)
  rwa [List.take_left] at this
theorem rackF_succ {os : List MOp} {i : Nat} (h : i < os.length) : rackF 0 (os.take (i + 1)) = rkN (rackF 0 (os.take i)) (os.getD i op0) := by
  unfold rackF; rw [take_sg os i op0 h, List.foldl_append]; rfl
theorem rackF_in {os : List MOp} (hc : ∀ o ∈ os, chkO o = 0) : ∀ i, i ≤ os.length → -4 ≤ rackF 0 (os.take i) ∧ rackF 0 (os.take i) ≤ 4
  | 0, _ => by simp [rackF]
  | i + 1, h => by rw [rackF_succ (by omega)]; exact rkN_in (rackF_in hc i (by omega)) (all_getD hc i (by omega))
end Go.Proofs.YtbalocjcbmkecaaGreatDoor
