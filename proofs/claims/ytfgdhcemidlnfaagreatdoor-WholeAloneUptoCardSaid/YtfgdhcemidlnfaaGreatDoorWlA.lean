/- The law's own document, as it lies in memory; its file. -/
import Derived.Test.YtfgdhcemidlnfaaGreatDoorWoB
set_option linter.all false
namespace Fo
/-- The law's own document. -/
def wholeD : Dc := ⟨[⟨2, 0, .mk 7 0 0 [] [] []⟩], .mk 7 0 0 [] [wRoot] [.mk 8 2 0 [] [] []]⟩
def wholeF : L := [37, 80, 68, 70, 45, 49, 46, 55, 10, 37, 226, 227, 207, 211, 10, 50, 32, 48, 32, 111, 98, 106, 10, 60, 60, 62, 62, 10, 101, 110, 100, 111, 98, 106, 10, 120, 114, 101, 102, 10, 48, 32, 51, 10, 48, 48, 48, 48, 48, 48, 48, 48, 48, 49, 32, 54, 53, 53, 51, 53, 32, 102, 32, 10, 48, 48, 48, 48, 48, 48, 48, 48, 48, 48, 32, 48, 48, 48, 48, 48, 32, 102, 32, 10, 48, 48, 48, 48, 48, 48, 48, 48, 49, 53, 32, 48, 48, 48, 48, 48, 32, 110, 32, 10, 116, 114, 97, 105, 108, 101, 114, 10, 60, 60, 47, 82, 111, 111, 116, 32, 50, 32, 48, 32, 82, 47, 83, 105, 122, 101, 32, 51, 62, 62, 10, 115, 116, 97, 114, 116, 120, 114, 101, 102, 10, 51, 53, 10, 37, 37, 69, 79, 70, 10]
def wholeS : List Sl := [⟨0, 0, 1, 65535⟩, ⟨1, 0, 0, 0⟩, ⟨2, 1, 15, 0⟩]
def zeroD : Dc := ⟨[], .mk 0 0 0 [] [] []⟩
theorem wholeD_file : fileW wholeD = .good (wholeF, wholeS) := by kernel_rfl
theorem zeroD_file : fileW zeroD = .bad 10 := by kernel_rfl
theorem wholeD_fit : DocFit wholeD := ⟨by decide, by decide, by decide⟩
theorem zeroD_fit : DocFit zeroD := ⟨by decide, by decide, by decide⟩
end Fo
namespace Go.Proofs.YtfgdhcemidlnfaaGreatDoor
open Go.RowKit Fo

theorem wholeD_s : fileS wholeD = ⟨wholeF.toArray⟩ := by unfold fileS; rw [wholeD_file]
theorem wholeD_e : fileE wholeD = 0 := by unfold fileE; rw [wholeD_file]
theorem wholeD_l : fileSl wholeD = wholeS := by unfold fileSl; rw [wholeD_file]
theorem zeroD_s : fileS zeroD = ⟨#[]⟩ := by unfold fileS; rw [zeroD_file]
theorem zeroD_e : fileE zeroD = 10 := by unfold fileE; rw [zeroD_file]
theorem zero_at (S : Nat → Prop) (d : Nat) (w : World) : DocAt S d w [.slice none 0 0, .int .i64 0, .int .i64 0, .int .i64 0, .string ⟨#[]⟩, .slice none 0 0, .slice none 0 0] zeroD :=
  ⟨_, _, rfl, .inl ⟨rfl, _, _, rfl⟩, by decide, by simp [zeroD], ⟨_, _, rfl, .inl ⟨rfl, _, _, rfl⟩, .inl ⟨rfl, _, _, rfl⟩⟩, ⟨by decide, by decide, by decide, by simp [zeroD, Ob.keys], by simp [zeroD, Ob.kids]⟩⟩
theorem whole_at {w : World} {a b c : Nat} (h1 : w.heap[a]? = some (.cells #[.int .i64 2, .int .i64 0, .int .i64 7, .int .i64 0, .int .i64 0, .string ⟨#[]⟩, .slice none 0 0, .slice none 0 0] 50 (0, 0)))
    (h2 : w.heap[b]? = some (.cells #[.string ⟨#[82, 111, 111, 116]⟩] 9 (0, 0))) (h3 : w.heap[c]? = some (.cells #[.int .i64 8, .int .i64 2, .int .i64 0, .string ⟨#[]⟩, .slice none 0 0, .slice none 0 0] 26 (0, 0))) :
    DocAt (fun b => b < w.heap.size) 2 w [.slice (some ⟨a, 0, none⟩) 1 1, .int .i64 7, .int .i64 0, .int .i64 0, .string ⟨#[]⟩, .slice (some ⟨b, 0, none⟩) 1 1, .slice (some ⟨c, 0, none⟩) 1 1] wholeD := by
  refine ⟨_, _, rfl, .inr ⟨a, 0, 1, rfl, lt_of_block h1, fun j hj => ?_⟩, by decide, ?_, ?_, ?_⟩
  · obtain rfl : j = 0 := by simp [wholeD] at hj; omega
    refine ⟨_, _, _, _, _, _, by simp [World.cell?, h1, wholeD], by simp [World.cell?, h1, wholeD], by simp [World.cell?, h1]; rfl, by simp [World.cell?, h1]; rfl, by simp [World.cell?, h1]; rfl, by simp [World.cell?, h1]; rfl, by simp [World.cell?, h1]; rfl, by simp [World.cell?, h1]; rfl, ?_⟩
    exact ⟨_, _, rfl, .inl ⟨rfl, _, _, rfl⟩, .inl ⟨rfl, _, _, rfl⟩⟩
  · intro i hi
    simp [wholeD] at hi
    subst hi
    exact ⟨by decide, by decide, by decide, by simp [Ob.keys], by simp [Ob.kids]⟩
  · refine ⟨_, _, rfl, .inr ⟨b, 0, 1, rfl, lt_of_block h2, fun i hi => ?_⟩, .inr ⟨c, 0, 1, rfl, lt_of_block h3, fun i hi => ?_⟩⟩
    · obtain rfl : i = 0 := by simp [wholeD, Ob.keys] at hi; omega
      simp [World.cell?, h2, wholeD, Ob.keys, wRoot]
    · obtain rfl : i = 0 := by simp [wholeD, Ob.kids] at hi; omega
      refine ⟨[.int .i64 8, .int .i64 2, .int .i64 0, .string ⟨#[]⟩, .slice none 0 0, .slice none 0 0], rfl, fun j hj => ?_, ⟨_, _, rfl, .inl ⟨rfl, _, _, rfl⟩, .inl ⟨rfl, _, _, rfl⟩⟩⟩
      have : j = 0 ∨ j = 1 ∨ j = 2 ∨ j = 3 ∨ j = 4 ∨ j = 5 := by simp at hj; omega
      rcases this with rfl | rfl | rfl | rfl | rfl | rfl <;> simp [World.cell?, h3]
  · refine ⟨by decide, by decide, by decide, ?_, ?_⟩
    · intro x hx
      simp [wholeD, Ob.keys] at hx
      subst hx
      decide
    · intro k hk
      simp [wholeD, Ob.kids] at hk
      subst hk
      exact ⟨by decide, by decide, by decide, by simp [Ob.keys], by simp [Ob.kids]⟩
set_option maxRecDepth 100000 in
set_option maxHeartbeats 1000000 in
theorem wdoc_in (w : World) :
    Calls Tryz.prog 20 #[] w fun e w' => e = .returned (.agg #[.slice (some ⟨w.heap.size + 1, 0, none⟩) 1 1, .int .i64 7, .int .i64 0, .int .i64 0, .string ⟨#[]⟩, .slice (some ⟨w.heap.size + 2, 0, none⟩) 1 1, .slice (some ⟨w.heap.size + 3, 0, none⟩) 1 1]) ∧
      DocAt (fun b => b < w'.heap.size) 2 w' [.slice (some ⟨w.heap.size + 1, 0, none⟩) 1 1, .int .i64 7, .int .i64 0, .int .i64 0, .string ⟨#[]⟩, .slice (some ⟨w.heap.size + 2, 0, none⟩) 1 1, .slice (some ⟨w.heap.size + 3, 0, none⟩) 1 1] wholeD ∧ Below w.heap.size w w' := by
  go_enter Tryz.func20, Tryz.ntmps20
  go_wp2
  obtain ⟨w1, hw1⟩ : ∃ w1, (((w.alloc (.cells #[.slice (some ⟨w.heap.size + 1, 0, none⟩) 1 1, .int .i64 7, .int .i64 0, .int .i64 0, .string ⟨#[]⟩, .slice (some ⟨w.heap.size + 1 + 1, 0, none⟩) 1 1, .slice (some ⟨w.heap.size + 1 + 1 + 1, 0, none⟩) 1 1] 28)).alloc
    (.cells #[.int .i64 2, .int .i64 0, .int .i64 7, .int .i64 0, .int .i64 0, .string ⟨#[]⟩, .slice none 0 0, .slice none 0 0] 50)).alloc (.cells #[.string ⟨#[82, 111, 111, 116]⟩] 9)).alloc (.cells #[.int .i64 8, .int .i64 2, .int .i64 0, .string ⟨#[]⟩, .slice none 0 0, .slice none 0 0] 26) = w1 := ⟨_, rfl⟩
  rw [hw1]
  have h1 : w1.heap[w.heap.size + 1]? = some (.cells #[.int .i64 2, .int .i64 0, .int .i64 7, .int .i64 0, .int .i64 0, .string ⟨#[]⟩, .slice none 0 0, .slice none 0 0] 50 (0, 0)) := by
    rw [← hw1, Below.heap_alloc _ _ _ (by simp), Below.heap_alloc _ _ _ (by simp)]; exact heap_new_at _ _ _ (by simp)
  have h2 : w1.heap[w.heap.size + 2]? = some (.cells #[.string ⟨#[82, 111, 111, 116]⟩] 9 (0, 0)) := by
    rw [← hw1, Below.heap_alloc _ _ _ (by simp)]; exact heap_new_at _ _ _ (by simp)
  have h3 : w1.heap[w.heap.size + 3]? = some (.cells #[.int .i64 8, .int .i64 2, .int .i64 0, .string ⟨#[]⟩, .slice none 0 0, .slice none 0 0] 26 (0, 0)) := by
    rw [← hw1]; exact heap_new_at _ _ _ (by simp)
  have h0 : w1.heap[w.heap.size]? = some (.cells #[.slice (some ⟨w.heap.size + 1, 0, none⟩) 1 1, .int .i64 7, .int .i64 0, .int .i64 0, .string ⟨#[]⟩, .slice (some ⟨w.heap.size + 1 + 1, 0, none⟩) 1 1, .slice (some ⟨w.heap.size + 1 + 1 + 1, 0, none⟩) 1 1] 28 (0, 0)) := by
    rw [← hw1, Below.heap_alloc _ _ _ (by simp; omega), Below.heap_alloc _ _ _ (by simp; omega), Below.heap_alloc _ _ _ (by simp)]; exact heap_new_at _ _ _ rfl
  have hb : Below w.heap.size w w1 := by rw [← hw1]; exact (by repeat' (first | (with_reducible first | exact Below.refl _ _ | refine Below.drew ?_ | refine belowDrewN ?_ _ | refine belowIter ?_ ?_ _ _ | refine Below.setCell ?_ ?_ _ | refine Below.alloc ?_ ?_ _ | refine bT hb4 ?_ ?_ | refine bT hb3 ?_ ?_ | refine bT hb2 ?_ ?_ | refine bT hb1 ?_ ?_ | refine bT hbr ?_ ?_ | refine bT hb ?_ ?_) | (simp; done) | (simp; omega) | omega))
  clear hw1
  obtain ⟨k0, k1, k2, k3, k4, k5, k6⟩ := seven_of h0
  refine bodyPost_ret (v := .agg #[.slice (some ⟨w.heap.size + 1, 0, none⟩) 1 1, .int .i64 7, .int .i64 0, .int .i64 0, .string ⟨#[]⟩, .slice (some ⟨w.heap.size + 2, 0, none⟩) 1 1, .slice (some ⟨w.heap.size + 3, 0, none⟩) 1 1]) (by simp [results, Tryz.results20, go_sem, k0, k1, k2, k3, k4, k5, k6]) rfl ⟨rfl, whole_at h1 h2 h3, hb⟩
end Go.Proofs.YtfgdhcemidlnfaaGreatDoor
