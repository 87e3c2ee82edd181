/- whole.File and whole.Places by what made answers. -/
import Derived.Test.YtfgdhcemidlnfaaGreatDoorWoD
set_option linter.all false
namespace Go.Proofs.YtfgdhcemidlnfaaGreatDoor
open Go.RowKit Fo

set_option maxRecDepth 100000 in
set_option maxHeartbeats 400000 in
theorem file_of (k1 n1 g1 : Int) (q1 : ByteArray) (a1 a2 a3 : Option Addr) (b1 c1 b2 c2 b3 c3 : Nat) (s : ByteArray) (k : Int) (w : World) (H : ∀ W, Below w.heap.size w W → Calls Tryz.prog 21 #[.agg #[.slice a1 b1 c1, .int .i64 k1, .int .i64 n1, .int .i64 g1, .string q1, .slice a2 b2 c2, .slice a3 b3 c3]] W fun e w' => (∃ pl nl cl, e = .returned (.tuple #[.string s, .slice pl nl cl, .int .i64 k])) ∧ Below W.heap.size W w') :
    Calls Tryz.prog 8 #[.agg #[.slice a1 b1 c1, .int .i64 k1, .int .i64 n1, .int .i64 g1, .string q1, .slice a2 b2 c2, .slice a3 b3 c3]] w fun e w' => e = .returned (.tuple #[.string s, .int .i64 k]) ∧ Below w.heap.size w w' := by
  have HH := Lib.hid H
  clear H
  go_enter Tryz.func8, Tryz.ntmps8
  go_wp2_with fail
  refine (HH.out _ (by repeat' (first | (with_reducible first | exact Below.refl _ _ | refine Below.drew ?_ | refine belowDrewN ?_ _ | refine belowIter ?_ ?_ _ _ | refine Below.setCell ?_ ?_ _ | refine Below.alloc ?_ ?_ _ | refine bT hb4 ?_ ?_ | refine bT hb3 ?_ ?_ | refine bT hb2 ?_ ?_ | refine bT hb1 ?_ ?_ | refine bT hbr ?_ ?_ | refine bT hb ?_ ?_) | (simp; done) | (simp; omega) | omega))).mono ?_
  rintro e w1 ⟨⟨pl, nl, cl, rfl⟩, hb⟩
  go_wp2
  go_ret2
  exact ⟨rfl, ((Below.refl _ w).alloc (Nat.le_refl _) _).trans (hb.mono (by simp))⟩
set_option maxRecDepth 100000 in
set_option maxHeartbeats 400000 in
theorem places_of (Q : Value → World → Prop) (k1 n1 g1 : Int) (q1 : ByteArray) (a1 a2 a3 : Option Addr) (b1 c1 b2 c2 b3 c3 : Nat) (k : Int) (w : World) (H : ∀ W, Below w.heap.size w W → Calls Tryz.prog 21 #[.agg #[.slice a1 b1 c1, .int .i64 k1, .int .i64 n1, .int .i64 g1, .string q1, .slice a2 b2 c2, .slice a3 b3 c3]] W fun e w' => (∃ s pl nl cl, e = .returned (.tuple #[.string s, .slice pl nl cl, .int .i64 k]) ∧ Q (.slice pl nl cl) w') ∧ Below W.heap.size W w') :
    Calls Tryz.prog 10 #[.agg #[.slice a1 b1 c1, .int .i64 k1, .int .i64 n1, .int .i64 g1, .string q1, .slice a2 b2 c2, .slice a3 b3 c3]] w fun e w' => (∃ pl nl cl, e = .returned (.tuple #[.slice pl nl cl, .int .i64 k]) ∧ Q (.slice pl nl cl) w') ∧ Below w.heap.size w w' := by
  have HH := Lib.hid H
  clear H
  go_enter Tryz.func10, Tryz.ntmps10
  go_wp2_with fail
  refine (HH.out _ (by repeat' (first | (with_reducible first | exact Below.refl _ _ | refine Below.drew ?_ | refine belowDrewN ?_ _ | refine belowIter ?_ ?_ _ _ | refine Below.setCell ?_ ?_ _ | refine Below.alloc ?_ ?_ _ | refine bT hb4 ?_ ?_ | refine bT hb3 ?_ ?_ | refine bT hb2 ?_ ?_ | refine bT hb1 ?_ ?_ | refine bT hbr ?_ ?_ | refine bT hb ?_ ?_) | (simp; done) | (simp; omega) | omega))).mono ?_
  rintro e w1 ⟨⟨s, pl, nl, cl, rfl, hq⟩, hb⟩
  go_wp2
  go_ret2
  exact ⟨⟨pl, nl, cl, rfl, hq⟩, ((Below.refl _ w).alloc (Nat.le_refl _) _).trans (hb.mono (by simp))⟩
/-- What File answers. -/
def fileS (D : Dc) : ByteArray := match fileW D with | .good (f, _) => ⟨f.toArray⟩ | .bad _ => ⟨#[]⟩
def fileE (D : Dc) : Int := match fileW D with | .good _ => 0 | .bad k => k
def fileSl (D : Dc) : List Sl := match fileW D with | .good (_, l) => l | .bad _ => []
theorem MadeOut.read {D : Dc} {W w' : World} {e : Ending} (h : MadeOut D W e w') : (∃ p c, e = .returned (.tuple #[.string (fileS D), .slice p (fileSl D).length c, .int .i64 (fileE D)]) ∧ RArg slE w' (.slice p (fileSl D).length c) (fileSl D)) ∧ Below W.heap.size W w' := by
  unfold MadeOut at h
  unfold fileS fileE fileSl
  cases hf : fileW D with
  | good z =>
    obtain ⟨f, l⟩ := z
    rw [hf] at h
    obtain ⟨p, c, h1, h2, h3⟩ := h
    exact ⟨⟨p, c, h1, h2⟩, h3⟩
  | bad k =>
    rw [hf] at h
    exact ⟨⟨none, 0, h.1, RArg.nil _⟩, h.2⟩
theorem file_in (S : Nat → Prop) (d : Nat) (w : World) (cs : List Value) (D : Dc) (h : DocAt S d w cs D) (hS : ∀ b, S b → b < w.heap.size) (hfit : DocFit D) (hTW : TabP w) :
    Calls Tryz.prog 8 #[.agg cs.toArray] w fun e w' => e = .returned (.tuple #[.string (fileS D), .int .i64 (fileE D)]) ∧ Below w.heap.size w w' := by
  have HD := fun (W : World) (hW : Below w.heap.size w W) => made_in S d W cs D (by
    obtain ⟨iv, tc, rfl, hI, hl, hsI, hO, hsT⟩ := h
    exact ⟨iv, tc, rfl, hI.kept (fun b h => hW.block b (hS b h)), hl, hsI, hO.kept (fun b h => hW.block b (hS b h)) _, hsT⟩) (fun b h => Nat.lt_of_lt_of_le (hS b h) hW.size) hfit (hTW.below hW)
  obtain ⟨iv, tc, rfl, hI, hl, hsI, hO, hsT⟩ := h
  obtain ⟨p1, n1, c1, p2, n2, c2, rfl⟩ := hO.shape
  obtain ⟨ip, ic, rfl⟩ := hI.slice
  exact file_of _ _ _ _ _ _ _ _ _ _ _ _ _ _ _ _ (fun W hW => (HD W hW).mono fun e w' hm => ⟨by obtain ⟨⟨p, c, h1, _⟩, _⟩ := hm.read; exact ⟨_, _, _, h1⟩, hm.read.2⟩)
theorem places_in (S : Nat → Prop) (d : Nat) (w : World) (cs : List Value) (D : Dc) (h : DocAt S d w cs D) (hS : ∀ b, S b → b < w.heap.size) (hfit : DocFit D) (hTW : TabP w) :
    Calls Tryz.prog 10 #[.agg cs.toArray] w fun e w' => (∃ p c, e = .returned (.tuple #[.slice p (fileSl D).length c, .int .i64 (fileE D)]) ∧ RArg slE w' (.slice p (fileSl D).length c) (fileSl D)) ∧ Below w.heap.size w w' := by
  have HD := fun (W : World) (hW : Below w.heap.size w W) => made_in S d W cs D (by
    obtain ⟨iv, tc, rfl, hI, hl, hsI, hO, hsT⟩ := h
    exact ⟨iv, tc, rfl, hI.kept (fun b h => hW.block b (hS b h)), hl, hsI, hO.kept (fun b h => hW.block b (hS b h)) _, hsT⟩) (fun b h => Nat.lt_of_lt_of_le (hS b h) hW.size) hfit (hTW.below hW)
  obtain ⟨iv, tc, rfl, hI, hl, hsI, hO, hsT⟩ := h
  obtain ⟨p1, n1, c1, p2, n2, c2, rfl⟩ := hO.shape
  obtain ⟨ip, ic, rfl⟩ := hI.slice
  refine (places_of (fun v w' => ∃ p c, v = .slice p (fileSl D).length c ∧ RArg slE w' (.slice p (fileSl D).length c) (fileSl D)) _ _ _ _ _ _ _ _ _ _ _ _ _ (fileE D) _ (fun W hW => (HD W hW).mono fun e w' hm => ⟨by obtain ⟨⟨p, c, h1, h2⟩, _⟩ := hm.read; exact ⟨_, _, _, _, h1, _, _, rfl, h2⟩, hm.read.2⟩)).mono ?_
  rintro e w' ⟨⟨pl, nl, cl, rfl, p, c, h1, h2⟩, hb⟩
  cases h1
  exact ⟨⟨_, _, rfl, h2⟩, hb⟩
end Go.Proofs.YtfgdhcemidlnfaaGreatDoor
