/- The law's own fixed inputs: lives() is true. -/
import Derived.Test.YtfgdhcemidlnfaaGreatDoorWlA
set_option linter.all false
namespace Go.Proofs.YtfgdhcemidlnfaaGreatDoor
open Go.RowKit Fo

set_option maxRecDepth 100000 in
set_option maxHeartbeats 4000000 in
theorem lives_in (w : World) (hT : TabP w) :
    Calls Tryz.prog 7 #[] w fun e w' => e = .returned (.bool true) ∧ Below w.heap.size w w' := by
  have HTW := Lib.hid hT
  have HF1 := Lib.hid (fun (W : World) (cs : List Value) (h : DocAt (fun b => b < W.heap.size) 2 W cs wholeD) (hT : TabP W) => show Calls Tryz.prog 8 #[.agg cs.toArray] W (fun e w' => e = .returned (.tuple #[.string ⟨wholeF.toArray⟩, .int .i64 0]) ∧ Below W.heap.size W w') from by
    have := file_in (fun b => b < W.heap.size) 2 W cs wholeD h (fun b h => h) wholeD_fit hT
    rw [wholeD_s, wholeD_e] at this; exact this)
  have HF2 := Lib.hid (fun (W : World) (cs : List Value) (h : DocAt (fun b => b < W.heap.size) 2 W cs wholeD) (hT : TabP W) => show Calls Tryz.prog 10 #[.agg cs.toArray] W (fun e w' => (∃ p c, e = .returned (.tuple #[.slice p 3 c, .int .i64 0]) ∧ RArg slE w' (.slice p 3 c) wholeS) ∧ Below W.heap.size W w') from by
    have := places_in (fun b => b < W.heap.size) 2 W cs wholeD h (fun b h => h) wholeD_fit hT
    rw [wholeD_l, wholeD_e] at this; exact this)
  have HF3 := Lib.hid (fun (W : World) (hT : TabP W) => show Calls Tryz.prog 8 #[.agg #[.slice none 0 0, .int .i64 0, .int .i64 0, .int .i64 0, .string ⟨#[]⟩, .slice none 0 0, .slice none 0 0]] W (fun e w' => e = .returned (.tuple #[.string ⟨#[]⟩, .int .i64 10]) ∧ Below W.heap.size W w') from by
    have := file_in (fun _ => False) 2 W _ zeroD (zero_at _ _ W) (fun b h => h.elim) zeroD_fit hT
    rw [zeroD_s, zeroD_e] at this; exact this)
  clear hT
  go_enter Tryz.func7, Tryz.ntmps7
  go_wp2_with fail
  refine (wdoc_in _).mono ?_
  rintro e w1 ⟨rfl, hD1, hb1⟩
  go_wp2_with fail
  refine (HF1.out _ _ hD1 (HTW.out.below hb1)).mono ?_
  rintro e w2 ⟨rfl, hb2⟩
  have hbw2 := hb1.trans (hb2.mono hb1.size)
  clear hD1 hb1 hb2 HF1
  go_wp2_with fail
  refine (wdoc_in _).mono ?_
  rintro e w3 ⟨rfl, hD3, hb3⟩
  have hbw3 := hbw2.trans (hb3.mono hbw2.size)
  go_wp2_with fail
  refine (HF2.out _ _ hD3 (HTW.out.below hbw3)).mono ?_
  rintro e w4 ⟨⟨p, c, rfl, hA⟩, hb4⟩
  have hbw4 := hbw3.trans (hb4.mono hbw3.size)
  clear hD3 hb3 hb4 hbw2 hbw3 HF2
  obtain ⟨g, off, rfl, hgl, q0, q1, q2, q3⟩ := slot_at hA 2 (by decide)
  clear hA
  go_wp2_with fail
  refine (HF3.out _ (HTW.out.below hbw4)).mono ?_
  rintro e w5 ⟨rfl, hb5⟩
  have k := fun o => World.cell?_of_block (a := ⟨g, o, none⟩) (hb5.block g hgl)
  have r0 := (k _).trans q0
  have r1 := (k _).trans q1
  have r2 := (k _).trans q2
  have r3 := (k _).trans q3
  have hbw5 := hbw4.trans (hb5.mono hbw4.size)
  clear q0 q1 q2 q3 k hb5 hbw4 HF3
  simp only [wholeS, List.getElem_cons_succ, List.getElem_cons_zero] at r0 r1 r2 r3
  go_wp2
  go_ret
  exact ⟨rfl, hbw5⟩
end Go.Proofs.YtfgdhcemidlnfaaGreatDoor
