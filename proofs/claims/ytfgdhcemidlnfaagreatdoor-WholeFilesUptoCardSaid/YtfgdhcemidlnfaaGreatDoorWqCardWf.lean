/- The statement WholeFiles in its second form, proved: the file and the slots that the program writes for a document are those of the plain second program. Its condition: what the call reads is of bulk at most 1048576; and the card's own: the listed tables of Go's library are as the program's text lays them. -/
import Derived.Test.YtfgdhcemidlnfaaGreatDoorWqo
import Derived.Test.YtfgdhcemidlnfaaGreatDoorWqp
import Derived.Test.YtfgdhcemidlnfaaGreatDoorCards
import Derived.Test.YtfgdhcemidlnfaaGreatDoorTie
import Derived.WideKeyArgs
set_option linter.all false
set_option maxRecDepth 100000
set_option maxHeartbeats 8000000
namespace Go.Proofs.YtfgdhcemidlnfaaGreatDoor.wholeFiles
open Go.ChangeShapes Go.WideShapes Go.ChangeAt Go.RowKit Go.ChangeMaps Fo
theorem laidP : laidOutB Tryz.prog = true:=by kernel_rfl
theorem recD : Tryz.prog.readableRec 28 = true:=by kernel_rfl
theorem rowD : 28 < Tryz.prog.types.size:=of_decide_eq_true (by kernel_rfl)
theorem contract (H : Type) (enc : TypeId × Value → H) (W : World) (base : Nat) (args : Array Value) (ds gs : List (DataW H)) (before : List MemPlace)
   (hval : ∀ (j : Nat) t v,Tryz.f3.params[j]? = some t → args[j]? = some v → Value.okWide Tryz.prog W .any base t v)
   (hW : DataW.Whole enc Tryz.prog Tryz.f3.params.toList Rows.wholeFilesSpec.vars false W args.toList ds gs before)
   (hcond : Rows.uptoSmall H (ds ++ gs) = true)
   (hL : laidMet Tryz.prog laid5 W) :
   Calls Tryz.prog 3 args W fun e W' => ∃ v,e = .returned v ∧ Rows.wholeFilesSpec.post enc Tryz.prog Tryz.f3 false true false false W args v W':=by
 have hW':=hW
 obtain ⟨p,q,hA0,hV,rfl,hfz,hnd⟩:=hW
 have hA : DataW.TrodAll enc Tryz.prog W 0 (fun _ => true) true Tryz.f3.params.toList args.toList ds p:=hA0
 rw [Tryz.params3] at hA hval
 obtain ⟨v0,vs0,d0,ds0,p0,q0,hargs,rfl,rfl,h0,r0⟩:=trodAll_cons hA
 obtain ⟨rfl,rfl,rfl⟩:=trodAll_nil r0
 obtain rfl : args = #[v0]:=by cases args;simp_all
 obtain ⟨rfl,rfl⟩:=trodVars_none hV
 obtain ⟨cs,rfl,hcs⟩:=okWide_struct Tryz.underlying28 (hval 0 28 v0 rfl rfl)
 have h0':=h0
 obtain ⟨fuel,hf⟩:=h0
 obtain ⟨D,iv,u0,u1,u2,u3,u4,u5,hcd,hI,hO,hbk⟩:=open_doc fuel _ _ hf
 have hB : Rows.uptoBulkAll ([d0] ++ ([] : List (DataW H))) ≤ 1048576:=of_decide_eq_true hcond
 simp only [List.append_nil,Rows.uptoBulkAll] at hB
 clear hA0
 simp only [List.append_nil] at hW'
 have hlt : ∀ x ∈ p0,x.block < W.heap.size:=fun x hx => hW'.lt x hx
 have hbk2 : ∀ e,bulkD e D + 3 * D.items.length ≤ 1048576:=fun e => by have:=hbk e;dsimp only at this;omega
 have hcs2 : cs = (iv :: [u0,u1,u2,u3,u4,u5]).toArray:=by
   have : cs.toList = [iv,u0,u1,u2,u3,u4,u5]:=hcd
   rw [← this]
 have hal:=wfiles_in (fun b => b < W.heap.size) fuel D iv [u0,u1,u2,u3,u4,u5] W hI.up hO.up (fun b h => h) (fun e => by have:=hbk2 e;omega) (by have:=hbk2 0;omega) (items_small hI.up hbk2)
   (small_of (B:=1048576) (by decide) _ _ _ hO.up (fun e => by have:=hbk2 e;unfold bulkD at this;omega)) (tabP_of hL) (hcd ▸ cap_doc fuel _ _ hf)
 rw [← hcs2] at hal
 refine hal.mono fun e W' ⟨he,hb⟩ => ?_
 subst he
 have hsame : ∀ x ∈ p0,W.sameAt W' x:=fun x hx => by
   cases x with
   | cell b off => exact hb.cell (p:=⟨b,off,none⟩) (hlt _ hx)
   | map b => exact hb.block b (hlt _ hx)
 exact ⟨_,rfl,post_below (pa:=p0 ++ []) (pv:=[]) hW' (fun _ _ _ => trodAll_cons_mk (shut_bool Tryz.underlying4 _) trodAll_mk0)
   (fun sp hsp => trodAll_cons_mk (Go.WideElems.Trod_stays laidP recD rowD h0' hsame (fun x hx => hsp x hx)) trodAll_mk0) (fun _ _ => rfl) (by simp)
   hb (ok_one (by kernel_rfl) rfl (okWide_bool_mk Tryz.underlying4 _))⟩
theorem laid_met (os : Os) : laidMet Tryz.prog Rows.wholeFilesUptoRow.laid ((laidWorld os).forCall (fun _ _ => 0) ⟨#[],#[.agg #[.slice none 0 0,.int .i64 0,.int .i64 0,.int .i64 0,.string ⟨#[]⟩,.slice none 0 0,.slice none 0 0]],[]⟩).memory :=
 laidMet_of_run' 8 (by kernel_rfl) (by kernel_rfl)
theorem reads (os : Os) {H : Type} (enc : TypeId × Value → H) : ∃ places,DataW.whole enc Tryz.prog ((laidWorld os).forCall (fun _ _ => 0) ⟨#[],#[.agg #[.slice none 0 0,.int .i64 0,.int .i64 0,.int .i64 0,.string ⟨#[]⟩,.slice none 0 0,.slice none 0 0]],[]⟩).memory Tryz.f3.params.toList Rows.wholeFilesSpec.vars false #[Value.agg #[Value.slice none 0 0,Value.int .i64 0,Value.int .i64 0,Value.int .i64 0,Value.string ⟨#[]⟩,Value.slice none 0 0,Value.slice none 0 0]].toList 8 = some ([.agg [.nil,.agg [.lit (.int .i64 0),.lit (.int .i64 0),.lit (.int .i64 0),.lit (.string []),.nil,.nil]]],[],places) :=
 ⟨[],by kernel_rfl⟩
theorem lifted (os : Os) (started : os.Started) (H : Type) (enc : TypeId × Value → H) (F : Stop.Interp) :
   ReturnsInHanded {} Tryz.checked os 3 .any ((Rows.OpenSpec.upto Rows.wholeFilesSpec).preRow enc Tryz.prog Tryz.f3 Rows.wholeFilesUptoRow.domain false Rows.wholeFilesUptoRow.laid) (((Rows.OpenSpec.upto Rows.wholeFilesSpec).at F).post enc Tryz.prog Tryz.f3 false true false false):=by
 obtain ⟨places,hx⟩:=reads os enc
 refine returnsInHanded_of_row (C:=Tryz.checked) (s:=Rows.OpenSpec.upto Rows.wholeFilesSpec) ownK started (by kernel_rfl) Tryz.func3
   (witness_row_at (enc:=enc) (C:=Tryz.checked) false (laidWorld os) #[.agg #[.slice none 0 0,.int .i64 0,.int .i64 0,.int .i64 0,.string ⟨#[]⟩,.slice none 0 0,.slice none 0 0]] rfl (by kernel_rfl) (by kernel_rfl) (by kernel_rfl)
     (OpenSpec.preRow_of_cond 8 hx (by kernel_rfl) (fun k hk => by cases hk;kernel_rfl) (by kernel_rfl) (laid_met os))) ?_
 intro W base args ds gs before hval hW _ hcond _ hL _ _
 exact contract H enc W base args ds gs before hval hW (hcond _ rfl) hL
theorem said : Rows.WholeFilesUptoSaid :=
 OpenClaim.holds_of_cond 3 Tryz.f3 rfl rfl rfl rfl rfl rfl rfl ⟨rfl,rfl,rfl,rfl,rfl⟩ rfl rfl rfl rfl rfl (by kernel_rfl) Tryz.func3 (by kernel_rfl)
   (of_decide_eq_true (by kernel_rfl)) (by unfold Func.isWrapper;first | (rw [if_pos (by decide +kernel)];kernel_rfl) | (rw [if_neg (by decide +kernel)];exact ⟨rfl,rfl⟩))
   (fun os started H enc _ F => by rw [OpenClaim.pre_eq_preRow];exact lifted os started H enc F)
theorem plain (f : FuncId) (fn : Func) (hf : Tryz.pinned.checked.prog.funcNamed "foliant/foliantlaw26.WholeFiles" = some f) (hfn : Tryz.pinned.checked.prog.funcs[f]? = some fn) :
   true = Tryz.pinned.checked.prog.looks [] ∧ ∀ (j : Nat) t,fn.params[j]? = some t → Tryz.pinned.checked.prog.wantsStandIn t = false:=by
 obtain rfl : f = 3 := Option.some.inj ((show Tryz.prog.funcNamed "foliant/foliantlaw26.WholeFiles" = some 3 by kernel_rfl).symm.trans hf) |>.symm
 obtain rfl : fn = Tryz.f3:=(Option.some.inj (Tryz.func3.symm.trans hfn)).symm
 refine ⟨by kernel_rfl,fun j t ht => ?_⟩
 rw [Tryz.params3] at ht
 have ht':=Array.mem_of_getElem? ht
 simp only [List.mem_toArray,List.mem_cons,List.not_mem_nil,or_false] at ht'
 subst ht'
 exact (show Tryz.prog.wantsStandIn 28 = false by kernel_rfl)
theorem card : Rows.WholeFilesUptoCardSaid :=
 Claim7.holds_tied_plain_at .later [] _ _ _ _ said (fun _ h => by cases h) (by kernel_rfl) (fun _ h => by cases h) wholeFilesUpto_row_tie rfl ⟨rfl,rfl⟩ (by kernel_rfl) rfl plain (by kernel_rfl)
#print axioms card
end Go.Proofs.YtfgdhcemidlnfaaGreatDoor.wholeFiles
