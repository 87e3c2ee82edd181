/- The statement ChainMerges, proved: merging sections, finding a slot and taking the trailer agree with the document, for all arguments. No condition but the card's own: the listed tables are as the program's text lays them. -/
import Derived.Test.YtinafodpgjbedaaGreatDoorPdm
import Derived.Test.YtinafodpgjbedaaGreatDoorPdCnW
import Derived.Test.YtinafodpgjbedaaGreatDoorCards
import Derived.Test.YtinafodpgjbedaaGreatDoorTie
import Derived.WideKeyArgs
import Derived.Deep.DeepWitnessRowRef
set_option linter.all false
set_option maxRecDepth 100000
set_option maxHeartbeats 8000000
namespace Go.Proofs.YtinafodpgjbedaaGreatDoor.chainMerges
open Go.ChangeShapes Go.WideShapes Go.ChangeAt Go.RowKit Go.ChangeMaps Fo
theorem laidP : laidOutB Tryz.prog = true:=by kernel_rfl
theorem recS : Tryz.prog.readableRec 22 = true:=by kernel_rfl
theorem rowS : 22 < Tryz.prog.types.size:=of_decide_eq_true (by kernel_rfl)
theorem contract (H : Type) (enc : TypeId × Value → H) (W : World) (base : Nat) (args : Array Value) (ds gs : List (DataW H)) (before : List MemPlace)
   (hval : ∀ (j : Nat) t v,Tryz.f3.params[j]? = some t → args[j]? = some v → Value.okWide Tryz.prog W .any base t v)
   (hW : DataW.Whole enc Tryz.prog Tryz.f3.params.toList Rows.chainMergesSpec.vars false W args.toList ds gs before)
   (hsz : (DataW.weightsEach Tryz.prog (Tryz.f3.params.toList ++ (OpenSpec.ofChange Rows.chainMergesSpec).bare.plain.varTypes Tryz.prog) (ds ++ gs)).all (· ≤ reachBytes) = true)
   (hsh : W.ShapedOpen Tryz.prog) :
   Calls Tryz.prog 3 args W fun e W' => ∃ v,e = .returned v ∧ Rows.chainMergesSpec.post enc Tryz.prog Tryz.f3 false true false false W args v W':=by
 have hW':=hW
 obtain ⟨p,q,hA0,hV,rfl,hfz,hnd⟩:=hW
 have hA : DataW.TrodAll enc Tryz.prog W 0 (fun _ => true) true Tryz.f3.params.toList args.toList ds p:=hA0
 rw [Tryz.params3] at hA hval hsz
 obtain ⟨v0,vs0,d0,ds0,p0,q0,hargs,rfl,rfl,h0,r0⟩:=trodAll_cons hA
 obtain ⟨v1,vs1,d1,ds1,p1,q1,rfl,rfl,rfl,h1,r1⟩:=trodAll_cons r0
 obtain ⟨rfl,rfl,rfl⟩:=trodAll_nil r1
 obtain rfl : args = #[v0,v1]:=by cases args;simp_all
 obtain ⟨rfl,rfl⟩:=trodVars_none hV
 obtain ⟨z,rfl,rfl,rfl,wz⟩:=open_int Tryz.underlying3 (hval 1 3 v1 rfl rfl) h1
 obtain ⟨sa,sl,sc,rfl⟩:=okWide_slice Tryz.underlying22 (hval 0 22 v0 rfl rfl)
 have h0':=h0
 obtain ⟨fuel,hf⟩:=h0
 obtain ⟨fuel,rfl⟩ : ∃ f,fuel = f + 1:=by
   cases fuel with
   | zero => simp [DataW.trod] at hf
   | succ f => exact ⟨f,rfl⟩
 obtain ⟨sp,n,c,vs,l,hcs,hn,hnc,hc,hR,hI,hp,hwf,hsm⟩:=open_secs hf
 obtain ⟨rfl,rfl,rfl⟩ : sa = sp ∧ sl = n ∧ sc = c:=by simpa [Value.cells] using hcs
 have hwok : WOk 22 d0:=wok_each (fun n hn => by have:=List.all_eq_true.1 hsz n hn;simpa using this) (j:=0) rfl rfl
 obtain ⟨m,hm⟩:=maxW_of hsh
 clear hA0
 simp only [List.append_nil] at hW'
 have hlt : ∀ x ∈ p0,x.block < W.heap.size:=fun x hx => hW'.lt x hx
 refine (chainMerges_in (fun b => b < W.heap.size) fuel W sa sl sc vs l z hR hI (fun b h => h) (hsm hwok) hwf hnc hc m hm).mono fun e W' ⟨he,hb⟩ => ?_
 subst he
 have hsame : ∀ x ∈ p0,W.sameAt W' x:=fun x hx => by
   cases x with
   | cell b off => exact hb.cell (p:=⟨b,off,none⟩) (hlt _ hx)
   | map b => exact hb.block b (hlt _ hx)
 exact ⟨_,rfl,post_below (pa:=p0 ++ ([] ++ [])) (pv:=[]) hW' (fun _ _ _ => trodAll_cons_mk (shut_bool Tryz.underlying4 _) trodAll_mk0)
   (fun sp hsp => trodAll_cons_mk (Go.WideElems.Trod_stays laidP recS rowS h0' hsame (fun x hx => hsp x hx)) (trodAll_cons_mk (shut_int Tryz.underlying3 wz) trodAll_mk0)) (fun _ _ => rfl) (by simp)
   hb (ok_one (by kernel_rfl) rfl (okWide_bool_mk Tryz.underlying4 _))⟩
theorem laid_met (os : Os) : laidMet Tryz.prog Rows.chainMergesRow.laid ((laidWorld os).forCall (fun _ _ => 0) ⟨#[],#[.slice none 0 0,.int .i64 0],[]⟩).memory :=
 laidMet_of_run' 8 (by kernel_rfl) (by kernel_rfl)
theorem reads (os : Os) {H : Type} (enc : TypeId × Value → H) : ∃ places,DataW.whole enc Tryz.prog ((laidWorld os).forCall (fun _ _ => 0) ⟨#[],#[.slice none 0 0,.int .i64 0],[]⟩).memory Tryz.f3.params.toList Rows.chainMergesSpec.vars false #[Value.slice none 0 0,Value.int .i64 0].toList 8 = some ([.nil,.lit (.int .i64 0)],[],places) :=
 ⟨[],by kernel_rfl⟩
theorem lifted (os : Os) (started : os.Started) (H : Type) (enc : TypeId × Value → H) (F : Stop.Interp) :
   ReturnsInHanded {} Tryz.checked os 3 .any ((OpenSpec.ofChange Rows.chainMergesSpec).preRow enc Tryz.prog Tryz.f3 Rows.chainMergesRow.domain false Rows.chainMergesRow.laid) (((OpenSpec.ofChange Rows.chainMergesSpec).at F).post enc Tryz.prog Tryz.f3 false true false false):=by
 obtain ⟨places,hx⟩:=reads os enc
 refine returnsInHanded_of_row (C:=Tryz.checked) (s:=OpenSpec.ofChange Rows.chainMergesSpec) ownK started (by kernel_rfl) Tryz.func3
   (witness_row_atRef (enc:=enc) (C:=Tryz.checked) false (laidWorld os) #[.slice none 0 0,.int .i64 0] rfl (by kernel_rfl) (by kernel_rfl) (by kernel_rfl)
     (OpenSpec.preRow_of_cond 8 hx (by kernel_rfl) (fun k hk => by cases hk) (by kernel_rfl) (laid_met os))) ?_
 intro W base args ds gs before hval hW _ _ hsz hL hsh _
 exact contract H enc W base args ds gs before hval hW hsz hsh
theorem said : Rows.ChainMergesSaid :=
 OpenClaim.holds_of_cond 3 Tryz.f3 rfl rfl rfl rfl rfl rfl rfl ⟨rfl,rfl,rfl,rfl,rfl⟩ rfl rfl rfl rfl rfl (by kernel_rfl) Tryz.func3 closed
   (of_decide_eq_true (by kernel_rfl)) (by unfold Func.isWrapper;first | (rw [if_pos (by decide +kernel)];kernel_rfl) | (rw [if_neg (by decide +kernel)];exact ⟨rfl,rfl⟩))
   (fun os started H enc _ F => by rw [OpenClaim.pre_eq_preRow];exact lifted os started H enc F)
theorem plain (f : FuncId) (fn : Func) (hf : Tryz.pinned.checked.prog.funcNamed "foliant/foliantlaw22.ChainMerges" = some f) (hfn : Tryz.pinned.checked.prog.funcs[f]? = some fn) :
   true = Tryz.pinned.checked.prog.looks [] ∧ ∀ (j : Nat) t,fn.params[j]? = some t → Tryz.pinned.checked.prog.wantsStandIn t = false:=by
 obtain rfl : f = 3 := Option.some.inj ((show Tryz.prog.funcNamed "foliant/foliantlaw22.ChainMerges" = some 3 by kernel_rfl).symm.trans hf) |>.symm
 obtain rfl : fn = Tryz.f3:=(Option.some.inj (Tryz.func3.symm.trans hfn)).symm
 refine ⟨by kernel_rfl,fun j t ht => ?_⟩
 rw [Tryz.params3] at ht
 have ht':=Array.mem_of_getElem? ht
 simp only [List.mem_toArray,List.mem_cons,List.not_mem_nil,or_false] at ht'
 rcases ht' with rfl | rfl
 · exact (show Tryz.prog.wantsStandIn 22 = false by kernel_rfl)
 · exact (show Tryz.prog.wantsStandIn 3 = false by kernel_rfl)
theorem card : Rows.ChainMergesCardSaid :=
 Claim7.holds_tied_plain_at .later [] _ _ _ _ said (fun _ h => by cases h) (by kernel_rfl) (fun _ h => by cases h) chainMerges_row_tie rfl ⟨rfl,rfl⟩ (by kernel_rfl) rfl plain (by kernel_rfl)
#print axioms card
end Go.Proofs.YtinafodpgjbedaaGreatDoor.chainMerges
