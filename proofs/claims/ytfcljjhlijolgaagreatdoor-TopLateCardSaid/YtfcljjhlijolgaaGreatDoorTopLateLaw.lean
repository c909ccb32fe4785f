/- Proved: for all rows l of bytes, the call of the law TopLate returns true and leaves its arguments alone. Condition: none. -/
import Derived.Test.YtfcljjhlijolgaaGreatDoorTL1
import Derived.Test.YtfcljjhlijolgaaGreatDoorTL2
import Derived.Test.YtfcljjhlijolgaaGreatDoorTL3z
import Derived.Test.YtfcljjhlijolgaaGreatDoorTL4z
import Derived.Test.YtfcljjhlijolgaaGreatDoorTLo
import Derived.Test.YtfcljjhlijolgaaGreatDoorTLF
import Derived.LaidMore
import Derived.Stop.Joined
import Derived.SevenTiedAt
import Derived.Test.YtfcljjhlijolgaaGreatDoorCards
import Derived.Test.YtfcljjhlijolgaaGreatDoorTie
namespace Go.Proofs.YtfcljjhlijolgaaGreatDoor.topLate
open Go.ChangeShapes Go.WideShapes Go.ChangeAt Go.RowKit
open Go.ChangeMaps (open_string shut_string)
open Eng
set_option linter.unusedVariables false
set_option linter.unusedSimpArgs false
theorem walk (a0:oX) (W:World) (l0:a0.tC W) (n0:a0.l.length≤140737488351232):Calls Tryz.prog 4 #[a0.v] W fun e W'=>e= .returned (.bool true)∧Below W.heap.size W W':=by
 by_cases he:a0.l= []
 ·rcases tQ l0 he with h | ⟨μ,hs,hm,r⟩
  ·rw [h];exact Tf W
  ·exact Tg hs hm r
 obtain ⟨μ,hs,hm,r⟩:=wh l0 he
 have hb:=l0.1
 generalize a0.l=l at *
 match l,he,hb with
 | [x0],_,hb=>exact Tj (l:=fun _=>x0) (fun _=>hb x0 (by simp)) hs hm r
 | [x0,x1],_,hb=>exact Tk (l:=fun i=>match i with | 0=>x0 | _=>x1) (fun i=>by (try dsimp only);split <;> exact hb _ (by simp)) hs hm r
 | [x0,x1,x2],_,hb=>exact Tl (l:=fun i=>match i with | 0=>x0 | 1=>x1 | _=>x2) (fun i=>by (try dsimp only);split <;> exact hb _ (by simp)) hs hm r
 | [x0,x1,x2,x3],_,hb=>exact Tm (l:=fun i=>match i with | 0=>x0 | 1=>x1 | 2=>x2 | _=>x3) (fun i=>by (try dsimp only);split <;> exact hb _ (by simp)) hs hm r
 | x0::x1::x2::x3::x4::l,_,_=>exact Uc (by simp) hs hm r
theorem laidOut:laidOutB Tryz.prog=true:=by kernel_rfl
theorem own:ownKnob Tryz.prog.godebug=none:=by kernel_rfl
theorem door_met (os:Os) (args:Array Value):laidMetH Tryz.prog Rows.topLateRow.laid ((World.doorLaid Tryz.prog 400 os).forCall (fun _ _=>0) ⟨#[],args,[]⟩).memory:=
 laidMetH_of_parts3 (fuel:=8) (laidMet_of_run' 8 (by kernel_rfl) (by kernel_rfl)) (by kernel_rfl) (by kernel_rfl)
set_option maxRecDepth 100000 in
set_option maxHeartbeats 1000000 in
theorem lifted (os:Os) (started:os.Started) (H:Type) (enc:TypeId×Value→H):
  ReturnsInHanded {} Tryz.checked os 4 .any (fun w args=>(Rows.topLateSpec.pre enc Tryz.prog Tryz.f4 [] false w args∧laidMetH Tryz.prog Rows.topLateRow.laid w)∧sizedMet enc Tryz.prog Tryz.f4 (OpenSpec.ofChange Rows.topLateSpec) false w args)
   (Rows.topLateSpec.post enc Tryz.prog Tryz.f4 false true false false):=by
 refine returnsInHanded_of_change_and (C:=Tryz.checked) (X:=fun w _=>laidMetH Tryz.prog Rows.topLateRow.laid w) (fun _ _ _ hh h=>h.of_heap hh) own started (by kernel_rfl) Tryz.func4
  (ChangeSpec.witness_shaped (enc:=enc) (C:=Tryz.checked) (os:=os) (X:=fun w _=>laidMetH Tryz.prog Rows.topLateRow.laid w) false (World.doorLaid Tryz.prog 400 os) #[.slice none 0 0] 8 rfl (World.shaped_of_RefB (by kernel_rfl) (by kernel_rfl)) (by kernel_rfl) (by kernel_rfl) (by kernel_rfl) (door_met os _)) ?_
 intro W base args ds gs before hval0 hW _ hsz0 _ _
 have hval: ∀(j:Nat) t v,Tryz.f4.params[j]? =some t→args[j]? =some v→Value.okWide Tryz.prog W .any base t v:=hval0
 have hW':=hW
 obtain ⟨p,q,hA0,hV,rfl,hfz,hnd⟩:=hW
 have hA:DataW.TrodAll enc Tryz.prog W 0 (fun _=>true) true Tryz.f4.params.toList args.toList ds p:=hA0
 rw [Tryz.params4] at hA hval
 obtain ⟨rfl,rfl⟩:=trodVars_none hV
 simp only [List.append_nil] at hW'
 obtain ⟨v0,vs0,d0,ds0,p0,q0,hargs,rfl,rfl,h0,r0⟩:=trodAll_cons hA
 obtain ⟨rfl,rfl,rfl⟩:=trodAll_nil r0
 obtain rfl:args= #[v0] :=by cases args;simp_all
 have hlt: ∀x ∈ p0,x.block < W.heap.size:=fun x hx=>by simpa using hW'.lt x (by simpa using hx)
 have hwt: ∀(j:Nat) t d,(Tryz.f4.params.toList)[j]? =some t→([d0])[j]? =some d→∀n ∈ d.weights Tryz.prog t,n≤reachBytes:=fun j t d e1 e2 n hn=>by
  have:=List.all_eq_true.1 hsz0 _ (DataW.weights_mem_each (P:=Tryz.prog) (ts:=Tryz.f4.params.toList++_) (j:=j) (t:=t) (d:=d) (by rw [List.getElem?_append_left (List.getElem?_eq_some_iff.1 e1).1];exact e1) (by rw [List.getElem?_append_left (List.getElem?_eq_some_iff.1 e2).1];exact e2) n hn)
  simpa using this
 obtain ⟨a0,rfl,l0,n0⟩:=tE Tryz.underlying27 Tryz.underlying5 (by kernel_rfl) (by kernel_rfl) (hwt 0 _ _ (by kernel_rfl) rfl) h0 (hval 0 27 _ rfl rfl)
 refine (walk a0 W l0 n0).mono fun e W' ⟨he,bel⟩=>?_
 subst he
 have t0:=Below.trod laidOut (by kernel_rfl) (of_decide_eq_true (by kernel_rfl)) h0 bel (fun x hx=>hlt x (by simp [hx]))
 exact ⟨_,rfl,_,_,_,[],_,[],hW',trodAll_mk1 (shut_bool Tryz.underlying4 _),(trodAll_cons_mk t0 trodAll_mk0),rfl,bel.frame _,fun h=>by cases h⟩
theorem gfn:Tryz.pinned.checked.prog.funcNamed Rows.topLateRow.func=some 4:=by kernel_rfl
theorem ginst:Tryz.f4.isInstance Tryz.pinned.checked.prog Rows.topLateRow.origin Rows.topLateRow.targs:=of_decide_eq_true (by kernel_rfl)
theorem gwrap:Tryz.f4.isWrapper Tryz.pinned.checked.prog Rows.topLateRow.wrapper Rows.topLateRow.mainSum:=by unfold Func.isWrapper;first | (rw [if_pos (by decide+kernel)];kernel_rfl) | (rw [if_neg (by decide+kernel)];exact ⟨rfl,rfl⟩)
theorem over:Rows.topLateRow.holds Tryz.pinned (OpenSpec.ofChange Rows.topLateSpec):=
 OpenClaim.holds_of_wide 4 Tryz.f4 rfl rfl rfl rfl rfl rfl rfl ⟨rfl,rfl,rfl,rfl,rfl⟩ rfl rfl rfl rfl rfl gfn Tryz.func4 closed ginst gwrap
  (fun os started H enc _=>lifted os started H enc)
theorem gwf:Rows.topLateRow.wfByText (OpenSpec.ofChange Rows.topLateSpec)=true:=by kernel_rfl
theorem gmain:Tryz.pinned.checked.prog.mainIs=some ((true, "34fa7890942a5859727b2863b86f0dc625530302953ce95b5905c61d30cd137f").1,(true, "34fa7890942a5859727b2863b86f0dc625530302953ce95b5905c61d30cd137f").2.toList):=by kernel_rfl
theorem glooks:false=Tryz.pinned.checked.prog.looks [] :=by kernel_rfl
theorem gstand:([27].all fun u=>!Tryz.pinned.checked.prog.wantsStandIn u)=true:=by kernel_rfl
theorem gall:Tryz.pinned.checked.prog.funcs.any Func.goes=false:=by kernel_rfl
theorem ggoes:false=Rows.topLateRow.goesBy Tryz.pinned.checked.prog:=C_ rfl gfn gall
theorem proved:Rows.TopLateCardSaid:=
 Claim7.holds_tied_plain_at .later [] [.data, .data] true (true, "34fa7890942a5859727b2863b86f0dc625530302953ce95b5905c61d30cd137f") false over (fun _ h=>by cases h) gwf (fun _ h=>by cases h) topLate_row_tie rfl ⟨rfl,rfl⟩ gmain rfl
  (fun f fn hf hfn=>by
   obtain rfl:f=4:=Option.some.inj (gfn.symm.trans hf) |>.symm
   obtain rfl:fn=Tryz.f4:=(Option.some.inj (Tryz.func4.symm.trans hfn)).symm
   exact ⟨glooks,fun j t ht=>by
    rw [Tryz.params4] at ht
    have hm:t ∈ [27] :=by simpa using Array.mem_of_getElem? ht
    exact (show Tryz.pinned.checked.prog.wantsStandIn t=false by simpa using List.all_eq_true.1 gstand t hm)⟩)
  ggoes
end Go.Proofs.YtfcljjhlijolgaaGreatDoor.topLate
