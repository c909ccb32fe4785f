/- Proved: for all rows who of bools and fuel of bytes, the call of the law ServerQueue returns true and leaves its arguments alone. Condition: none. -/
import Derived.Test.YtfcljjhlijolgaaGreatDoorSQy
import Derived.Test.YtfcljjhlijolgaaGreatDoorSQo
import Derived.Test.YtfcljjhlijolgaaGreatDoorSQF
import Derived.LaidMore
import Derived.Stop.Joined
import Derived.SevenTiedAt
import Derived.Test.YtfcljjhlijolgaaGreatDoorCards
import Derived.Test.YtfcljjhlijolgaaGreatDoorTie
namespace Go.Proofs.YtfcljjhlijolgaaGreatDoor.serverQueue
open Go.ChangeShapes Go.WideShapes Go.ChangeAt Go.RowKit
open Go.ChangeMaps (open_string shut_string)
open Eng
set_option linter.unusedVariables false
set_option linter.unusedSimpArgs false
theorem walk (a:sk) (bs:List Bool) (b:ql) (W:World) (l0:a.mY W) (e0:a.l=bs.map .bool) (l1:b.mY W):Calls Tryz.prog 6 #[a.v,b.v] W fun e W'=>e= .returned (.bool true)∧Below W.heap.size W W':=by
 obtain ⟨μ,oa,ob,vw,vf,hs,hm,r0,r1,f0,f1⟩:=u4 l0 (ql.cells l1) (A:=bs.map .bool) (B:=kr b.l) (by rw [e0];exact lI bs) (lJ b.l)
 have h0:aq (.lenL (.const vw)) .lf H0= .ok (vi bs.length):=by have:=f0.len;rwa [List.length_map] at this
 have h1:aq (.lenL (.const vf)) .lf H0= .ok (vi b.l.length):=by have:=f1.len;rwa [eQ,List.length_map] at this
 have fin:(∃h',kZ MM (ae Tryz.prog (ab Tryz.prog)) 100000 27 6 [vw,vf] (hO oa ob)= .ok (.bool true) h')→Calls Tryz.prog 6 #[a.v,b.v] W fun e W'=>e= .returned (.bool true)∧Below W.heap.size W W':=fun ⟨h',e⟩=>
  uH bT K6 hs hm (args:=[vw,vf]) (by rw [aH];refine ⟨_,_,rfl,r0,?_⟩;rw [aH];exact ⟨_,_,rfl,r1,by rw [aF]⟩) e
 rcases Nat.lt_or_ge 4 bs.length with h4 | h4
 ·exact fin (Vk (W:=⟨vw,vf,oa,ob⟩) (L:=0) h0 h4)
 rcases Nat.lt_or_ge 40 b.l.length with h40 | h40
 ·exact fin (Vl (W:=⟨vw,vf,oa,ob⟩) h0 h4 h1 h40)
 exact Ty (W:=⟨vw,vf,oa,ob⟩) (bs:=bs) (F:=b.l) hm hs ⟨f0,f1,h4,h40,l1.1⟩ r0 r1
theorem laidOut:laidOutB Tryz.prog=true:=by kernel_rfl
theorem own:ownKnob Tryz.prog.godebug=none:=by kernel_rfl
theorem door_met (os:Os) (args:Array Value):laidMetH Tryz.prog Rows.serverQueueRow.laid ((World.doorLaid Tryz.prog 400 os).forCall (fun _ _=>0) ⟨#[],args,[]⟩).memory:=
 laidMetH_of_parts3 (fuel:=8) (laidMet_of_run' 8 (by kernel_rfl) (by kernel_rfl)) (by kernel_rfl) (by kernel_rfl)
set_option maxRecDepth 100000 in
set_option maxHeartbeats 1000000 in
theorem lifted (os:Os) (started:os.Started) (H:Type) (enc:TypeId×Value→H):
  ReturnsInHanded {} Tryz.checked os 6 .any (fun w args=>(Rows.serverQueueSpec.pre enc Tryz.prog Tryz.f6 [] false w args∧laidMetH Tryz.prog Rows.serverQueueRow.laid w)∧sizedMet enc Tryz.prog Tryz.f6 (OpenSpec.ofChange Rows.serverQueueSpec) false w args)
   (Rows.serverQueueSpec.post enc Tryz.prog Tryz.f6 false true false false):=by
 refine returnsInHanded_of_change_and (C:=Tryz.checked) (X:=fun w _=>laidMetH Tryz.prog Rows.serverQueueRow.laid w) (fun _ _ _ hh h=>h.of_heap hh) own started (by kernel_rfl) Tryz.func6
  (ChangeSpec.witness_shaped (enc:=enc) (C:=Tryz.checked) (os:=os) (X:=fun w _=>laidMetH Tryz.prog Rows.serverQueueRow.laid w) false (World.doorLaid Tryz.prog 400 os) #[.slice none 0 0, .slice none 0 0] 8 rfl (World.shaped_of_RefB (by kernel_rfl) (by kernel_rfl)) (by kernel_rfl) (by kernel_rfl) (by kernel_rfl) (door_met os _)) ?_
 intro W base args ds gs before hval0 hW _ hsz0 _ _
 have hval: ∀(j:Nat) t v,Tryz.f6.params[j]? =some t→args[j]? =some v→Value.okWide Tryz.prog W .any base t v:=hval0
 have hW':=hW
 obtain ⟨p,q,hA0,hV,rfl,hfz,hnd⟩:=hW
 have hA:DataW.TrodAll enc Tryz.prog W 0 (fun _=>true) true Tryz.f6.params.toList args.toList ds p:=hA0
 rw [Tryz.params6] at hA hval
 obtain ⟨rfl,rfl⟩:=trodVars_none hV
 simp only [List.append_nil] at hW'
 obtain ⟨v0,vs0,d0,ds0,p0,q0,hargs,rfl,rfl,h0,r0⟩:=trodAll_cons hA
 obtain ⟨v1,vs1,d1,ds1,p1,q1,rfl,rfl,rfl,h1,r1⟩:=trodAll_cons r0
 obtain ⟨rfl,rfl,rfl⟩:=trodAll_nil r1
 obtain rfl:args= #[v0,v1] :=by cases args;simp_all
 have hlt: ∀x ∈ p0++p1,x.block < W.heap.size:=fun x hx=>by simpa using hW'.lt x (by simpa using hx)
 have hwt: ∀(j:Nat) t d,(Tryz.f6.params.toList)[j]? =some t→([d0,d1])[j]? =some d→∀n ∈ d.weights Tryz.prog t,n≤reachBytes:=fun j t d e1 e2 n hn=>by
  have:=List.all_eq_true.1 hsz0 _ (DataW.weights_mem_each (P:=Tryz.prog) (ts:=Tryz.f6.params.toList++_) (j:=j) (t:=t) (d:=d) (by rw [List.getElem?_append_left (List.getElem?_eq_some_iff.1 e1).1];exact e1) (by rw [List.getElem?_append_left (List.getElem?_eq_some_iff.1 e2).1];exact e2) n hn)
  simpa using this
 obtain ⟨a0,bs,rfl,l0,e0⟩:=u5 Tryz.underlying60 Tryz.underlying4 (by kernel_rfl) h0 (hval 0 60 _ rfl rfl)
 obtain ⟨a1,rfl,l1,n1⟩:=rW Tryz.underlying27 Tryz.underlying5 (by kernel_rfl) (by kernel_rfl) (hwt 1 _ _ (by kernel_rfl) rfl) h1 (hval 1 27 _ rfl rfl)
 refine (walk a0 bs a1 W l0 e0 l1).mono fun e W' ⟨he,bel⟩=>?_
 subst he
 have t0:=Below.trod laidOut (by kernel_rfl) (of_decide_eq_true (by kernel_rfl)) h0 bel (fun x hx=>hlt x (by simp [hx]))
 have t1:=Below.trod laidOut (by kernel_rfl) (of_decide_eq_true (by kernel_rfl)) h1 bel (fun x hx=>hlt x (by simp [hx]))
 exact ⟨_,rfl,_,_,_,[],_,[],hW',trodAll_mk1 (shut_bool Tryz.underlying4 _),(trodAll_cons_mk t0 (trodAll_cons_mk t1 trodAll_mk0)),rfl,bel.frame _,fun h=>by cases h⟩
theorem gfn:Tryz.pinned.checked.prog.funcNamed Rows.serverQueueRow.func=some 6:=by kernel_rfl
theorem ginst:Tryz.f6.isInstance Tryz.pinned.checked.prog Rows.serverQueueRow.origin Rows.serverQueueRow.targs:=of_decide_eq_true (by kernel_rfl)
theorem gwrap:Tryz.f6.isWrapper Tryz.pinned.checked.prog Rows.serverQueueRow.wrapper Rows.serverQueueRow.mainSum:=by unfold Func.isWrapper;first | (rw [if_pos (by decide+kernel)];kernel_rfl) | (rw [if_neg (by decide+kernel)];exact ⟨rfl,rfl⟩)
theorem over:Rows.serverQueueRow.holds Tryz.pinned (OpenSpec.ofChange Rows.serverQueueSpec):=
 OpenClaim.holds_of_wide 6 Tryz.f6 rfl rfl rfl rfl rfl rfl rfl ⟨rfl,rfl,rfl,rfl,rfl⟩ rfl rfl rfl rfl rfl gfn Tryz.func6 closed ginst gwrap
  (fun os started H enc _=>lifted os started H enc)
theorem gwf:Rows.serverQueueRow.wfByText (OpenSpec.ofChange Rows.serverQueueSpec)=true:=by kernel_rfl
theorem gmain:Tryz.pinned.checked.prog.mainIs=some ((true, "34fa7890942a5859727b2863b86f0dc625530302953ce95b5905c61d30cd137f").1,(true, "34fa7890942a5859727b2863b86f0dc625530302953ce95b5905c61d30cd137f").2.toList):=by kernel_rfl
theorem glooks:false=Tryz.pinned.checked.prog.looks [] :=by kernel_rfl
theorem gstand:([60,27].all fun u=>!Tryz.pinned.checked.prog.wantsStandIn u)=true:=by kernel_rfl
theorem gall:Tryz.pinned.checked.prog.funcs.any Func.goes=false:=by kernel_rfl
theorem ggoes:false=Rows.serverQueueRow.goesBy Tryz.pinned.checked.prog:=G2 rfl gfn gall
theorem proved:Rows.ServerQueueCardSaid:=
 Claim7.holds_tied_plain_at .later [] [.data, .data] true (true, "34fa7890942a5859727b2863b86f0dc625530302953ce95b5905c61d30cd137f") false over (fun _ h=>by cases h) gwf (fun _ h=>by cases h) serverQueue_row_tie rfl ⟨rfl,rfl⟩ gmain rfl
  (fun f fn hf hfn=>by
   obtain rfl:f=6:=Option.some.inj (gfn.symm.trans hf) |>.symm
   obtain rfl:fn=Tryz.f6:=(Option.some.inj (Tryz.func6.symm.trans hfn)).symm
   exact ⟨glooks,fun j t ht=>by
    rw [Tryz.params6] at ht
    have hm:t ∈ [60,27] :=by simpa using Array.mem_of_getElem? ht
    exact (show Tryz.pinned.checked.prog.wantsStandIn t=false by simpa using List.all_eq_true.1 gstand t hm)⟩)
  ggoes
end Go.Proofs.YtfcljjhlijolgaaGreatDoor.serverQueue
