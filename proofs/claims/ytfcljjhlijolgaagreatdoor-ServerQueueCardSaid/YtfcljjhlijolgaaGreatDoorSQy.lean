import Derived.Test.YtfcljjhlijolgaaGreatDoorSQz
namespace Go.Proofs.YtfcljjhlijolgaaGreatDoor.serverQueue
open Go.ChangeShapes Go.WideShapes Go.ChangeAt Go.RowKit
open Go.ChangeMaps (open_string shut_string)
open Eng
set_option linter.unusedVariables false
set_option linter.unusedSimpArgs false
theorem uc {B:Bt} {m re:Nat} {D:List (Nat×KB)} {N:Nat} (hk:Hk B m re D N):a9 (fun (p:Nat×aY)=>Nat.ble 2 p.1) (iO D)=true:=by cases hk <;> kernel_rfl
theorem N7:a9 (fun (p:Nat×aY)=>Nat.ble 2 p.1) (iO LB)=true:=by kernel_rfl
theorem lk {D:List (Nat×aY)} (h:a9 (fun (p:Nat×aY)=>Nat.ble 2 p.1) D=true): ∀p ∈ D,2≤p.1:=fun p hp=>sh (aT.1 h p hp)
theorem Hm {W:Wd} {D:List (Nat×KB)} (h:a9 (fun (p:Nat×aY)=>Nat.ble 2 p.1) (iO D)=true):Shape W.oa W.ob (nZ (iO D) (TR W)):=((Shape.FW W.oa W.ob).over (lk N7)).over (lk h)
def FX (X:Mp×Hp×World) (W:Wd) (bs:List Bool) (i:Nat):ST:=fun a w=> ∃re D N,Hk (bt bs) bs.length re D N∧re≤12∧(40≤i→re+i≤60)∧ad X W (f9 i) D N a w
section
variable {X:Mp×Hp×World} {W:Wd} {bs:List Bool} {F:List Nat} {B:Bt} {D:List (Nat×KB)} {N m re i n:Nat} {Q:QT}
theorem gk (ok:Ok X W) (hk:Hk B m re D N) (hn:n≤6):Do ao (ad X W (f2 i n) D N) (Exit.then (Nx X W B m i n re) Q):=by
 cases hk with
 | k0_0_0 n0 v h a b=>exact MZ ok h a b hn
 | k0_1_0 n0 v h a b=>exact M0 ok h a b hn
 | k0_1_1 n0 v h a b=>exact M1 ok h a b hn
 | k0_1_2 n0 v h a b=>exact M3 ok h a b hn
 | k0_1_3 n0 v h a b=>exact M4 ok h a b hn
 | k0_1_4 n0 v h a b=>exact M5 ok h a b hn
 | k0_1_5 n0 v h a b=>exact M6 ok h a b hn
 | k0_2_0 n0 v h a b=>exact M7 ok h a b hn
 | k0_2_1 n0 v h a b=>exact M8 ok h a b hn
 | k0_2_2 n0 v h a b=>exact M9 ok h a b hn
 | k0_2_3 n0 v h a b=>exact M_ ok h a b hn
 | k0_2_4 n0 v h a b=>exact Na ok h a b hn
 | k0_2_5 n0 v h a b=>exact Nb ok h a b hn
 | k0_3_0 n0 v h a b=>exact Nd ok h a b hn
 | k0_3_1 n0 v h a b=>exact Nf ok h a b hn
 | k0_3_2 n0 v h a b=>exact Ng ok h a b hn
 | k0_3_3 n0 v h a b=>exact Nh ok h a b hn
 | k0_3_4 n0 v h a b=>exact Ni ok h a b hn
 | k0_3_5 n0 v h a b=>exact Nj ok h a b hn
 | k0_4_0 n0 v h a b=>exact Nk ok h a b hn
 | k0_4_1 n0 v h a b=>exact Nl ok h a b hn
 | k0_4_2 n0 v h a b=>exact Nm ok h a b hn
 | k0_4_3 n0 v h a b=>exact Nn ok h a b hn
 | k0_4_4 n0 v h a b=>exact No ok h a b hn
 | k0_4_5 n0 v h a b=>exact Np ok h a b hn
 | k1_0_0 n0 v h a b=>exact Nq ok h a b hn
 | k1_1_0 n0 v h a b=>exact Nr ok h a b hn
 | k1_1_1 n0 v h a b=>exact Ns ok h a b hn
 | k1_1_2 n0 v h a b=>exact Nt ok h a b hn
 | k1_1_3 n0 v h a b=>exact Nu ok h a b hn
 | k1_1_4 n0 v h a b=>exact Nv ok h a b hn
 | k1_1_5 n0 v h a b=>exact Nw ok h a b hn
 | k1_2_0 n0 v h a b=>exact Ny ok h a b hn
 | k1_2_1 n0 v h a b=>exact Nz ok h a b hn
 | k1_2_2 n0 v h a b=>exact NA ok h a b hn
 | k1_2_3 n0 v h a b=>exact NB ok h a b hn
 | k1_2_4 n0 v h a b=>exact NC ok h a b hn
 | k1_2_5 n0 v h a b=>exact ND ok h a b hn
 | k1_3_0 n0 v h a b=>exact NF ok h a b hn
 | k1_3_1 n0 v h a b=>exact NG ok h a b hn
 | k1_3_2 n0 v h a b=>exact NH ok h a b hn
 | k1_3_3 n0 v h a b=>exact NI ok h a b hn
 | k1_3_4 n0 v h a b=>exact NJ ok h a b hn
 | k1_3_5 n0 v h a b=>exact NK ok h a b hn
 | k2_0_0 n0 v h a b=>exact NL ok h a b hn
 | k2_1_0 n0 v h a b=>exact NM ok h a b hn
 | k2_1_1 n0 v h a b=>exact NN ok h a b hn
 | k2_1_2 n0 v h a b=>exact NP ok h a b hn
 | k2_1_3 n0 v h a b=>exact NQ ok h a b hn
 | k2_1_4 n0 v h a b=>exact NR ok h a b hn
 | k2_1_5 n0 v h a b=>exact NS ok h a b hn
 | k2_2_0 n0 v h a b=>exact NT ok h a b hn
 | k2_2_1 n0 v h a b=>exact NU ok h a b hn
 | k2_2_2 n0 v h a b=>exact NV ok h a b hn
 | k2_2_3 n0 v h a b=>exact NW ok h a b hn
 | k2_2_4 n0 v h a b=>exact NX ok h a b hn
 | k2_2_5 n0 v h a b=>exact NY ok h a b hn
 | k3_0_0 n0 v h a b=>exact NZ ok h a b hn
 | k3_1_0 n0 v h a b=>exact N0 ok h a b hn
 | k3_1_1 n0 v h a b=>exact N1 ok h a b hn
 | k3_1_2 n0 v h a b=>exact N2 ok h a b hn
 | k3_1_3 n0 v h a b=>exact N3 ok h a b hn
 | k3_1_4 n0 v h a b=>exact N4 ok h a b hn
 | k3_1_5 n0 v h a b=>exact N5 ok h a b hn
 | k4_0_0 n0 v h a b=>exact N6 ok h a b hn
theorem Wo (I:pJ W bs F) (hk:Hk B m re D N):Do Th (ad X W (f2 i 2) D N) (Exit.then (fun a w=> ∃n,n≤6∧(40≤i→n=2)∧ad X W (f2 i n) D N a w) Q):=by
 rcases Nat.lt_or_ge i F.length with hi | hi
 ·obtain ⟨z,hz,hc⟩:=cf hi
  have hF:=I.L
  obtain ⟨l,r,r2,e⟩:=Hm (W:=W) (uc hk)
  have hb:=I.of hi
  rw [hb] at e
  refine aa (R:=ad X W (f2 i (z % 7)) D N) (df (M:=100000) (fr:=bI W.ks (f2 i 2)) (fr':=bI W.ks (f2 i (z % 7))) aQ fun g=>?_) fun a w s=>⟨z % 7,by omega,by omega,s⟩
  rw [e]
  exact Tp (I.z z hz) I.lf hi (I.jf hi) hc g
 ·exact aa (R:=ad X W (f2 i 2) D N) (df (fr:=bI W.ks (f2 i 2)) (fr':=bI W.ks (f2 i 2)) aQ fun g=>MO I.lf hi g) fun a w s=>⟨2,by omega,fun _=>rfl,s⟩
theorem N8 (ok:Ok X W) (I:pJ W bs F) (hk:Hk B m re D N):Do (.seq Vf (.seq Th ao)) (ad X W (f9 i) D N) (Exit.then (fun a w=> ∃n,n≤6∧(40≤i→n=2)∧Nx X W B m i n re a w) Q):=
 cB (R:=ad X W (f2 i 2) D N) (df (fr:=bI W.ks (f9 i)) (fr':=bI W.ks (f2 i 2)) aQ fun g=>Wh g) (cB (Wo I hk) fun x hx a w ⟨n,h1,h2,s⟩=>aa (gk ok hk h1) (fun a w q=>⟨n,h1,h2,q⟩) x hx a w s)
theorem go2 (ok:Ok X W) (I:pJ W bs F) (hi:i < 60):Do TI (FX X W bs i) (Exit.then (FX X W bs (i+1)) Q):=fun x hx a w ⟨re,D,N,hk,h1,h2,s⟩=>
 cB (R:=ad X W (f9 i) D N) (df (fr:=bI W.ks (f9 i)) (fr':=bI W.ks (f9 i)) aQ fun g=>MN hi g) (cB (iC (jl (N8 ok I hk) (fun _ _ h=>h) tZ))
  (fun x hx a w ⟨n,k1,k2,re',D',N',hk',k3,k4,s⟩=>aa (R:=ad X W (f9 (i+1)) D' N') (df (fr:=bI W.ks (f9 i)) (fr':=bI W.ks (f9 (i+1))) aQ fun g=>Wi (by omega) g)
   (fun a w s=>⟨re',D',N',hk',k3,fun h40=>(by
    rcases Nat.lt_or_ge i 40 with hl | hl
    ·omega
    ·have:=k4 (k2 hl);have:=h2 hl;omega),s⟩) x hx a w s)) x hx a w s
theorem N9 {R':ST}:Do TI (FX X W bs 60) (Exit.then R' (Exit.inBlock 2 (Exit.then (FX X W bs 60) Q))):=fun x hx a w ⟨re,D,N,hk,h1,h2,s⟩=>
 cB (R:=fun _ _=>False) (nf (fr:=bI W.ks (f9 60)) (fr':=bI W.ks (f9 60)) aQ (fun g=>G5 g) (fun a w s=>qT (i:=2) (R:=FX X W bs 60) ⟨re,D,N,hk,h1,h2,s⟩)) (fun _ _ _ _ h=>h.elim) x hx a w s
theorem Wp (ok:Ok X W) (I:pJ W bs F):Do (.block 2 (.loop TI)) (FX X W bs 0) (Exit.then (FX X W bs 60) Q):=
 iC (n9 (m:=61) (fun k a w=> ∃i,i≤60∧i+k=61∧FX X W bs i a w) (fun a w ⟨i,h1,h2,_⟩=>by omega)
  (fun k x hx a w ⟨i,h1,h2,hd⟩=>by
   rcases Nat.lt_or_ge i 60 with h | h
   ·exact aa (go2 ok I h) (fun a w q=>⟨i+1,by omega,by omega,q⟩) x hx a w hd
   ·obtain rfl:i=60:=by omega
    exact N9 x hx a w hd)
  fun a w h=>⟨0,by omega,by omega,h⟩)
theorem Tw (I:pJ W bs F):Do A9 (FU X W (bt bs) bs.length) (Exit.then (FX X W bs 0) Q):=fun x hx a w ⟨v,D,N,⟨e0,e1,_,_⟩,hq,g,s⟩=>by
 have hm:=I.m
 have s:ad X W f5 D N a w:=⟨iR [(6,vi bs.length)] g,s⟩
 have hk: ∃re,Hk (bt bs) bs.length re D N∧re≤12:=by
  generalize bs.length=m at hq hm
  cases hq with
  | r0=>exact ⟨_, .k0_0_0 0 v (Nat.le_refl _) e0 e1,by decide⟩
  | r1=>exact ⟨_, .k0_1_0 0 v (Nat.le_refl _) e0 e1,by decide⟩
  | r2=>exact ⟨_, .k0_2_0 0 v (Nat.le_refl _) e0 e1,by decide⟩
  | r3=>exact ⟨_, .k0_3_0 0 v (Nat.le_refl _) e0 e1,by decide⟩
  | r4=>exact ⟨_, .k0_4_0 0 v (Nat.le_refl _) e0 e1,by decide⟩
 obtain ⟨re,hk,h12⟩:=hk
 exact aa (R:=ad X W (f9 0) D N) (df (fr:=bI W.ks f5) (fr':=bI W.ks (f9 0)) aQ fun g=>r9 g) (fun a w s=>⟨re,D,N,hk,h12,fun h=>by omega,s⟩) x hx a w s
theorem Hn (I:pJ W bs F) (hk:Hk (bt bs) bs.length re D N) (h0:re=0):Do bJ (ad X W (f9 60) D N) (dg X.1 X.2.1 X.2.2 148 4):=by
 obtain ⟨m,hm⟩: ∃m,bs.length=m:=⟨_,rfl⟩
 rw [hm] at hk
 cases hk <;> first | (exfalso;omega) | skip
 ·obtain rfl:bs= [] :=List.eq_nil_of_length_eq_zero hm
  exact Wl (B:=bt []) I.lw
 ·obtain ⟨b0,rfl⟩: ∃b0,bs= [b0] :=by
   match bs,hm with
   | [b0],_=>exact ⟨b0,rfl⟩
  obtain ⟨vw,vf,oa,ob⟩:=W
  obtain rfl:oa=_:=I.ow (i:=0) (Nat.zero_lt_succ _)
  have hl:=I.lw
  have hi: ∀i,i < 1→aq (.idxAddrSl 1 (.const vw) (.const (vi i))) .lf H0= .ok (.ptr 0 i):=fun i h=>I.iw h
  cases b0
  ·exact Vi (B:=bt [false]) hl hi rfl
  ·exact Vj (B:=bt [true]) hl hi rfl
 ·obtain ⟨b0,b1,rfl⟩: ∃b0 b1,bs= [b0,b1] :=by
   match bs,hm with
   | [b0,b1],_=>exact ⟨b0,b1,rfl⟩
  obtain ⟨vw,vf,oa,ob⟩:=W
  obtain rfl:oa=_:=I.ow (i:=0) (Nat.zero_lt_succ _)
  have hl:=I.lw
  have hi: ∀i,i < 2→aq (.idxAddrSl 1 (.const vw) (.const (vi i))) .lf H0= .ok (.ptr 0 i):=fun i h=>I.iw h
  cases b0 <;> cases b1
  ·exact Ts (B:=bt [false,false]) hl hi rfl rfl
  ·exact Tt (B:=bt [false,true]) hl hi rfl rfl
  ·exact Tu (B:=bt [true,false]) hl hi rfl rfl
  ·exact Tv (B:=bt [true,true]) hl hi rfl rfl
 ·obtain ⟨b0,b1,b2,rfl⟩: ∃b0 b1 b2,bs= [b0,b1,b2] :=by
   match bs,hm with
   | [b0,b1,b2],_=>exact ⟨b0,b1,b2,rfl⟩
  obtain ⟨vw,vf,oa,ob⟩:=W
  obtain rfl:oa=_:=I.ow (i:=0) (Nat.zero_lt_succ _)
  have hl:=I.lw
  have hi: ∀i,i < 3→aq (.idxAddrSl 1 (.const vw) (.const (vi i))) .lf H0= .ok (.ptr 0 i):=fun i h=>I.iw h
  cases b0 <;> cases b1 <;> cases b2
  ·exact MP (B:=bt [false,false,false]) hl hi rfl rfl rfl
  ·exact MQ (B:=bt [false,false,true]) hl hi rfl rfl rfl
  ·exact MR (B:=bt [false,true,false]) hl hi rfl rfl rfl
  ·exact MS (B:=bt [false,true,true]) hl hi rfl rfl rfl
  ·exact MT (B:=bt [true,false,false]) hl hi rfl rfl rfl
  ·exact MU (B:=bt [true,false,true]) hl hi rfl rfl rfl
  ·exact MV (B:=bt [true,true,false]) hl hi rfl rfl rfl
  ·exact MX (B:=bt [true,true,true]) hl hi rfl rfl rfl
 ·obtain ⟨b0,b1,b2,b3,rfl⟩: ∃b0 b1 b2 b3,bs= [b0,b1,b2,b3] :=by
   match bs,hm with
   | [b0,b1,b2,b3],_=>exact ⟨b0,b1,b2,b3,rfl⟩
  obtain ⟨vw,vf,oa,ob⟩:=W
  obtain rfl:oa=_:=I.ow (i:=0) (Nat.zero_lt_succ _)
  have hl:=I.lw
  have hi: ∀i,i < 4→aq (.idxAddrSl 1 (.const vw) (.const (vi i))) .lf H0= .ok (.ptr 0 i):=fun i h=>I.iw h
  cases b0 <;> cases b1 <;> cases b2 <;> cases b3
  ·exact G6 (B:=bt [false,false,false,false]) hl hi rfl rfl rfl rfl
  ·exact G7 (B:=bt [false,false,false,true]) hl hi rfl rfl rfl rfl
  ·exact G8 (B:=bt [false,false,true,false]) hl hi rfl rfl rfl rfl
  ·exact G9 (B:=bt [false,false,true,true]) hl hi rfl rfl rfl rfl
  ·exact G_ (B:=bt [false,true,false,false]) hl hi rfl rfl rfl rfl
  ·exact Ha (B:=bt [false,true,false,true]) hl hi rfl rfl rfl rfl
  ·exact Hb (B:=bt [false,true,true,false]) hl hi rfl rfl rfl rfl
  ·exact Hc (B:=bt [false,true,true,true]) hl hi rfl rfl rfl rfl
  ·exact Hd (B:=bt [true,false,false,false]) hl hi rfl rfl rfl rfl
  ·exact He (B:=bt [true,false,false,true]) hl hi rfl rfl rfl rfl
  ·exact Hf (B:=bt [true,false,true,false]) hl hi rfl rfl rfl rfl
  ·exact Hg (B:=bt [true,false,true,true]) hl hi rfl rfl rfl rfl
  ·exact Hh (B:=bt [true,true,false,false]) hl hi rfl rfl rfl rfl
  ·exact Hi (B:=bt [true,true,false,true]) hl hi rfl rfl rfl rfl
  ·exact Hj (B:=bt [true,true,true,false]) hl hi rfl rfl rfl rfl
  ·exact Hl (B:=bt [true,true,true,true]) hl hi rfl rfl rfl rfl
theorem Tx (I:pJ W bs F):Do bJ (FX X W bs 60) (dg X.1 X.2.1 X.2.2 148 4):=fun x hx a w ⟨re,D,N,hk,h1,h2,s⟩=>Hn I hk (by have:=h2 (by decide);omega) x hx a w s
theorem Ty {μ:Mp} {w:World} (hm: ∀c,μ.own c=false) (hs:bq μ (hO W.oa W.ob) w) (I:pJ W bs F) {x y:Value} (rx:VR μ W.vw x) (ry:VR μ W.vf y):
  Calls Tryz.prog 6 #[x,y] w fun e w'=>e= .returned (.bool true)∧Below w.heap.size w w':=
 have ok:Ok (μ,hO W.oa W.ob,w) W:=⟨fun c _=>hm c,rfl,fun p hp=>(by
  rcases List.mem_cons.1 hp with rfl | hp
  ·exact I.w.on (by decide)
  ·rw [List.mem_singleton.1 hp];exact I.f.on (by decide)),MG (I.w.ok (lI bs).2.1) (I.f.ok (lJ F).2.1)⟩
 ME (M:=MM) (i:=4) Wf hs hm (args:=[W.vw,W.vf]) (by rw [aH];refine ⟨_,_,rfl,rx,?_⟩;rw [aH];exact ⟨_,_,rfl,ry,by rw [aF]⟩) (by show 2≤148;decide) rfl
  (jl (S:=pK μ (hO W.oa W.ob) w 148 (bI W.ks []) (hO W.oa W.ob)) (Wk ok (B:=bt bs) I.lw I.m I.lf I.L
   (cB (cB (R:=FU (μ,hO W.oa W.ob,w) W (bt bs) 0) (aa (R:=ad (μ,hO W.oa W.ob,w) W (f6 0) (cr (bt bs) v0) 70) (df (fr:=bI W.ks f5) (fr':=bI W.ks (f6 0)) aQ fun g=>r6 g) fun a w s=>⟨v0,_,_,⟨rfl,rfl, .inl rfl, .inl rfl⟩, .r0,s⟩) (Wn ok I)) (cB (cB (Tw I) (Wp ok I)) (Tx I)))) (fun a w1 h=>⟨.lf,h.1 ▸ h.2⟩) (fun _ _ _ h=>h))
end
end Go.Proofs.YtfcljjhlijolgaaGreatDoor.serverQueue
