/- A part of the proof. -/
import Derived.Test.YtcajpeiobkcliaaGreatDoorQiTail
import Derived.Test.YtcajpeiobkcliaaGreatDoorQiRnd
import Derived.Test.YtcajpeiobkcliaaGreatDoorQiSep11
import Derived.RangeFuncLeaves
namespace Go.Proofs.YtcajpeiobkcliaaGreatDoor
open Go.RowKit
section
variable {P:Program} {ops:Array Oper} {Q:Exit→Act→World→Prop} {a:Act} {W w:World} {l n N i d:Nat} {D:List Deferred} {σ σ':List (Nat×Value)} {K:Act→World→Prop} {fs:List Fact} {o:Oper}
theorem qgo (hQ:¬LetsOut Q):∀(os:List Oper),(∀o∈os,∀c,o.op≠ .defer c)→∀a w,wpList P ops Q os a w→wpListIn (Fence.wide.inRound l) 0 P ops Q os a w
 |[],_,_,_,h=>h
 | o :: os, hos, a, w, h => by
  unfold wpList at h
  unfold wpListIn
  split at h
  ·rename_i hw
   rw [if_pos hw]
   exact qkn (hos o List.mem_cons_self) hQ (fun a w h=>qgo hQ os (fun o ho=>hos o (List.mem_cons_of_mem _ ho)) a w h) h
  ·rename_i hw
   rw [if_neg hw]
   exact ⟨fun _ _=>trivial,qgo hQ os (fun o ho=>hos o (List.mem_cons_of_mem _ ho)) _ _ h⟩
theorem zp {id:Nat} (h:qg P ops Q 0 a w) (hd:qi5 ops=true:=by kernel_rfl) (hQ:¬LetsOut Q:=by intro ⟨_,_,h⟩;exact h):(Code.region id ops false).wpIn (Fence.wide.inRound l) 0 P Q a w:=
 wpIn_region_list (qgo hQ _ (fun o ho=>by
  obtain ⟨j,hj⟩:=List.mem_iff_getElem?.1 ho
  exact qh8 hd (i:=j) (by simpa using hj)) a w (by simpa [qg] using h))
theorem qsu {id:Nat} (I:Mem W w fs) (fs':List Fact) (m:Nat) (is ex:List Nat) (h:Mem W w.drew fs→Mem W w.drew fs'→qh P .any ops Q (fun wS=>Mem W wS fs') ex ops.size (Array.replicate ops.size false) a w.drew)
  (hm:P.follows .mixedOrders=true:=by kernel_rfl) (hn:is.Nodup:=by decide) (hlt:(is.all (· <m))=true:=by decide) (he:picks fs is++fs.drop m=fs':=by rfl) (hd:qi5 ops=true:=by kernel_rfl) (hQ:¬LetsOut Q:=by intro ⟨_,_,h⟩;exact h):(Code.region id ops true).wpIn (Fence.wide.inRound l) 0 P Q a w:=
 wpIn_region_any hm (qfz hd hQ _ _ _ _ (qa9 _ _ _ _ (h I.drew (I.drew.qv2 m is hn hlt he))))
def qa6 (fn:FuncId) (tmps:Array Value) (ps:Array Tmp) (assign body:Code) (D:Nat) (st:LoopState) (pe:Option Code):Loop:={state:=st,pending:=pe,fn,tmps,params:=ps,assign,body,defers:=D}
def roundEnd (W:World) (l:Nat) (rec:LoopState→Option Code→Loop) (R:Ending→World→Prop):Exit→Act→World→Prop
 | .normal,_,w=>∃F,Mem W w (.obj l (.loop (rec .busy none))::F)∧∀w',Mem W w' (.obj l (.loop (rec .ready none))::F)→R (.returned (.bool true)) w'
 | .ret,_,w=>∃F,Mem W w (.obj l (.loop (rec .busy none))::F)∧∀w',Mem W w' (.obj l (.loop (rec .done (some .ret)))::F)→R (.returned (.bool false)) w'
 | .exit id,_,w=>∃F,Mem W w (.obj l (.loop (rec .busy none))::F)∧∀w',Mem W w' (.obj l (.loop (rec .done (some (.exit id))))::F)→R (.returned (.bool false)) w'
 |_,_,_=>False
theorem qgp {fn:FuncId} {tmps:Array Value} {ps:Array Tmp} {assign body:Code} {B:Nat} {args:Array Value} {F:List Fact} {R:Ending→World→Prop} (I:Mem W w (.obj l (.loop (qa6 fn tmps ps assign body B .ready none))::F)) (hs:args.size=ps.size)
  (h : assign.wpIn (Fence.wide.inRound l) 0 P (Exit.then (fun a1 w1 => ∃ F1, Mem W w1 (.obj l (.loop (qa6 fn tmps ps assign body B .ready none)) :: F1) ∧ ∀ w2, Mem W w2 (.obj l (.loop (qa6 fn tmps ps assign body B .busy none)) :: F1) → body.wpIn (Fence.wide.inRound l) 0 P (roundEnd W l (qa6 fn tmps ps assign body B) R) a1 w2) (fun _ _ _ => False))
   {tmps:=(ps.zip args).foldl (fun t (p,v)=>t.setIfInBounds p v) tmps,defers:=[]} w):YieldAt Fence.wide 0 P l args w R:=by
 have hl:=I.objAt (i:=0) rfl
 refine ⟨fn,_,assign,body,run_yield hl hs,roundIn_of_wpIn trivial (wpIn_mono h ?_)⟩
 rintro e a1 w1 hq
 cases e with
 | normal =>
  obtain ⟨F1,h1,h2⟩:=hq
  refine ⟨_,run_beginRound (h1.objAt (i:=0) rfl) rfl,?_⟩
  refine wpIn_mono (h2 _ (h1.setObj (i:=0) rfl _)) ?_
  rintro e a2 w2 hq
  cases e with
  |normal=>
   obtain ⟨F2,h3,h4⟩:=hq
   exact ⟨_,_,run_endRound none (h3.objAt (i:=0) rfl),h4 _ (h3.setObj (i:=0) rfl _)⟩
  |ret=>
   obtain ⟨F2,h3,h4⟩:=hq
   exact ⟨_,_,run_endRound (some .ret) (h3.objAt (i:=0) rfl),h4 _ (h3.setObj (i:=0) rfl _)⟩
  |exit id=>
   obtain ⟨F2,h3,h4⟩:=hq
   exact ⟨_,_,run_endRound (some (.exit id)) (h3.objAt (i:=0) rfl),h4 _ (h3.setObj (i:=0) rfl _)⟩
  |goto t=>exact hq.elim
  |panic c=>exact hq.elim
  |outgrown=>exact hq.elim
 |exit id=>exact hq.elim
 |goto t=>exact hq.elim
 |ret=>exact hq.elim
 |panic c=>exact hq.elim
 |outgrown=>exact hq.elim
theorem Fr.zip2 {tmps:Array Value} {p1 p2:Nat} {v1 v2:Value} (h:Fr {tmps:=tmps,defers:=[]} n D σ) (h1:p1<n) (h2:p2<n):Fr {tmps:=(#[p1,p2].zip #[v1,v2]).foldl (fun t (p,v)=>t.setIfInBounds p v) tmps,defers:=[]} n D ((p2,v2)::(p1,v1)::σ):=by
 have h3:=(h.put h1 v1).put h2 v2
 simpa [Act.put] using h3
theorem qfr {rec:LoopState→Option Code→Loop} {assign body:Code} {B p1 p2:Nat} {v1 v2:Value} {F:List Fact} {R:Ending→World→Prop} (hrec:∃fn tmps,rec=qa6 fn tmps #[p1,p2] assign body B∧Fr {tmps:=tmps,defers:=[]} n [] σ) (I:Mem W w (.obj l (.loop (rec .ready none))::F)) (h1:p1<n) (h2:p2<n)
  (h:∀a,Fr a n [] ((p2,v2)::(p1,v1)::σ)→assign.wpIn (Fence.wide.inRound l) 0 P (Exit.then (fun a1 w1=>∃F1,Mem W w1 (.obj l (.loop (rec .ready none))::F1)∧∀w2,Mem W w2 (.obj l (.loop (rec .busy none))::F1)→body.wpIn (Fence.wide.inRound l) 0 P (roundEnd W l rec R) a1 w2) (fun _ _ _=>False)) a w):YieldAt Fence.wide 0 P l #[v1,v2] w R:=by
 obtain ⟨fn,tmps,rfl,Z⟩:=hrec
 exact qgp I rfl (h _ (Z.zip2 h1 h2))
theorem qjd {a:Act} {w:World} {K K':Act→World→Prop} (hQ:¬LetsOut Q) (hK:∀a w,K a w→K' a w) (h:o.wp P a w K Q∨(o.asks P a w∧LetsOut Q)):o.wpIn Fence.wide 0 P a w K' Q:=by
 rcases h with h|h
 ·refine ⟨fun _ _=>trivial,?_⟩
  rw [show Fence.wide.round=none from rfl,Oper.semAt_none]
  unfold Oper.wp at h
  generalize (execOp a.eval o).run P w=r at h
  cases r with
  | ok x w' =>
   cases x with
   |value v=>exact hK _ _ h
   |skip=>exact hK _ _ h
   |defer d=>exact hK _ _ h
   |enter f args=>
    refine ⟨fun h=>by simp [Fence.wide] at h,?_⟩
    show CallsIn Fence.wide 0 P f args w' _
    refine (callsIn_wide.2 h).mono ?_
    intro e w'' he
    cases e with
    |returned v=>exact hK _ _ he
    |panicked c=>exact he
    |outgrown=>exact he
   |row r args=>
    refine ⟨fun h=>by simp [Fence.wide] at h,fun c cs _=>?_⟩
    obtain ⟨v,w'',h1,h2⟩:=(h:Rows P r args w' _) c cs
    exact ⟨v,w'',hK _ _ h1,stepsIn_wide.2 h2⟩
   |_=>exact (h:False).elim
  |halt hh w'=>
   cases hh with
   |panic v=>exact h
   |_=>exact (h:False).elim
 ·exact absurd h.2 hQ
theorem qje (hQ:¬LetsOut Q):∀(os:List Oper) (a:Act) (w:World),wpList P ops Q os a w→wpListIn Fence.wide 0 P ops Q os a w
 |[],_,_,h=>h
 | o :: os, a, w, h => by
  unfold wpList at h
  unfold wpListIn
  split at h
  ·rename_i hw
   rw [if_pos hw]
   exact qjd hQ (fun a w h=>qje hQ os a w h) h
  ·rename_i hw
   rw [if_neg hw]
   exact ⟨fun _ _=>trivial,qje hQ os _ _ h⟩
theorem qkw {pre:Array Oper} (hQ:¬LetsOut Q) (K:Act→World→Prop) (os2:List Oper) (hK:∀a w,K a w→wpListIn Fence.wide 0 P ops Q os2 a w):∀(os:List Oper),(∀o∈os,o.guard=none)→∀a w,wpList P pre (Exit.then K Q) os a w→wpListIn Fence.wide 0 P ops Q (os++os2) a w
 |[],_,a,w,h=>hK a w h
 | o :: os, hg, a, w, h => by
  have h1:∀x,Region.wanted o x=true:=fun x=>by unfold Region.wanted;rw [hg o List.mem_cons_self]
  unfold wpList at h
  rw [if_pos (h1 _)] at h
  show if Region.wanted o (yielded ops a.tmps)=true then _ else _
  rw [if_pos (h1 _)]
  have h2:=qjd (Q:=Exit.then K Q) (K':=wpListIn Fence.wide 0 P ops Q (os++os2)) (fun ⟨a,w,h⟩=>hQ ⟨a,w,h⟩) (fun a w h=>qkw hQ K os2 hK os (fun o ho=>hg o (List.mem_cons_of_mem _ ho)) a w h) h
  refine ⟨h2.1,?_⟩
  have h3:=h2.2
  generalize (o.semAt Fence.wide.round a.eval).run P w=r at h3
  cases r with
  | ok x w' =>
   cases x with
   |enter f args=>
    refine ⟨h3.1,h3.2.mono ?_⟩
    intro e w'' he
    cases e with
    |returned v=>exact he
    |panicked c=>exact he
    |outgrown=>exact he
   |round l f tmps assign body=>
    refine ⟨h3.1,h3.2.mono ?_⟩
    intro e w'' he
    cases e with
    |returned v=>exact he
    |panicked c=>exact he
    |outgrown=>exact he
   |_=>exact h3
  |halt hh w'=>
   cases hh with
   |panic v=>exact h3
   |_=>exact h3
theorem qkx {id i:Nat} (h:qg P (ops.toList.take i).toArray (Exit.then (fun a w=>∃o,ops[i]?=some o∧o.guard=none∧o.wpIn Fence.wide 0 P a w (wpListIn Fence.wide 0 P ops Q (ops.toList.drop (i+1))) Q) Q) 0 a w) (hg:((ops.toList.take i).all fun o=>o.guard.isNone)=true:=by kernel_rfl) (hQ:¬LetsOut Q:=by intro ⟨_,_,h⟩;obtain ⟨_,h,_⟩:=h;cases h):(Code.region id ops false).wp P Q a w:=by
 refine wpIn_wide.1 (wpIn_region_list (n:=0) ?_)
 have h0:wpList P (ops.toList.take i).toArray (Exit.then (fun a w=>∃o,ops[i]?=some o∧o.guard=none∧o.wpIn Fence.wide 0 P a w (wpListIn Fence.wide 0 P ops Q (ops.toList.drop (i+1))) Q) Q) (ops.toList.take i) a w:=by simpa [qg] using h
 have h1:=qkw (ops:=ops) hQ _ (ops.toList.drop i) (fun a w ⟨o,ho,hn,h⟩=>by
  obtain ⟨hl,he⟩:=Array.getElem?_eq_some_iff.1 ho
  rw [List.drop_eq_getElem_cons (by simpa using hl),Array.getElem_toList,he]
  unfold wpListIn
  rw [if_pos (by unfold Region.wanted;rw [hn])]
  exact h) (ops.toList.take i) (fun o ho=>by
  have:=List.all_eq_true.1 hg o ho
  simpa using this) a w h0
 rwa [List.take_append_drop] at h1
theorem Mem.qd8 {r:Fact} {es F:List Fact} (h:Mem W w (r::(es++F))):Mem W w (r::(F++es)):=h.perm (List.Perm.cons _ List.perm_append_comm)
theorem Mem.qcz {es F:List Fact} (h:Mem W w (F++es)):Mem W w (es++F):=h.perm List.perm_append_comm
theorem Mem.qpw (es:List Fact) {F:List Fact} (h:Mem W w (es++F)):Mem W w F:=h.subl (List.sublist_append_right es F)
theorem qbx (Z:Fr a n D σ) {fo:Operand} {xs:Array Operand} {ts:Array TypeId} {vs:List Value} {R:Ending→World→Prop} (ho:ops[i]?=some o) (hn:o.guard=none) (hop:o.op= .call {callee:= .value fo,args:=xs,argTypes:=ts}) (hfo:look σ fo=some (.func (.yield l) #[] #[])) (hv:looks σ xs.toList=some vs) (hd:o.dst=some d) (hdn:d<n)
  (hy:YieldAt Fence.wide 0 P l vs.toArray w R) (hR:∀e w',R e w'→∃v,e= .returned v) (k:∀v w' a',R (.returned v) w'→Fr a' n D ((d,v)::σ)→qg P ops Q (i+1) a' w') (hQ:¬LetsOut Q:=by intro ⟨_,_,h⟩;obtain ⟨_,h,_⟩:=h;cases h):
  ∃o,ops[i]?=some o∧o.guard=none∧o.wpIn Fence.wide 0 P a w (wpListIn Fence.wide 0 P ops Q (ops.toList.drop (i+1))) Q:=by
 refine ⟨o,ho,hn,fun _ _=>trivial,?_⟩
 have e1:xs.map a.eval=vs.toArray:=by
  have:=qbl Z hv
  rw [←this,←Array.toList_map,Array.toArray_toList]
 obtain ⟨fn,tmps,assign,body,h1,h2⟩:=hy
 rw [show Fence.wide.round=none from rfl,Oper.semAt_none]
 unfold execOp
 simp only [hop,resolve,Z.eval hfo,Deferred.ofValue,invoke,Sem.run_bind,Sem.run_pure,Result.andThen_ok]
 have e2:(#[]:Array Value)++Array.map a.eval xs++ #[]=vs.toArray:=by simp [e1]
 show Oper.uponIn Fence.wide 0 P o a _ Q ((Instr.yield l (#[]++Array.map a.eval xs++ #[])).run P w)
 rw [e2,h1]
 refine ⟨fun h=>by simp [Fence.wide] at h,h2.mono ?_⟩
 intro e w' he
 obtain ⟨v,rfl⟩:=hR e w' he
 show wpListIn Fence.wide 0 P ops Q (ops.toList.drop (i+1)) (a.put o.dst v) w'
 rw [hd]
 exact qje hQ _ _ _ (k v w' _ he (Z.put hdn v))
theorem qsv {g:Operand} {ps:Array Tmp} {assign body:Code} {gf:Nat} {caps:List Value} (Z:Fr a n [] σ) (I:Mem W w fs) (J:List Fact→Prop) (X:Code→List Fact→Prop) (hg:look σ g=some (.func (.func gf) #[] caps.toArray)) (hcl:callable P gf=true)
  (hit : ∀ (l B : Nat) (rec : LoopState → Option Code → Loop) (w1 : World), (∃ fn tmps, rec = qa6 fn tmps ps assign body B ∧ Fr { tmps := tmps, defers := [] } n [] σ) → Mem W w1 (.obj l (.loop (rec .ready none)) :: .obj B (.deferred (some [])) :: fs) →
   Calls P gf (.func (.yield l) #[] #[]::caps).toArray w1 fun r w'=>∃v,r= .returned v∧((∃F,J F∧Mem W w' (.obj l (.loop (rec .ready none)):: .obj B (.deferred (some []))::F))∨∃c F,X c F∧Mem W w' (.obj l (.loop (rec .done (some c))):: .obj B (.deferred (some []))::F)))
  (hdone:∀(B:Nat) (a':Act) (w':World) (F:List Fact),J F→Fr a' n [{target:= .collected B,args:= #[]}] σ→Mem W w' (.obj B (.deferred (some []))::F)→Q .normal a' w')
  (hstop:∀(c:Code) (B:Nat) (a':Act) (w':World) (F:List Fact),X c F→Fr a' n [{target:= .collected B,args:= #[]}] σ→Mem W w' (.obj B (.deferred (some []))::F)→c.wp P Q a' w'):
  (Code.rangeFunc g ps assign body).wp P Q a w:=by
 refine (wpIn_wide (n:=0)).1 (wpIn_rangeFunc ?_)
 intro fn _
 show ∃l mark w₁ d w₁' f args w₂,(Instr.enterLoop fn a.tmps ps assign body none).run P w= .ok (l,mark) w₁∧_
 have h1:=(I.allocObj (.deferred (some []))).allocObj (.loop (qa6 fn a.tmps ps assign body w.heap.size .ready none))
 rw [World.size_alloc] at h1
 have HF1:Fr {tmps:=a.tmps,defers:=[]} n [] σ:=⟨Z.size,rfl,Z.slot⟩
 have HF2:Fr {a with defers:={target:= .collected w.heap.size,args:= #[]}::a.defers} n [{target:= .collected w.heap.size,args:= #[]}] σ:=⟨Z.size,by show _::a.defers=_;rw [Z.defers],Z.slot⟩
 have hE:(Instr.enterLoop fn a.tmps ps assign body none).run P w= .ok (w.heap.size+1,[{target:= .collected w.heap.size,args:= #[]}]) ((w.alloc (.deferred (some []))).alloc (.loop (qa6 fn a.tmps ps assign body w.heap.size .ready none))):=run_enterLoop_outer _ _ _ _ _
 generalize (w.alloc (.deferred (some []))).alloc (.loop (qa6 fn a.tmps ps assign body w.heap.size .ready none))=W1 at h1 hE
 refine ⟨w.heap.size+1,[{target:= .collected w.heap.size,args:= #[]}],W1,{target:= .fn (.func gf) caps.toArray,args:= #[.func (.yield (w.heap.size+1)) #[] #[]]},W1,gf,#[.func (.yield (w.heap.size+1)) #[] #[]]++caps.toArray,W1,hE,?_,fun _ _=>trivial,?_,fun h=>by simp [Fence.wide] at h,?_⟩
 ·simp only [resolve,Z.eval hg]
  simp [go_sem]
 ·simp [invoke,go_sem,qc3 hcl]
 ·have e:(#[.func (.yield (w.heap.size+1)) #[] #[]]++caps.toArray:Array Value)=(.func (.yield (w.heap.size+1)) #[] #[]::caps).toArray:=by simp
  rw [e]
  refine callsIn_wide.2 ((hit _ _ _ _ ⟨fn,a.tmps,rfl,HF1⟩ h1).mono ?_)
  rintro e w' ⟨v,rfl,(⟨F,hJ,hM⟩|⟨c,F,hX,hM⟩)⟩
  ·have h2:=run_endLoop (P:=P) (hM.objAt (i:=0) rfl) (by simp [qa6])
   exact ⟨none,_,h2,hdone _ _ _ F hJ HF2 (hM.setObj (i:=0) rfl _).tail⟩
  ·have h2:=run_endLoop (P:=P) (hM.objAt (i:=0) rfl) (by simp [qa6])
   exact ⟨some c,_,h2,wpIn_wide.2 (hstop c _ _ _ F hX HF2 (hM.setObj (i:=0) rfl _).tail)⟩
def bodyM (P:Program) (fn:Func) (R:Ending→World→Prop):Exit→Act→World→Prop
 | .normal,a,w| .ret,a,w=>LeavesInM Fence.wide 0 P fn a.tmps R a.defers .returning w
 |_,_,_=>False
theorem qcv {f N:Nat} {fn:Func} {c:Code} {vs:List Value} {R:Ending→World→Prop} (hf:P.funcs[f]?=some fn) (hb:fn.body=some c) (hn:fn.ntmps=N) (hl:decide (vs.length≤N)=true) {σ0:List (Nat×Value)} (h0:qdj 0 vs=σ0)
  (k:∀a,Fr a N [] σ0→c.wp P (bodyM P fn R) a w):Calls P f vs.toArray w R:=by
 subst h0
 rw [decide_eq_true_eq] at hl
 refine (callsIn_wide (n:=0)).1 (callsIn_of_wp_marks hf hb trivial (wpIn_wide.2 (Code.wp_mono (fun e a w h=>by cases e<;>first|exact h|exact (h:False).elim) (k _ ⟨by simp [hn];omega,rfl,fun t v hv=>?_⟩))) rfl)
 obtain ⟨_,h1⟩:=qc5 vs 0 t v hv
 rw [Nat.sub_zero] at h1
 have hlt:=(List.getElem?_eq_some_iff.1 h1).1
 simp only [Array.getD_eq_getD_getElem?,Array.getElem?_append,List.size_toArray,if_pos hlt]
 simp [h1]
section
variable {fn:Func} {R:Ending→World→Prop}
theorem qyz (h:bodyPost P fn R .ret a w):bodyM P fn R .ret a w:=by
 obtain ⟨hd,v,hr,hR⟩:=h
 show LeavesInM Fence.wide 0 P fn a.tmps R a.defers .returning w
 rw [hd]
 exact ⟨v,hr,hR⟩
theorem qmy {B:Nat} (Z:Fr a n [{target:= .collected B,args:= #[]}] σ) (I:Mem W w fs) (hi:fs[i]?=some (.obj B (.deferred (some [])))) (h:∀(a':Act) (w':World),Fr a' n [] σ→Mem W w' (fs.set i (.obj B (.deferred none)))→bodyPost P fn R .ret a' w'):bodyM P fn R .ret a w:=by
 obtain ⟨_,v,hr,hR⟩:=h {tmps:=a.tmps,defers:=[]} _ ⟨Z.size,rfl,Z.slot⟩ (I.setObj hi (.deferred none))
 show LeavesInM Fence.wide 0 P fn a.tmps R a.defers .returning w
 rw [Z.defers]
 exact ⟨fun h=>(nomatch h),.inl ⟨B,_,rfl,run_takeDeferred (I.objAt hi),v,hr,hR⟩⟩
theorem ret0 (hr:fn.results= #[]) (Z:Fr a n [] σ) (hR:R (.returned (.tuple #[])) w):bodyPost P fn R .ret a w:=
 bodyPost_ret (v:= .tuple #[]) (by
  rw [qd1,hr]
  simp) Z.defers hR
theorem norm0 (hr:fn.results= #[]) (Z:Fr a n [] σ) (hR:R (.returned (.tuple #[])) w):bodyPost P fn R .normal a w:=ret0 hr Z hR
end
end
end Go.Proofs.YtcajpeiobkcliaaGreatDoor
