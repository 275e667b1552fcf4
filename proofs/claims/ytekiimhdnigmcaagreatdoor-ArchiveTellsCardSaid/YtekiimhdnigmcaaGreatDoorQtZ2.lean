/- Parts. -/
import Derived.Test.YtekiimhdnigmcaaGreatDoorQtOneWay
import Derived.Test.YtekiimhdnigmcaaGreatDoorQtBack
import Derived.Test.YtekiimhdnigmcaaGreatDoorQtCodV
import Derived.Test.YtekiimhdnigmcaaGreatDoorQtCrcP
import Derived.Laws.StructEq
import Derived.Test.YtekiimhdnigmcaaGreatDoorQtDoor
import Derived.Test.YtekiimhdnigmcaaGreatDoorRows
import Derived.Test.YtekiimhdnigmcaaGreatDoorQtMark
import Derived.Test.YtekiimhdnigmcaaGreatDoorQtSep6
import Derived.Test.YtekiimhdnigmcaaGreatDoorQtDoorE
import Derived.Test.YtekiimhdnigmcaaGreatDoorQtZ1
set_option linter.all false
set_option maxRecDepth 100000
set_option maxHeartbeats 1000000
namespace Go.Proofs.YtekiimhdnigmcaaGreatDoor
open Go.RowKit
theorem wZ:SI Tryz.prog 362 2:=⟨by kernel_rfl,by kernel_rfl⟩
theorem zby:EI Tryz.prog 363 362 (.agg #[.string (ByteArray.mk #[]),.nilFunc]) 2 24:=⟨by kernel_rfl,by kernel_rfl,rfl,by omega⟩
def q5 (s:bH):Array Value:= #[.string (ByteArray.mk #[110,101,120,116]),.func (.func 230) #[.agg s.cells] #[],.string (ByteArray.mk #[99,111,110,102,105,103]),.func (.func 231) #[.agg s.cells] #[],.string (ByteArray.mk #[103,114,111,117,112,115]),.func (.func 232) #[.agg s.cells] #[],.string (ByteArray.mk #[99,108,111,99,107,115]),.func (.func 233) #[.agg s.cells] #[],.string (ByteArray.mk #[99,117,114,114,101,110,116]),.func (.func 234) #[.agg s.cells] #[],.string (ByteArray.mk #[116,97,115,107,115]),.func (.func 235) #[.agg s.cells] #[],.string (ByteArray.mk #[115,112,111,116,115]),.func (.func 236) #[.agg s.cells] #[]]
def qvi (P:Program) (W:World) (lp:Nat) (s:bH) (Inv:Nat→List Fact→Prop):Prop:=
 ∀(i:Nat) (F fr:List Fact) (w:World) (A:Option Addr) (c:Nat),Inv i F→i<7→(aK s i).length≤c→Mem W w (.row (.slice A (aK s i).length c) (aK s i).length ((aK s i).map aR) 41 1::(F++fr))→YieldAt Fence.wide 0 P lp #[.string (qa i),.slice A (aK s i).length c] w (Xg W fr (Inv (i+1)))
theorem q2t (s:bH) (w:World):
    Calls Tryz.prog 166 #[.agg s.cells] w fun r w'=>∃gv gp,r= .returned (.func (.func 237) #[] #[vP gv 0])∧Mem w w' [.blk gv #[.slice (some ⟨gp,0,none⟩) 7 7] 363,.blk gp (q5 s) 362]:=by
 refine (bZ Tryz.func166 27) ?_
 refine (JP∘JE) fun w1 g1=>(Jp 1∘Jr∘Jy (v:= .agg s.cells) (h:=by exact Yl.qf rfl rfl zr rfl (fun _ h=>qb (h.blk (i:=0) rfl)))∘Jy (h:=by exact Yl.makeFunc (fst:=[.agg s.cells]) (caps:=[]) rfl rfl rfl)∘Jy (v:= .agg #[.string (ByteArray.mk #[110,101,120,116]),.func (.func 230) #[.agg s.cells] #[]]) (h:=by exact Yl.build (vs:=[(0,.string (ByteArray.mk #[110,101,120,116])),(1,.func (.func 230) #[.agg s.cells] #[])]) rfl kr kr)∘Jy (v:= .agg s.cells) (h:=by exact Yl.qf rfl rfl zr rfl (fun _ h=>qb (h.blk (i:=0) rfl)))∘Jy (h:=by exact Yl.makeFunc (fst:=[.agg s.cells]) (caps:=[]) rfl rfl rfl)∘Jy (v:= .agg #[.string (ByteArray.mk #[99,111,110,102,105,103]),.func (.func 231) #[.agg s.cells] #[]]) (h:=by exact Yl.build (vs:=[(0,.string (ByteArray.mk #[99,111,110,102,105,103])),(1,.func (.func 231) #[.agg s.cells] #[])]) rfl kr kr)∘Jy (v:= .agg s.cells) (h:=by exact Yl.qf rfl rfl zr rfl (fun _ h=>qb (h.blk (i:=0) rfl)))∘Jy (h:=by exact Yl.makeFunc (fst:=[.agg s.cells]) (caps:=[]) rfl rfl rfl)∘Jy (v:= .agg #[.string (ByteArray.mk #[103,114,111,117,112,115]),.func (.func 232) #[.agg s.cells] #[]]) (h:=by exact Yl.build (vs:=[(0,.string (ByteArray.mk #[103,114,111,117,112,115])),(1,.func (.func 232) #[.agg s.cells] #[])]) rfl kr kr)∘Jy (v:= .agg s.cells) (h:=by exact Yl.qf rfl rfl zr rfl (fun _ h=>qb (h.blk (i:=0) rfl)))∘Jy (h:=by exact Yl.makeFunc (fst:=[.agg s.cells]) (caps:=[]) rfl rfl rfl)∘Jy (v:= .agg #[.string (ByteArray.mk #[99,108,111,99,107,115]),.func (.func 233) #[.agg s.cells] #[]]) (h:=by exact Yl.build (vs:=[(0,.string (ByteArray.mk #[99,108,111,99,107,115])),(1,.func (.func 233) #[.agg s.cells] #[])]) rfl kr kr)∘Jy (v:= .agg s.cells) (h:=by exact Yl.qf rfl rfl zr rfl (fun _ h=>qb (h.blk (i:=0) rfl)))∘Jy (h:=by exact Yl.makeFunc (fst:=[.agg s.cells]) (caps:=[]) rfl rfl rfl)∘Jy (v:= .agg #[.string (ByteArray.mk #[99,117,114,114,101,110,116]),.func (.func 234) #[.agg s.cells] #[]]) (h:=by exact Yl.build (vs:=[(0,.string (ByteArray.mk #[99,117,114,114,101,110,116])),(1,.func (.func 234) #[.agg s.cells] #[])]) rfl kr kr)∘Jy (v:= .agg s.cells) (h:=by exact Yl.qf rfl rfl zr rfl (fun _ h=>qb (h.blk (i:=0) rfl)))∘Jy (h:=by exact Yl.makeFunc (fst:=[.agg s.cells]) (caps:=[]) rfl rfl rfl)∘Jy (v:= .agg #[.string (ByteArray.mk #[116,97,115,107,115]),.func (.func 235) #[.agg s.cells] #[]]) (h:=by exact Yl.build (vs:=[(0,.string (ByteArray.mk #[116,97,115,107,115])),(1,.func (.func 235) #[.agg s.cells] #[])]) rfl kr kr)∘Jy (v:= .agg s.cells) (h:=by exact Yl.qf rfl rfl zr rfl (fun _ h=>qb (h.blk (i:=0) rfl)))∘Jy (h:=by exact Yl.makeFunc (fst:=[.agg s.cells]) (caps:=[]) rfl rfl rfl)∘Jy (v:= .agg #[.string (ByteArray.mk #[115,112,111,116,115]),.func (.func 236) #[.agg s.cells] #[]]) (h:=by exact Yl.build (vs:=[(0,.string (ByteArray.mk #[115,112,111,116,115])),(1,.func (.func 236) #[.agg s.cells] #[])]) rfl kr kr)) fun a Z E=>?_
 refine fo Z 21 rfl rfl (lT Z E zby [(0,.agg #[.string (ByteArray.mk #[110,101,120,116]),.func (.func 230) #[.agg s.cells] #[]]),(1,.agg #[.string (ByteArray.mk #[99,111,110,102,105,103]),.func (.func 231) #[.agg s.cells] #[]]),(2,.agg #[.string (ByteArray.mk #[103,114,111,117,112,115]),.func (.func 232) #[.agg s.cells] #[]]),(3,.agg #[.string (ByteArray.mk #[99,108,111,99,107,115]),.func (.func 233) #[.agg s.cells] #[]]),(4,.agg #[.string (ByteArray.mk #[99,117,114,114,101,110,116]),.func (.func 234) #[.agg s.cells] #[]]),(5,.agg #[.string (ByteArray.mk #[116,97,115,107,115]),.func (.func 235) #[.agg s.cells] #[]]),(6,.agg #[.string (ByteArray.mk #[115,112,111,116,115]),.func (.func 236) #[.agg s.cells] #[]])] (q5 s) ?_)
 clear Z E;intro a Le g25 Z E
 exact Jb Z E ((JA #[vN]) fun w3 g3=>(JW bg bg) fun afY=>(aF∘Jr∘Jy (h:=by exact Yl.makeFunc (fst:=[]) (caps:=[vP g3 0]) rfl rfl rfl)∘Jp 1∘aQ∘Jj∘JZ∘aH) fun E=>by exact ⟨_,_,rfl,E.pk [0,1]⟩)
theorem qxk (W w:World) (gv gp lp:Nat) (s:bH) (hok:s.st.aD.Ok) (hf:aX s.st) (hx:cB W s.st) (hc:fK s.st) (hsh:ShAt s.st) (Inv:Nat→List Fact→Prop) (F0:List Fact) (hy:qvi Tryz.prog W lp s Inv) (hI0:Inv 0 F0) (E:Mem W w (.blk gv #[.slice (some ⟨gp,0,none⟩) 7 7] 363:: .blk gp (q5 s) 362::F0)):
    Calls Tryz.prog 237 (.func (.yield lp) #[] #[]:: [vP gv 0]).toArray w (q0s W (Inv 7)):=by
 refine xO Tryz.func237 [.func (.yield lp) #[] #[],vP gv 0] [(0,.func (.yield lp) #[] #[]),(1,vP gv 0)] fun a Z=>?_
 refine Jb Z E ((JP∘Jc O0∘Jl∘Jp 1∘Jj∘JB) fun a Z E=>?_)
 refine qc (fun mS aS wS=>∃(k:Nat) (F:List Fact),(k≤7)∧(Inv k F)∧mS=7-k∧Fr aS 20 [] [(7,vI k),(6,vI 7),(5,vS gp 7 7),(0,.func (.yield lp) #[] #[])]∧Mem W wS (.blk gv #[vS gp 7 7] 363:: .blk gp (q5 s) 362::F)) (m:=7-0) ⟨0,F0,by decide,hI0,rfl,Z.sub kr,E.pt 2 [0,1]⟩ ?_
 clear Z E;rintro mS a w_ ⟨k,F,hk,hI,rfl,Z,E⟩
 refine Jb Z E ((JP∘Jp 1∘Jj∘JQ) (Ju (fun kP=>?_) fun kP=>?_))
 ·
  intro a Z E
  have pQ:=of_decide_eq_true kP
  revert E;revert a;repeat (first|clear Z|clear E)
  intro a Z E
  obtain rfl|rfl|rfl|rfl|rfl|rfl|rfl:k=0∨k=1∨k=2∨k=3∨k=4∨k=5∨k=6:=by omega
  ·
   replace Z:=Z.sp 7 (vI 0) rfl rfl
   refine Jb Z E ((JT∘aG∘JQ∘JB∘JP∘Jy (v:=vP gp 0) (h:=by exact Yl.indexAddr (ad:=⟨gp,0,none⟩) (y:=0) (sz:=2) rfl rfl rfl de kr)∘Jy (v:= .agg #[.string (ByteArray.mk #[110,101,120,116]),.func (.func 230) #[.agg s.cells] #[]]) (h:=by exact Yl.qf rfl rfl wZ rfl (fun _ h=>h.sub (i:=1) rfl 0 rfl))∘JA #[.string (ByteArray.mk #[]),.nilFunc]) fun w4 g4=>(JV wZ bg) fun tK=>(aT∘Jj) fun a Z E=>?_)
   refine wp_seq ?_
   refine IW 6 E (.blk g4 #[.string (ByteArray.mk #[110,101,120,116]),.func (.func 230) #[.agg s.cells] #[]] 362:: .blk gv #[vS gp 7 7] 363:: .blk gp (q5 s) 362::F) 3 [0,1,2] [] fun E HS=>?_
   refine ap Z (fun _=>HS) [0,1,3] (bf 6 [0,1,3]) [(14,vP g4 1),(12,vP g4 0),(11,.func (.yield lp) #[] #[])] fun a Z=>?_
   refine iJ Z HS 2 0 fun a Z=>?_
   refine iJ Z HS 4 0 fun a Z=>?_
   refine s_on Z 5 rfl ?_
   refine rA Z (f:=230) (vs:=[]) (fst:=[.agg s.cells]) (caps:=[]) rfl rfl rfl kr rfl de (q2s s hok hf _ (hx.old E)) ?_
   rintro _ w16 ⟨⟨jg,c16,rfl,ho,hc16⟩,hbw⟩
   refine ⟨_,rfl,?_⟩
   replace E:=E.bq hbw ho
   clear Z;intro a Z
   refine au (E.pt 4 [1,2,3]) (fun HS=>?_)
   refine qg kr ?_
   replace E:=E.pt (fs':=(.row (.slice jg ((aK s 0).length) c16) ((aK s 0).length) ((aK s 0).map aR) 41 1:: .blk g4 #[.string (ByteArray.mk #[110,101,120,116]),.func (.func 230) #[.agg s.cells] #[]] 362:: .blk gv #[vS gp 7 7] 363:: .blk gp (q5 s) 362::F)) 4 [0,1,2,3]
   refine Dv Z (i:=6) (vs:=[.string (ByteArray.mk #[110,101,120,116]),.slice jg ((aK s 0).length) c16]) rfl rfl rfl rfl rfl rfl de (hy 0 F [.blk g4 #[.string (ByteArray.mk #[110,101,120,116]),.func (.func 230) #[.agg s.cells] #[]] 362,.blk gv #[vS gp 7 7] 363,.blk gp (q5 s) 362] _ jg c16 hI om hc16 (Mem.Fb (es:=[.blk g4 #[.string (ByteArray.mk #[110,101,120,116]),.func (.func 230) #[.agg s.cells] #[]] 362,.blk gv #[vS gp 7 7] 363,.blk gp (q5 s) 362]) E)) zk ?_
   clear Z E;rintro v nZ a ⟨F2,E,hv,hI2⟩ Z;injection hv with hv;subst hv
   replace E:Mem W nZ (.blk g4 #[.string (ByteArray.mk #[110,101,120,116]),.func (.func 230) #[.agg s.cells] #[]] 362:: .blk gv #[vS gp 7 7] 363:: .blk gp (q5 s) 362::F2):=Mem.zI (es:=[.blk g4 #[.string (ByteArray.mk #[110,101,120,116]),.func (.func 230) #[.agg s.cells] #[]] 362,.blk gv #[vS gp 7 7] 363,.blk gp (q5 s) 362]) E
   replace Z:=Z.to [(17,.bool true),(7,vI 0),(6,vI 7),(5,vS gp 7 7),(0,.func (.yield lp) #[] #[])]
   refine Jb Z E ((Jp 1∘aQ∘Jq∘JF∘aG∘JR∘Jv 2 [(7,vI 1)]∘Jq) fun a Z E=>?_)
   exact ⟨_,om,1,F2,by omega,hI2,rfl,Z.sub kr,E.pt 3 [1,2]⟩
  ·
   replace Z:=Z.sp 7 (vI 1) rfl rfl
   refine Jb Z E ((JT∘aG∘JQ∘JB∘JP∘Jy (v:=vP gp 2) (h:=by exact Yl.indexAddr (ad:=⟨gp,0,none⟩) (y:=1) (sz:=2) rfl rfl rfl de kr)∘Jy (v:= .agg #[.string (ByteArray.mk #[99,111,110,102,105,103]),.func (.func 231) #[.agg s.cells] #[]]) (h:=by exact Yl.qf rfl rfl wZ rfl (fun _ h=>h.sub (i:=1) rfl 2 rfl))∘JA #[.string (ByteArray.mk #[]),.nilFunc]) fun w4 g4=>(JV wZ bg) fun tK=>(aT∘Jj) fun a Z E=>?_)
   refine wp_seq ?_
   refine IW 6 E (.blk g4 #[.string (ByteArray.mk #[99,111,110,102,105,103]),.func (.func 231) #[.agg s.cells] #[]] 362:: .blk gv #[vS gp 7 7] 363:: .blk gp (q5 s) 362::F) 3 [0,1,2] [] fun E HS=>?_
   refine ap Z (fun _=>HS) [0,1,3] (bf 6 [0,1,3]) [(14,vP g4 1),(12,vP g4 0),(11,.func (.yield lp) #[] #[])] fun a Z=>?_
   refine iJ Z HS 2 0 fun a Z=>?_
   refine iJ Z HS 4 0 fun a Z=>?_
   refine s_on Z 5 rfl ?_
   refine rA Z (f:=231) (vs:=[]) (fst:=[.agg s.cells]) (caps:=[]) rfl rfl rfl kr rfl de (qsx s hok hf _ (hx.old E)) ?_
   rintro _ w16 ⟨⟨jg,c16,rfl,ho,hc16⟩,hbw⟩
   refine ⟨_,rfl,?_⟩
   replace E:=E.bq hbw ho
   clear Z;intro a Z
   refine au (E.pt 4 [1,2,3]) (fun HS=>?_)
   refine qg kr ?_
   replace E:=E.pt (fs':=(.row (.slice jg ((aK s 1).length) c16) ((aK s 1).length) ((aK s 1).map aR) 41 1:: .blk g4 #[.string (ByteArray.mk #[99,111,110,102,105,103]),.func (.func 231) #[.agg s.cells] #[]] 362:: .blk gv #[vS gp 7 7] 363:: .blk gp (q5 s) 362::F)) 4 [0,1,2,3]
   refine Dv Z (i:=6) (vs:=[.string (ByteArray.mk #[99,111,110,102,105,103]),.slice jg ((aK s 1).length) c16]) rfl rfl rfl rfl rfl rfl de (hy 1 F [.blk g4 #[.string (ByteArray.mk #[99,111,110,102,105,103]),.func (.func 231) #[.agg s.cells] #[]] 362,.blk gv #[vS gp 7 7] 363,.blk gp (q5 s) 362] _ jg c16 hI om hc16 (Mem.Fb (es:=[.blk g4 #[.string (ByteArray.mk #[99,111,110,102,105,103]),.func (.func 231) #[.agg s.cells] #[]] 362,.blk gv #[vS gp 7 7] 363,.blk gp (q5 s) 362]) E)) zk ?_
   clear Z E;rintro v nZ a ⟨F2,E,hv,hI2⟩ Z;injection hv with hv;subst hv
   replace E:Mem W nZ (.blk g4 #[.string (ByteArray.mk #[99,111,110,102,105,103]),.func (.func 231) #[.agg s.cells] #[]] 362:: .blk gv #[vS gp 7 7] 363:: .blk gp (q5 s) 362::F2):=Mem.zI (es:=[.blk g4 #[.string (ByteArray.mk #[99,111,110,102,105,103]),.func (.func 231) #[.agg s.cells] #[]] 362,.blk gv #[vS gp 7 7] 363,.blk gp (q5 s) 362]) E
   replace Z:=Z.to [(17,.bool true),(7,vI 1),(6,vI 7),(5,vS gp 7 7),(0,.func (.yield lp) #[] #[])]
   refine Jb Z E ((Jp 1∘aQ∘Jq∘JF∘aG∘JR∘Jv 2 [(7,vI 2)]∘Jq) fun a Z E=>?_)
   exact ⟨_,om,2,F2,by omega,hI2,rfl,Z.sub kr,E.pt 3 [1,2]⟩
  ·
   replace Z:=Z.sp 7 (vI 2) rfl rfl
   refine Jb Z E ((JT∘aG∘JQ∘JB∘JP∘Jy (v:=vP gp 4) (h:=by exact Yl.indexAddr (ad:=⟨gp,0,none⟩) (y:=2) (sz:=2) rfl rfl rfl de kr)∘Jy (v:= .agg #[.string (ByteArray.mk #[103,114,111,117,112,115]),.func (.func 232) #[.agg s.cells] #[]]) (h:=by exact Yl.qf rfl rfl wZ rfl (fun _ h=>h.sub (i:=1) rfl 4 rfl))∘JA #[.string (ByteArray.mk #[]),.nilFunc]) fun w4 g4=>(JV wZ bg) fun tK=>(aT∘Jj) fun a Z E=>?_)
   refine wp_seq ?_
   refine IW 6 E (.blk g4 #[.string (ByteArray.mk #[103,114,111,117,112,115]),.func (.func 232) #[.agg s.cells] #[]] 362:: .blk gv #[vS gp 7 7] 363:: .blk gp (q5 s) 362::F) 3 [0,1,2] [] fun E HS=>?_
   refine ap Z (fun _=>HS) [0,1,3] (bf 6 [0,1,3]) [(14,vP g4 1),(12,vP g4 0),(11,.func (.yield lp) #[] #[])] fun a Z=>?_
   refine iJ Z HS 2 0 fun a Z=>?_
   refine iJ Z HS 4 0 fun a Z=>?_
   refine s_on Z 5 rfl ?_
   refine rA Z (f:=232) (vs:=[]) (fst:=[.agg s.cells]) (caps:=[]) rfl rfl rfl kr rfl de (qsz s hok hf _ (hx.old E) hc hsh) ?_
   rintro _ w16 ⟨⟨jg,c16,rfl,ho,hc16⟩,hbw⟩
   refine ⟨_,rfl,?_⟩
   replace E:=E.bq hbw ho
   clear Z;intro a Z
   refine au (E.pt 4 [1,2,3]) (fun HS=>?_)
   refine qg kr ?_
   replace E:=E.pt (fs':=(.row (.slice jg ((aK s 2).length) c16) ((aK s 2).length) ((aK s 2).map aR) 41 1:: .blk g4 #[.string (ByteArray.mk #[103,114,111,117,112,115]),.func (.func 232) #[.agg s.cells] #[]] 362:: .blk gv #[vS gp 7 7] 363:: .blk gp (q5 s) 362::F)) 4 [0,1,2,3]
   refine Dv Z (i:=6) (vs:=[.string (ByteArray.mk #[103,114,111,117,112,115]),.slice jg ((aK s 2).length) c16]) rfl rfl rfl rfl rfl rfl de (hy 2 F [.blk g4 #[.string (ByteArray.mk #[103,114,111,117,112,115]),.func (.func 232) #[.agg s.cells] #[]] 362,.blk gv #[vS gp 7 7] 363,.blk gp (q5 s) 362] _ jg c16 hI om hc16 (Mem.Fb (es:=[.blk g4 #[.string (ByteArray.mk #[103,114,111,117,112,115]),.func (.func 232) #[.agg s.cells] #[]] 362,.blk gv #[vS gp 7 7] 363,.blk gp (q5 s) 362]) E)) zk ?_
   clear Z E;rintro v nZ a ⟨F2,E,hv,hI2⟩ Z;injection hv with hv;subst hv
   replace E:Mem W nZ (.blk g4 #[.string (ByteArray.mk #[103,114,111,117,112,115]),.func (.func 232) #[.agg s.cells] #[]] 362:: .blk gv #[vS gp 7 7] 363:: .blk gp (q5 s) 362::F2):=Mem.zI (es:=[.blk g4 #[.string (ByteArray.mk #[103,114,111,117,112,115]),.func (.func 232) #[.agg s.cells] #[]] 362,.blk gv #[vS gp 7 7] 363,.blk gp (q5 s) 362]) E
   replace Z:=Z.to [(17,.bool true),(7,vI 2),(6,vI 7),(5,vS gp 7 7),(0,.func (.yield lp) #[] #[])]
   refine Jb Z E ((Jp 1∘aQ∘Jq∘JF∘aG∘JR∘Jv 2 [(7,vI 3)]∘Jq) fun a Z E=>?_)
   exact ⟨_,om,3,F2,by omega,hI2,rfl,Z.sub kr,E.pt 3 [1,2]⟩
  ·
   replace Z:=Z.sp 7 (vI 3) rfl rfl
   refine Jb Z E ((JT∘aG∘JQ∘JB∘JP∘Jy (v:=vP gp 6) (h:=by exact Yl.indexAddr (ad:=⟨gp,0,none⟩) (y:=3) (sz:=2) rfl rfl rfl de kr)∘Jy (v:= .agg #[.string (ByteArray.mk #[99,108,111,99,107,115]),.func (.func 233) #[.agg s.cells] #[]]) (h:=by exact Yl.qf rfl rfl wZ rfl (fun _ h=>h.sub (i:=1) rfl 6 rfl))∘JA #[.string (ByteArray.mk #[]),.nilFunc]) fun w4 g4=>(JV wZ bg) fun tK=>(aT∘Jj) fun a Z E=>?_)
   refine wp_seq ?_
   refine IW 6 E (.blk g4 #[.string (ByteArray.mk #[99,108,111,99,107,115]),.func (.func 233) #[.agg s.cells] #[]] 362:: .blk gv #[vS gp 7 7] 363:: .blk gp (q5 s) 362::F) 3 [0,1,2] [] fun E HS=>?_
   refine ap Z (fun _=>HS) [0,1,3] (bf 6 [0,1,3]) [(14,vP g4 1),(12,vP g4 0),(11,.func (.yield lp) #[] #[])] fun a Z=>?_
   refine iJ Z HS 2 0 fun a Z=>?_
   refine iJ Z HS 4 0 fun a Z=>?_
   refine s_on Z 5 rfl ?_
   refine rA Z (f:=233) (vs:=[]) (fst:=[.agg s.cells]) (caps:=[]) rfl rfl rfl kr rfl de (qsy s hok hf _ (hx.old E)) ?_
   rintro _ w16 ⟨⟨jg,c16,rfl,ho,hc16⟩,hbw⟩
   refine ⟨_,rfl,?_⟩
   replace E:=E.bq hbw ho
   clear Z;intro a Z
   refine au (E.pt 4 [1,2,3]) (fun HS=>?_)
   refine qg kr ?_
   replace E:=E.pt (fs':=(.row (.slice jg ((aK s 3).length) c16) ((aK s 3).length) ((aK s 3).map aR) 41 1:: .blk g4 #[.string (ByteArray.mk #[99,108,111,99,107,115]),.func (.func 233) #[.agg s.cells] #[]] 362:: .blk gv #[vS gp 7 7] 363:: .blk gp (q5 s) 362::F)) 4 [0,1,2,3]
   refine Dv Z (i:=6) (vs:=[.string (ByteArray.mk #[99,108,111,99,107,115]),.slice jg ((aK s 3).length) c16]) rfl rfl rfl rfl rfl rfl de (hy 3 F [.blk g4 #[.string (ByteArray.mk #[99,108,111,99,107,115]),.func (.func 233) #[.agg s.cells] #[]] 362,.blk gv #[vS gp 7 7] 363,.blk gp (q5 s) 362] _ jg c16 hI om hc16 (Mem.Fb (es:=[.blk g4 #[.string (ByteArray.mk #[99,108,111,99,107,115]),.func (.func 233) #[.agg s.cells] #[]] 362,.blk gv #[vS gp 7 7] 363,.blk gp (q5 s) 362]) E)) zk ?_
   clear Z E;rintro v nZ a ⟨F2,E,hv,hI2⟩ Z;injection hv with hv;subst hv
   replace E:Mem W nZ (.blk g4 #[.string (ByteArray.mk #[99,108,111,99,107,115]),.func (.func 233) #[.agg s.cells] #[]] 362:: .blk gv #[vS gp 7 7] 363:: .blk gp (q5 s) 362::F2):=Mem.zI (es:=[.blk g4 #[.string (ByteArray.mk #[99,108,111,99,107,115]),.func (.func 233) #[.agg s.cells] #[]] 362,.blk gv #[vS gp 7 7] 363,.blk gp (q5 s) 362]) E
   replace Z:=Z.to [(17,.bool true),(7,vI 3),(6,vI 7),(5,vS gp 7 7),(0,.func (.yield lp) #[] #[])]
   refine Jb Z E ((Jp 1∘aQ∘Jq∘JF∘aG∘JR∘Jv 2 [(7,vI 4)]∘Jq) fun a Z E=>?_)
   exact ⟨_,om,4,F2,by omega,hI2,rfl,Z.sub kr,E.pt 3 [1,2]⟩
  ·
   replace Z:=Z.sp 7 (vI 4) rfl rfl
   refine Jb Z E ((JT∘aG∘JQ∘JB∘JP∘Jy (v:=vP gp 8) (h:=by exact Yl.indexAddr (ad:=⟨gp,0,none⟩) (y:=4) (sz:=2) rfl rfl rfl de kr)∘Jy (v:= .agg #[.string (ByteArray.mk #[99,117,114,114,101,110,116]),.func (.func 234) #[.agg s.cells] #[]]) (h:=by exact Yl.qf rfl rfl wZ rfl (fun _ h=>h.sub (i:=1) rfl 8 rfl))∘JA #[.string (ByteArray.mk #[]),.nilFunc]) fun w4 g4=>(JV wZ bg) fun tK=>(aT∘Jj) fun a Z E=>?_)
   refine wp_seq ?_
   refine IW 6 E (.blk g4 #[.string (ByteArray.mk #[99,117,114,114,101,110,116]),.func (.func 234) #[.agg s.cells] #[]] 362:: .blk gv #[vS gp 7 7] 363:: .blk gp (q5 s) 362::F) 3 [0,1,2] [] fun E HS=>?_
   refine ap Z (fun _=>HS) [0,1,3] (bf 6 [0,1,3]) [(14,vP g4 1),(12,vP g4 0),(11,.func (.yield lp) #[] #[])] fun a Z=>?_
   refine iJ Z HS 2 0 fun a Z=>?_
   refine iJ Z HS 4 0 fun a Z=>?_
   refine s_on Z 5 rfl ?_
   refine rA Z (f:=234) (vs:=[]) (fst:=[.agg s.cells]) (caps:=[]) rfl rfl rfl kr rfl de (qqi s hok hf _ (hx.old E)) ?_
   rintro _ w16 ⟨⟨jg,c16,rfl,ho,hc16⟩,hbw⟩
   refine ⟨_,rfl,?_⟩
   replace E:=E.bq hbw ho
   clear Z;intro a Z
   refine au (E.pt 4 [1,2,3]) (fun HS=>?_)
   refine qg kr ?_
   replace E:=E.pt (fs':=(.row (.slice jg ((aK s 4).length) c16) ((aK s 4).length) ((aK s 4).map aR) 41 1:: .blk g4 #[.string (ByteArray.mk #[99,117,114,114,101,110,116]),.func (.func 234) #[.agg s.cells] #[]] 362:: .blk gv #[vS gp 7 7] 363:: .blk gp (q5 s) 362::F)) 4 [0,1,2,3]
   refine Dv Z (i:=6) (vs:=[.string (ByteArray.mk #[99,117,114,114,101,110,116]),.slice jg ((aK s 4).length) c16]) rfl rfl rfl rfl rfl rfl de (hy 4 F [.blk g4 #[.string (ByteArray.mk #[99,117,114,114,101,110,116]),.func (.func 234) #[.agg s.cells] #[]] 362,.blk gv #[vS gp 7 7] 363,.blk gp (q5 s) 362] _ jg c16 hI om hc16 (Mem.Fb (es:=[.blk g4 #[.string (ByteArray.mk #[99,117,114,114,101,110,116]),.func (.func 234) #[.agg s.cells] #[]] 362,.blk gv #[vS gp 7 7] 363,.blk gp (q5 s) 362]) E)) zk ?_
   clear Z E;rintro v nZ a ⟨F2,E,hv,hI2⟩ Z;injection hv with hv;subst hv
   replace E:Mem W nZ (.blk g4 #[.string (ByteArray.mk #[99,117,114,114,101,110,116]),.func (.func 234) #[.agg s.cells] #[]] 362:: .blk gv #[vS gp 7 7] 363:: .blk gp (q5 s) 362::F2):=Mem.zI (es:=[.blk g4 #[.string (ByteArray.mk #[99,117,114,114,101,110,116]),.func (.func 234) #[.agg s.cells] #[]] 362,.blk gv #[vS gp 7 7] 363,.blk gp (q5 s) 362]) E
   replace Z:=Z.to [(17,.bool true),(7,vI 4),(6,vI 7),(5,vS gp 7 7),(0,.func (.yield lp) #[] #[])]
   refine Jb Z E ((Jp 1∘aQ∘Jq∘JF∘aG∘JR∘Jv 2 [(7,vI 5)]∘Jq) fun a Z E=>?_)
   exact ⟨_,om,5,F2,by omega,hI2,rfl,Z.sub kr,E.pt 3 [1,2]⟩
  ·
   replace Z:=Z.sp 7 (vI 5) rfl rfl
   refine Jb Z E ((JT∘aG∘JQ∘JB∘JP∘Jy (v:=vP gp 10) (h:=by exact Yl.indexAddr (ad:=⟨gp,0,none⟩) (y:=5) (sz:=2) rfl rfl rfl de kr)∘Jy (v:= .agg #[.string (ByteArray.mk #[116,97,115,107,115]),.func (.func 235) #[.agg s.cells] #[]]) (h:=by exact Yl.qf rfl rfl wZ rfl (fun _ h=>h.sub (i:=1) rfl 10 rfl))∘JA #[.string (ByteArray.mk #[]),.nilFunc]) fun w4 g4=>(JV wZ bg) fun tK=>(aT∘Jj) fun a Z E=>?_)
   refine wp_seq ?_
   refine IW 6 E (.blk g4 #[.string (ByteArray.mk #[116,97,115,107,115]),.func (.func 235) #[.agg s.cells] #[]] 362:: .blk gv #[vS gp 7 7] 363:: .blk gp (q5 s) 362::F) 3 [0,1,2] [] fun E HS=>?_
   refine ap Z (fun _=>HS) [0,1,3] (bf 6 [0,1,3]) [(14,vP g4 1),(12,vP g4 0),(11,.func (.yield lp) #[] #[])] fun a Z=>?_
   refine iJ Z HS 2 0 fun a Z=>?_
   refine iJ Z HS 4 0 fun a Z=>?_
   refine s_on Z 5 rfl ?_
   refine rA Z (f:=235) (vs:=[]) (fst:=[.agg s.cells]) (caps:=[]) rfl rfl rfl kr rfl de (qxi s hok hf _ (hx.old E) hc hsh) ?_
   rintro _ w16 ⟨⟨jg,c16,rfl,ho,hc16⟩,hbw⟩
   refine ⟨_,rfl,?_⟩
   replace E:=E.bq hbw ho
   clear Z;intro a Z
   refine au (E.pt 4 [1,2,3]) (fun HS=>?_)
   refine qg kr ?_
   replace E:=E.pt (fs':=(.row (.slice jg ((aK s 5).length) c16) ((aK s 5).length) ((aK s 5).map aR) 41 1:: .blk g4 #[.string (ByteArray.mk #[116,97,115,107,115]),.func (.func 235) #[.agg s.cells] #[]] 362:: .blk gv #[vS gp 7 7] 363:: .blk gp (q5 s) 362::F)) 4 [0,1,2,3]
   refine Dv Z (i:=6) (vs:=[.string (ByteArray.mk #[116,97,115,107,115]),.slice jg ((aK s 5).length) c16]) rfl rfl rfl rfl rfl rfl de (hy 5 F [.blk g4 #[.string (ByteArray.mk #[116,97,115,107,115]),.func (.func 235) #[.agg s.cells] #[]] 362,.blk gv #[vS gp 7 7] 363,.blk gp (q5 s) 362] _ jg c16 hI om hc16 (Mem.Fb (es:=[.blk g4 #[.string (ByteArray.mk #[116,97,115,107,115]),.func (.func 235) #[.agg s.cells] #[]] 362,.blk gv #[vS gp 7 7] 363,.blk gp (q5 s) 362]) E)) zk ?_
   clear Z E;rintro v nZ a ⟨F2,E,hv,hI2⟩ Z;injection hv with hv;subst hv
   replace E:Mem W nZ (.blk g4 #[.string (ByteArray.mk #[116,97,115,107,115]),.func (.func 235) #[.agg s.cells] #[]] 362:: .blk gv #[vS gp 7 7] 363:: .blk gp (q5 s) 362::F2):=Mem.zI (es:=[.blk g4 #[.string (ByteArray.mk #[116,97,115,107,115]),.func (.func 235) #[.agg s.cells] #[]] 362,.blk gv #[vS gp 7 7] 363,.blk gp (q5 s) 362]) E
   replace Z:=Z.to [(17,.bool true),(7,vI 5),(6,vI 7),(5,vS gp 7 7),(0,.func (.yield lp) #[] #[])]
   refine Jb Z E ((Jp 1∘aQ∘Jq∘JF∘aG∘JR∘Jv 2 [(7,vI 6)]∘Jq) fun a Z E=>?_)
   exact ⟨_,om,6,F2,by omega,hI2,rfl,Z.sub kr,E.pt 3 [1,2]⟩
  ·
   replace Z:=Z.sp 7 (vI 6) rfl rfl
   refine Jb Z E ((JT∘aG∘JQ∘JB∘JP∘Jy (v:=vP gp 12) (h:=by exact Yl.indexAddr (ad:=⟨gp,0,none⟩) (y:=6) (sz:=2) rfl rfl rfl de kr)∘Jy (v:= .agg #[.string (ByteArray.mk #[115,112,111,116,115]),.func (.func 236) #[.agg s.cells] #[]]) (h:=by exact Yl.qf rfl rfl wZ rfl (fun _ h=>h.sub (i:=1) rfl 12 rfl))∘JA #[.string (ByteArray.mk #[]),.nilFunc]) fun w4 g4=>(JV wZ bg) fun tK=>(aT∘Jj) fun a Z E=>?_)
   refine wp_seq ?_
   refine IW 6 E (.blk g4 #[.string (ByteArray.mk #[115,112,111,116,115]),.func (.func 236) #[.agg s.cells] #[]] 362:: .blk gv #[vS gp 7 7] 363:: .blk gp (q5 s) 362::F) 3 [0,1,2] [] fun E HS=>?_
   refine ap Z (fun _=>HS) [0,1,3] (bf 6 [0,1,3]) [(14,vP g4 1),(12,vP g4 0),(11,.func (.yield lp) #[] #[])] fun a Z=>?_
   refine iJ Z HS 2 0 fun a Z=>?_
   refine iJ Z HS 4 0 fun a Z=>?_
   refine s_on Z 5 rfl ?_
   refine rA Z (f:=236) (vs:=[]) (fst:=[.agg s.cells]) (caps:=[]) rfl rfl rfl kr rfl de (qxj s hok hf _ (hx.old E) hc hsh) ?_
   rintro _ w16 ⟨⟨jg,c16,rfl,ho,hc16⟩,hbw⟩
   refine ⟨_,rfl,?_⟩
   replace E:=E.bq hbw ho
   clear Z;intro a Z
   refine au (E.pt 4 [1,2,3]) (fun HS=>?_)
   refine qg kr ?_
   replace E:=E.pt (fs':=(.row (.slice jg ((aK s 6).length) c16) ((aK s 6).length) ((aK s 6).map aR) 41 1:: .blk g4 #[.string (ByteArray.mk #[115,112,111,116,115]),.func (.func 236) #[.agg s.cells] #[]] 362:: .blk gv #[vS gp 7 7] 363:: .blk gp (q5 s) 362::F)) 4 [0,1,2,3]
   refine Dv Z (i:=6) (vs:=[.string (ByteArray.mk #[115,112,111,116,115]),.slice jg ((aK s 6).length) c16]) rfl rfl rfl rfl rfl rfl de (hy 6 F [.blk g4 #[.string (ByteArray.mk #[115,112,111,116,115]),.func (.func 236) #[.agg s.cells] #[]] 362,.blk gv #[vS gp 7 7] 363,.blk gp (q5 s) 362] _ jg c16 hI om hc16 (Mem.Fb (es:=[.blk g4 #[.string (ByteArray.mk #[115,112,111,116,115]),.func (.func 236) #[.agg s.cells] #[]] 362,.blk gv #[vS gp 7 7] 363,.blk gp (q5 s) 362]) E)) zk ?_
   clear Z E;rintro v nZ a ⟨F2,E,hv,hI2⟩ Z;injection hv with hv;subst hv
   replace E:Mem W nZ (.blk g4 #[.string (ByteArray.mk #[115,112,111,116,115]),.func (.func 236) #[.agg s.cells] #[]] 362:: .blk gv #[vS gp 7 7] 363:: .blk gp (q5 s) 362::F2):=Mem.zI (es:=[.blk g4 #[.string (ByteArray.mk #[115,112,111,116,115]),.func (.func 236) #[.agg s.cells] #[]] 362,.blk gv #[vS gp 7 7] 363,.blk gp (q5 s) 362]) E
   replace Z:=Z.to [(17,.bool true),(7,vI 6),(6,vI 7),(5,vS gp 7 7),(0,.func (.yield lp) #[] #[])]
   refine Jb Z E ((Jp 1∘aQ∘Jq∘JF∘aG∘JR∘Jv 2 [(7,vI 7)]∘Jq) fun a Z E=>?_)
   exact ⟨_,om,7,F2,by omega,hI2,rfl,Z.sub kr,E.pt 3 [1,2]⟩
 intro a Z E
 have pQ:=of_decide_eq_false kP
 refine Jb Z E ((JF∘JX) ?_)
 repeat (first|clear Z|clear E)
 intro a Z E
 obtain rfl:k=7:=by omega
 exact nA rfl Z ⟨_,rfl,F,Mem.SG [.blk gv #[vS gp 7 7] 363,.blk gp (q5 s) 362] E,hI⟩
theorem ql2:∀(k:Nat) (l xs:List Nat) (u x m:Nat),aY k l=(xs,u,0)→aA (l.drop u)=(x,m,0)→aY (k+1) l=(xs++[x],u+m,0)
 |0,l,xs,u,x,m,h,h2=>by
  simp only [aY,Prod.mk.injEq] at h
  obtain ⟨rfl,rfl,_⟩:=h
  rw [List.drop_zero] at h2
  simp [aY,h2]
 | k + 1, l, xs, u, x, m, h, h2 => by
  rw [aY] at h
  split at h
  ·rename_i h1;simp at h;exact absurd h.2.2 h1
  ·rename_i h1
   split at h
   ·rename_i h3;simp at h;exact absurd h.2.2 h3
   ·rename_i h3
    simp only [Prod.mk.injEq] at h
    obtain ⟨rfl,rfl,_⟩:=h
    have hq:aY k (l.drop (aA l).2.1)=((aY k (l.drop (aA l).2.1)).1,(aY k (l.drop (aA l).2.1)).2.1,0):=by
     rw [←show (aY k (l.drop (aA l).2.1)).2.2=0 by omega]
    have h4:=ql2 k _ _ _ x m hq (by rwa [List.drop_drop])
    rw [aY,if_neg h1,h4,if_neg (by simp)]
    simp [Nat.add_assoc]
theorem qsj:∀(k j:Nat) (l xs:List Nat) (u:Nat),aY k l=(xs,u,0)→(aA (l.drop u)).2.2≠0→(aY (k+1+j) l).2.2≠0:=by intro x;induction x<;>grind [aY,aA,List.drop_drop,Prod.mk.injEq]
theorem q6s:∀(k:Nat) (l xs:List Nat) (u:Nat),aY k l=(xs,u,0)→xs.length=k∧k≤u∧u≤l.length:=by intro x;induction x<;>grind [aY,aA,ER,qon]
theorem CK:SI Tryz.prog 73 11:=⟨by kernel_rfl,by kernel_rfl⟩
section
variable {e:Ev} {vs:List Nat}
end
def zdi (w:World) (er:Nat) (R:List Nat) (r:Ending) (w':World):Prop:=
 (∃A c,r= .returned (.tuple #[.slice A R.length c,.int .i64 (er:Int)])∧w'.ownsRow w.heap.size 41 1 (.slice A R.length c) R.length (R.map aR)∧R.length≤c)∧Below w.heap.size w w'
section
variable {b:Bs} {e:Ev} {w w':World} {v:Bool}
theorem SL (hb:Below w.heap.size w w') (h:v=true↔(1≤b.seq∧b.seq≤281474976710656∧0≤b.time∧b.time≤281474976710656)):Is w (.bool b.right) (.returned (.bool v)) w':=by
 refine ⟨?_,hb⟩
 unfold Bs.right
 rw [show v=decide _ from (Bool.eq_iff_iff.2 (h.trans decide_eq_true_iff.symm))]
theorem qk6 (hb:Below w.heap.size w w') (h:v=true↔(b.seq≤e.seq∧b.time≤e.time)):Is w (.bool (b.behind e)) (.returned (.bool v)) w':=by
 refine ⟨?_,hb⟩
 unfold Bs.behind
 rw [show v=decide _ from (Bool.eq_iff_iff.2 (h.trans decide_eq_true_iff.symm))]
end
theorem q5m (e:Ev) (he:e.Ok) (B:Nat) (w:World) (hL:Laid B w) (hB:B≤w.heap.size) {er:Nat} {R:List Nat} (h1:e.check=er) (h2:e.zb=R):Calls Tryz.prog 286 #[.agg e.cells] w (zdi w er R):=by
 subst h1 h2
 refine (qwi e he B w hL hB).mono fun r w' ⟨⟨v,h,ho⟩,hb⟩=>?_
 obtain ⟨A,c,rfl,hc⟩:=EY ho
 exact ⟨⟨A,c,h,ho,hc⟩,hb⟩
theorem qzp (e:Ev) (he:e.Ok) (B:Nat) (w:World) (hL:Laid B w) (hB:B≤w.heap.size):Calls Tryz.prog 243 #[.agg e.cells] w (Is w (.int .i64 (e.check:Int))):=qol e he B w hL hB
theorem q5n (e:Ev):e.zb.length≤4:=by grind [Ev.zb,Ev.vals,Mw]
theorem zac {b:Bs} {e:Ev} {er:Nat} (h:e.check=er) (h0:er≠0):q9 b e=er∧pI b e=[]:=by grind [q9,pI]
theorem qt1 {b:Bs} {e:Ev} (h:e.check=0) (h2:¬(b.right=true∧b.behind e=true)):q9 b e=70∧pI b e=[]:=by grind [q9,pI]
theorem zad {b:Bs} {e:Ev} (h:e.check=0) (h1:b.right=true) (h2:b.behind e=true):q9 b e=0∧pI b e=zi b e:=by grind [q9,pI]
theorem Nb {w w':World} {er uJ:Nat} {R:List Nat} {n:Int} (h:er=uJ∧R=[]) (hn:n=uJ) (hb:Below w.heap.size w w'):qx w er R (.returned (.tuple #[.slice none 0 0,.int .i64 n])) w':=by
 obtain ⟨rfl,rfl⟩:=h
 subst hn
 exact ⟨⟨none,0,rfl,World.ownsRow_nil _ _ _ _,Nat.le_refl _⟩,hb⟩
theorem qjl {w w':World} {er:Nat} {R L:List Nat} {A:Option Addr} {c:Nat} (h:er=0∧R=L) (ho:w'.ownsRow w.heap.size 5 1 (.slice A L.length c) L.length (L.map B8)) (hc:L.length≤c) (hb:Below w.heap.size w w'):qx w er R (.returned (.tuple #[.slice A L.length c,.int .i64 0])) w':=by
 obtain ⟨rfl,rfl⟩:=h
 exact ⟨⟨A,c,rfl,ho,hc⟩,hb⟩
theorem q5o (l:List Nat):∀u∈l.map aR,u.oneCell'=true:=by
 intro u hu
 obtain ⟨x,_,rfl⟩:=List.mem_map.1 hu
 rfl
theorem qo2 {x:Int} {n:Nat} (h:0≤x∧x<9223372036854775808) (hn:x.toNat=n):Value.int .u64 (IntKind.u64.wrap x)= .int .u64 (n:Int):=by rw [IntKind.wrap_u64];congr 1;omega
theorem q5p {b:Bs} {e:Ev} {vs:List Nat} (he:e.Ok) (h:e.check=0) (hv:e.zb=vs) (h1:b.right=true) (h2:b.behind e=true):(0≤e.seq-b.seq∧e.seq-b.seq<9223372036854775808)∧(0≤e.time-b.time∧e.time-b.time<9223372036854775808)∧(∀x∈(e.seq-b.seq).toNat::(e.time-b.time).toNat::vs,x<18446744073709551616)∧zi b e=[e.kind]++((e.seq-b.seq).toNat::(e.time-b.time).toNat::vs).flatMap aj:=by
 have h3:=EP h
 have h4:=of_decide_eq_true h1
 have h5:=of_decide_eq_true h2
 have:=he.seq.2
 have:=he.time.2
 refine ⟨by omega,by omega,fun x hx=>?_,?_⟩
 ·rcases List.mem_cons.1 hx with rfl|hx
  ·omega
  rcases List.mem_cons.1 hx with rfl|hx
  ·omega
  rw [←hv] at hx
  unfold Ev.zb at hx
  rw [if_pos h] at hx
  obtain ⟨i,hi,rfl⟩:=List.mem_map.1 hx
  have k:=U4 he h hi
  unfold Ev.num at k
  rw [IntKind.wrap_u64] at k
  omega
 ·unfold zi Df
  rw [←hv]
  unfold Ev.zb
  rw [if_pos h]
  rfl
theorem zae {b:Bs} {e:Ev} {x:Nat} {bb ns:List Nat} {A:Prop} {B:Prop} {C:Prop} (h:e.check=x) (h0:x=0) (hb:b.right=true∧b.behind e=true) (hp:A∧B∧C∧zi b e=[e.kind]++ns.flatMap aj) (hbb:ns.flatMap aj=bb):q9 b e=0∧pI b e=e.kind::bb:=by grind [zad]
theorem qt2 {w:World} {A:Option Addr} {c:Nat} {ns bb:List Nat} (hr:Rd w w.heap.size 1 A ns.length (ns.map aR)) (hv:∀x∈ns,x<18446744073709551616) (hl:ns.length≤6) (hbb:ns.flatMap aj=bb):Calls Tryz.prog 49 #[.slice A ns.length c] w (zz w bb):=by
 subst hbb
 exact SK A ns.length c _ w hr hv om
theorem zaf {l:List Ev} {p:Option Ev} {k:Nat} (hk:k=l.length):fI p k (l.drop k)=(-1,0):=by
 rw [List.drop_eq_nil_of_le om]
 rfl
theorem row_step {l:List Ev} {p:Option Ev} {k:Nat} {e:Ev} (hk:k<l.length) (he:l.getD k Ev.zero=e):fI p k (l.drop k)=if e.check≠0 then ((k:Int),e.check) else if p.all (fun q=>e.after q)=false then ((k:Int),71) else fI (some e) (k+1) (l.drop (k+1)):=by grind [fI,List.drop_eq_getElem_cons,List.getElem?_eq_getElem]
def kK (l:List Ev) (k:Nat):Option Ev:=if k=0 then none else some (l.getD (k-1) Ev.zero)
theorem q5q {l:List Ev} {k:Nat} {e:Ev} (he:l.getD k Ev.zero=e):kK l (k+1)=some e:=by grind [kK]
theorem q5r {l:List Ev} {k:Nat} {e q:Ev} (h0:0<k) (hq:l.getD (k-1) Ev.zero=q) (h:¬(e.cpu=q.cpu∧q.seq<e.seq∧q.time≤e.time)):(kK l k).all (fun q=>e.after q)=false:=by
 unfold kK;rw [if_neg om,hq];exact decide_eq_false h
theorem qzq {l:List Ev} {k:Nat} {e q:Ev} (hq:l.getD (k-1) Ev.zero=q) (h:k=0∨(e.cpu=q.cpu∧q.seq<e.seq∧q.time≤e.time)):(kK l k).all (fun q=>e.after q)=true:=by
 unfold kK
 by_cases hk:k=0
 ·rw [if_pos hk];rfl
 ·rw [if_neg hk,hq];exact decide_eq_true (h.resolve_left hk)
theorem SN {l:List Ev} {k:Nat} {e q:Ev} {v:Bool} (hq:l.getD (k-1) Ev.zero=q) (h:v=true↔¬(k=0∨(e.cpu=q.cpu∧q.seq<e.seq∧q.time≤e.time))):Value.bool v= .bool (!(kK l k).all fun q=>e.after q):=by grind [q5r,qzq]
theorem Wh {k:Nat} (h:0<k) (hk:k≤140737488355328):Value.int .i64 (IntKind.i64.wrap ((k:Int)-1))= .int .i64 ((k-1:Nat):Int):=by rw [IntKind.wrap_i64];congr 1;omega
theorem Wi {w w':World} {R:Int×Nat} {v n:Int} {m:Nat} (h:R=(v,m)) (hn:n=(m:Int)) (hb:Below w.heap.size w w'):Is w (.tuple #[.int .i64 R.1,.int .i64 (R.2:Int)]) (.returned (.tuple #[.int .i64 v,.int .i64 n])) w':=by
 subst h hn
 exact ⟨rfl,hb⟩
theorem Hq {b:Bs} {l:List Ev} {v:Bool} (h:v=true↔¬(b.right=true∧(0<l.length→b.behind (l.getD 0 Ev.zero)=true))):Value.bool v= .bool (!(b.right&&l.head?.all b.behind)):=by
 have e:l.head?.all b.behind=true↔(0<l.length→b.behind (l.getD 0 Ev.zero)=true):=by
  cases l with
  |nil=>exact ⟨fun _ h=>absurd h (Nat.lt_irrefl 0),fun _=>rfl⟩
  |cons x r=>exact ⟨fun h _=>h,fun h=>h (Nat.succ_pos _)⟩
 rw [←e,←Bool.and_eq_true] at h
 by_cases hk:(b.right&&l.head?.all b.behind)=true
 ·rw [hk,show v=false from (Bool.not_eq_true _).mp fun hv=>h.1 hv hk];rfl
 ·rw [(Bool.not_eq_true _).mp hk,h.2 hk];rfl
theorem qwr {b:Bs} {l:List Ev} {ri:Int} {re:Nat} (h:eu l=(ri,re)) (h0:re≠0):q8 b l=re∧zu b l=[]:=by grind [q8,zu]
theorem qru {b:Bs} {l:List Ev} {ri:Int} {re:Nat} (h:eu l=(ri,re)) (h0:re=0) (h1:¬(b.right&&l.head?.all b.behind)=true):q8 b l=70∧zu b l=[]:=by grind [q8,zu]
theorem qws {b:Bs} {l:List Ev} {ri:Int} {re k:Nat} {pre:List Nat} {bk:Bs} (h:eu l=(ri,re)) (h0:re=0) (h1:(b.right&&l.head?.all b.behind)=true) (hr:recs b l=pre++recs bk (l.drop k)) (hk:l.length≤k):q8 b l=0∧zu b l=pre:=by
 rw [Bool.and_eq_true] at h1
 have e:q8 b l=0:=by unfold q8;rw [h,if_neg om,if_pos h1]
 exact ⟨e,by unfold zu;rw [if_pos e,hr,List.drop_eq_nil_of_le hk];exact List.append_nil pre⟩
theorem qzr {b bk:Bs} {l:List Ev} {ri:Int} {re k:Nat} {e:Ev} (h:eu l=(ri,re)) (h0:re=0) (h1:(b.right&&l.head?.all b.behind)=true) (hk:k<l.length) (hb:bk=GY b l k) (he:l.getD k Ev.zero=e):q9 bk e=0∧recs bk (l.drop k)=zi bk e++recs e.at (l.drop (k+1))∧e.at=GY b l (k+1)∧(zi bk e).length≤61:=by
 rw [Bool.and_eq_true] at h1
 have e1:l[k]=e:=by rw [←he,List.getD_eq_getElem?_getD,List.getElem?_eq_getElem hk];rfl
 have p:=qtw (by rw [h];exact h0) h1.1 h1.2 k hk
 rw [←hb,e1] at p
 refine ⟨p,by rw [List.drop_eq_getElem_cons hk,recs,e1],?_,Vk _ _⟩
 show _=(match l[k]? with|some e=>e.at|none=>b)
 rw [List.getElem?_eq_getElem hk,e1]
theorem zdj (e:Ev) (w:World):Calls Tryz.prog 275 #[.agg e.cells] w (Is w (.agg e.at.cells)):=by
 refine (bZ Tryz.func275 8) ?_
 refine (JP∘JE) fun w1 g1=>(JA #[vI 0,vI 0]) fun w2 g2=>(Jr∘Jg 0 O1∘Jg 1 O1∘Jy (v:= .agg #[vI e.seq,vI e.time]) (h:=by exact Yl.build (vs:=[(0,vI e.seq),(1,vI e.time)]) rfl kr kr)∘JV nk bg) fun Ht=>(Dr∘Jj∘JZ) fun a Z E=>?_
 exact nN rfl Z (.cellS (i:=0) Z E rfl rfl nk rfl) (⟨rfl,E.below⟩)
theorem qo3 (b:Bs) (w:World):Calls Tryz.prog 273 #[.agg b.cells] w (Is w (.bool b.right)):=by
 refine (bZ Tryz.func273 21) ?_
 refine (JP∘JE) fun w1 g1=>(Jp 1∘Jr∘Jg 0 O0∘Jp 2) (Ji (fun hd6=>?_) fun hd6=>?_)
 ·
  refine (Jg 0 O0∘Jp 3) (Ji (fun gI=>?_) fun gI=>?_)
  ·
   refine (Jg 1 O0∘Jp 3) (Ji (fun kL=>?_) fun kL=>?_)
   ·
    exact (Jg 1 O0∘Jp 3∘aF∘Jj∘JZ∘aH) fun E=>SL E.below (by simp;omega)
   exact (Jp 5∘aF∘Jj∘JZ∘aH) fun E=>SL E.below (by simp;omega)
  exact (Jv 10 [(2,.bool false)]∘aF∘Jj∘JZ∘aH) fun E=>SL E.below (by simp;omega)
 exact (Jv 15 [(2,.bool false)]∘bQ∘Jj∘JZ∘aH) fun E=>SL E.below (by simp;omega)
theorem qk7 (b:Bs) (e:Ev) (w:World):Calls Tryz.prog 274 #[.agg b.cells,.agg e.cells] w (Is w (.bool (b.behind e))):=by
 refine (jw Tryz.func274 17) ?_
 refine (JP∘JE) fun w2 g2=>(JE) fun w3 g3=>(Jp 1∘Jr∘Jg 0 O0∘Jg 0 O1∘Jp 2) (Ji (fun fM=>?_) fun fM=>?_)
 ·
  exact (Jg 1 O0∘Jg 1 O1∘Jp 3∘aF∘Jj∘JZ∘aH) fun E=>qk6 E.below (by simp;omega)
 exact (Jp 7∘aF∘Jj∘JZ∘aH) fun E=>qk6 E.below (by simp;omega)
theorem q5s (b:Bs) (e:Ev) (he:e.Ok) (B:Nat) (w:World) (hL:Laid B w) (hB:B≤w.heap.size):Calls Tryz.prog 244 #[.agg b.cells,.agg e.cells] w (qx w (q9 b e) (pI b e)):=by
 refine (jw Tryz.func244 47) ?_
 refine (JP∘JE) fun w2 g2=>(JE) fun w3 g3=>(Jp 2∘Jq) fun a Z E=>?_
 obtain ⟨er,hck⟩:∃er,e.check=er:=⟨_,rfl⟩
 obtain ⟨vs,hvs⟩:∃vs,e.zb=vs:=⟨_,rfl⟩
 have hvl:vs.length≤4:=by rw [←hvs];exact q5n e
 refine Jb Z E ((JG∘JP∘Jy (v:= .agg e.cells) (h:=by exact Yl.qf rfl rfl CK rfl (fun _ h=>qb (h.blk (i:=0) rfl)))∘JK (h:=by exact fun E=>q5m e he B _ (hL.mem E hB) (E.le hB) hck hvs)) fun Av cv wN hcv=>(Jp 1∘Jx∘Jx∘Jp 2∘Jj∘JQ∘JP∘Jp 2∘aQ∘Jj) (Jh (fun kM=>?_) fun kM=>?_))
 ·
  exact (JT∘JP∘Jp 3∘Jj∘JZ∘bW) fun E=>Nb (zac hck om) rfl E.below
 refine (JF∘aG∘JQ∘JP∘Jy (v:= .agg b.cells) (h:=by exact Yl.qf rfl rfl nk rfl (fun _ h=>qb (h.blk (i:=2) rfl)))∘JI (h:=by exact fun E=>qo3 b _)) fun K5 hbw=>(Jp 2) (Ju (fun fB=>?_) fun fB=>?_)
 ·
  exact (Jp 5∘aF∘Jj∘JT∘JP∘Jp 2∘Jj∘JZ∘bW) fun E=>Nb (qt1 om (by simp_all)) rfl E.below
 refine (Jy (v:= .agg b.cells) (h:=by exact Yl.qf rfl rfl nk rfl (fun _ h=>qb (h.blk (i:=2) rfl)))∘Jy (v:= .agg e.cells) (h:=by exact Yl.qf rfl rfl CK rfl (fun _ h=>qb (h.blk (i:=1) rfl)))∘JI (h:=by exact fun E=>qk7 b e _)) fun K6 hbw=>(Jp 2∘aF∘Jj) (Ju (fun je=>?_) fun je=>?_)
 ·
  exact (JT∘JP∘Jp 2∘Jj∘JZ∘bW) fun E=>Nb (qt1 om (by simp_all)) rfl E.below
 intro a Z E
 have hbb:b.right=true∧b.behind e=true:=by simp_all
 have hpn:=q5p he om hvs hbb.1 hbb.2
 obtain ⟨x0,hx0⟩:∃x,(e.seq-b.seq).toNat=x:=⟨_,rfl⟩
 obtain ⟨x1,hx1⟩:∃x,(e.time-b.time).toNat=x:=⟨_,rfl⟩
 rw [hx0,hx1] at hpn
 obtain ⟨bb,hbe⟩:∃bb,(x0::x1::vs).flatMap aj=bb:=⟨_,rfl⟩
 have hbl:bb.length≤60:=by rw [←hbe];have:=q6 (x0::x1::vs);simp only [List.length_cons] at this;omega
 refine Jb Z E ((JF∘aG∘JP∘Jg 0 O1∘Jg 0 O2∘Jp 1∘Jo (vI (e.seq-b.seq)) (by exact Dp ⟨by omega,by omega⟩)∘Jv 1 [(31,vQ (IntKind.u64.wrap (e.seq-b.seq)))]∘Jo (vQ x0) (by exact qo2 hpn.1 hx0)∘Jg 1 O1∘Jg 1 O2∘Jp 1∘Jo (vI (e.time-b.time)) (by exact Dp ⟨by omega,by omega⟩)∘Jv 1 [(37,vQ (IntKind.u64.wrap (e.time-b.time)))]∘Jo (vQ x1) (by exact qo2 hpn.2.1 hx1)∘JU qt #[vQ x0,vQ x1]) fun Wj g38=>(Jp 1) fun a Z E=>?_)
 refine fo Z 14 rfl rfl ?_
 replace E:=E.dJ (i:=0) (n:=2) (size:=1) rfl rfl de
 refine qz Z E (i:=0) rfl qt rfl rfl rfl (news:=(vs.map aR)) (E.rd (i:=1) rfl) (q5o _) om om rfl de ?_
 clear Z E;intro a Wm SQ c40 Z E Nc
 refine Jb Z E ((Jp 1∘aF∘Jq) fun a Z E=>?_)
 have zK:(2+vs.length)=(x0::x1::vs).length:=Nat.add_comm 2 _
 replace E:=E.aI (i:=0) (ys:=(x0::x1::vs).map aR) rfl zK (rfl)
 rw [zK] at Nc
 replace Z:=Z.sp 8 (.slice SQ ((x0::x1::vs).length) c40) rfl (by rw [zK])
 refine zn (fun aS wS=>∃(Hu:Nat) (Ab:Option Addr) (cb:Nat) (xV:Option Addr) (c46:Nat),Fr aS 47 [] [(46,.slice xV ((e.kind::bb).length) c46),(4,.slice xV ((e.kind::bb).length) c46),(5,vI 0),(25,.bool false),(15,.bool false),(7,vI er),(3,vP g3 0),(2,vP g2 0)]∧Mem w wS [.row (.slice Ab bb.length cb) bb.length (bb.map B8) 5 1,.row (.slice xV ((e.kind::bb).length) c46) ((e.kind::bb).length) ((e.kind::bb).map B8) 5 1,.row (.slice SQ ((x0::x1::vs).length) c40) ((x0::x1::vs).length) ((x0::x1::vs).map aR) 41 1,.row (.slice Av vs.length cv) vs.length (vs.map aR) 41 1,.blk g3 e.cells 73,.blk g2 b.cells 110]∧(bb.length≤cb)∧((e.kind::bb).length≤c46)) ?_ ?_
 ·
  refine Jb Z E ((Vs .n []) fun SS=>(Vf 0 3∘Vp [3]∘Vc 1 O2) fun a Z E HS=>?_)
  refine zc [2,4] kr rfl ?_
  refine all_cons ?_ ?_
  ·refine qq Z (i:=2) rfl rfl ?_
   refine lT Z E aL [(0,vB e.kind)] #[vB e.kind] ?_
   clear Z E;intro a Hw Hu Z E
   refine au (E.pk [1,2,3,4]) (fun HS=>?_)
   refine Vb Z E HS ((VK 4 (.f .n) (h:=by exact fun E=>qt2 (E.rd (i:=1) rfl) hpn.2.2.1 (by simp only [List.length_cons];omega) hbe)) fun Ab cb Nf hcb=>fun a Z E HS=>?_)
   refine s_on Z 5 rfl ?_
   replace E:=E.dJ (i:=1) (n:=1) (size:=1) rfl rfl de
   refine qz Z E (i:=1) rfl aL rfl rfl rfl (news:=(bb.map B8)) (E.rd (i:=0) rfl) (mH _) om om rfl de ?_
   clear Z E;intro a K7 xV c46 Z E sQ
   refine au (E.pk [2,3,4,5]) (fun HS=>?_)
   refine Vb Z E HS ((Vp [6,7]∘Vd) fun a Z E=>?_)
   have lU:(1+bb.length)=(e.kind::bb).length:=Nat.add_comm 1 _
   replace E:=E.aI (i:=1) (ys:=(e.kind::bb).map B8) rfl lU (rfl)
   rw [lU] at sQ
   replace Z:=Z.sp 4 (.slice xV ((e.kind::bb).length) c46) rfl (by rw [lU])
   replace Z:=Z.sp 46 (.slice xV ((e.kind::bb).length) c46) rfl (by rw [lU])
   exact ⟨Hu,Ab,cb,xV,c46,Z.sub kr,E.pk [0,1,2,3,4,5],hcb,sQ⟩
  refine all_cons ?_ all_nil
  refine qq Z (i:=4) rfl rfl ?_
  refine lQ Z E [.slice SQ ((x0::x1::vs).length) c40] (qt2 (E.rd (i:=0) rfl) hpn.2.2.1 (by simp only [List.length_cons];omega) hbe) fun Ab cb Nf hcb E a Z=>?_
  refine au (E.pk [1,2,3,4]) (fun HS=>?_)
  refine s_on Z 2 rfl (lT Z E aL [(0,vB e.kind)] #[vB e.kind] ?_)
  clear Z E;intro a Hw Hu Z E
  refine au (E.pk [2,3,4,5]) (fun HS=>?_)
  refine s_on Z 5 rfl ?_
  replace E:=E.dJ (i:=0) (n:=1) (size:=1) rfl rfl de
  refine qz Z E (i:=0) rfl aL rfl rfl rfl (news:=(bb.map B8)) (E.rd (i:=1) rfl) (mH _) om om rfl de ?_
  clear Z E;intro a K7 xV c46 Z E sQ
  refine au (E.pk [2,3,4,5]) (fun HS=>?_)
  refine Vb Z E HS ((Vp [6,7]∘Vd) fun a Z E=>?_)
  have lU:(1+bb.length)=(e.kind::bb).length:=Nat.add_comm 1 _
  replace E:=E.aI (i:=0) (ys:=(e.kind::bb).map B8) rfl lU (rfl)
  rw [lU] at sQ
  replace Z:=Z.sp 4 (.slice xV ((e.kind::bb).length) c46) rfl (by rw [lU])
  replace Z:=Z.sp 46 (.slice xV ((e.kind::bb).length) c46) rfl (by rw [lU])
  exact ⟨Hu,Ab,cb,xV,c46,Z.sub kr,E.pk [1,0,2,3,4,5],hcb,sQ⟩
 clear Z E;rintro a w7 ⟨Hu,Ab,cb,xV,c46,Z,E,hcb,sQ⟩
 exact Jb Z E ((JZ∘bW) fun E=>qjl (L:=e.kind::bb) (zae hck om hbb hpn hbe) (E.own (i:=1) rfl) sQ E.below)
theorem q5t (A:Option Addr) (c:Nat) (l:List Ev) (hok:∀e∈l,e.Ok) (B:Nat) (w:World) (hL:Laid B w) (hB:B≤w.heap.size) (hr:Rd w w.heap.size 11 A l.length (l.flatMap eF)) (hn:l.length≤140737488355328):Calls Tryz.prog 171 #[.slice A l.length c] w (Is w (.tuple #[.int .i64 (eu l).1,.int .i64 ((eu l).2:Int)])):=by
 refine (bZ Tryz.func171 57) ?_
 refine (JP∘Jp 2∘Jj∘JQ∘JP∘Jp 1∘Jl∘Jp 1∘Jj∘JB) fun a Z E=>?_
 refine qc (fun mS aS wS=>∃(k:Nat),(k≤l.length)∧(eu l=fI (kK l k) k (l.drop k))∧mS=l.length-k∧Fr aS 57 [] [(9,vI k),(8,vI l.length),(7,.slice A l.length c),(3,vI 0),(2,vI 0),(0,.slice A l.length c)]∧Mem w wS []) (m:=l.length-0) ⟨0,Nat.zero_le _,rfl,rfl,Z.sub kr,E.pk []⟩ ?_
 clear Z E;rintro mS a w_ ⟨k,hk,hgo,rfl,Z,E⟩
 refine Jb Z E ((JP∘Jp 1∘Jj∘JQ) (Ju (fun fO=>?_) fun fO=>?_))
 ·
  intro a Z E
  have fM:=of_decide_eq_true fO
  have hk1:k<l.length:=by omega
  obtain ⟨e,hxe⟩:∃e,l.getD k Ev.zero=e:=⟨_,rfl⟩
  obtain ⟨q,Hy⟩:∃q,l.getD (k-1) Ev.zero=q:=⟨_,rfl⟩
  have Wn:e.Ok:=hok e (by rw [←hxe];exact qi Ev.zero hk1)
  have hst:=row_step (p:=kK l k) hk1 hxe
  refine Jb Z E ((JT∘aG∘JQ∘JB∘JP∘Jp 1) ?_)
  repeat (first|clear Z|clear E)
  intro a Z E
  obtain ⟨gA,oA,rfl,_⟩:=hr.qd (Nat.lt_of_le_of_lt (Nat.zero_le _) (show k<l.length from by omega)) de
  refine Jb Z E ((Jy (h:=by exact Yl.ix gA oA k 11 rfl rfl rfl)∘Jy (v:= .agg ((l.getD k Ev.zero).cells)) (h:=by exact Yl.qf rfl rfl CK rfl (fun _ h=>(h.old hr).qm zf ((getD_at Ev.zero hk1))))∘Jo (.agg e.cells) (by rw [hxe])∘JA #[vI 0,vI 0,vB 0,vB 0,vI 0,vI 0,vI 0,vI 0,vI 0,vQ 0,vI 0]) fun w5 g5=>(Jp 1∘JV CK bg (h1:=by exact MF e)) fun ak3=>(Jj∘JQ∘JP∘Jy (v:= .agg e.cells) (h:=by exact Yl.qf rfl rfl CK rfl (fun _ h=>qb (h.blk (i:=0) rfl)))∘JI (h:=by exact fun E=>qzp e Wn B _ (hL.mem E hB) (E.le hB))) fun CO hbw=>(Jp 1∘aT∘Jr∘Jp 2∘aQ∘Jj) (Jh (fun iQ=>?_) fun iQ=>?_))
  ·
   exact (JT∘JP∘Jp 4∘Jj∘JZ∘bW) fun E=>Wi (hgo.trans (hst.trans (if_pos om))) rfl E.below
  refine (JF∘aG) fun a Z E=>?_
  refine zn (fun aS wS=>Fr aS 57 [] [(54,.bool (!(kK l k).all fun q=>e.after q)),(17,.bool false),(6,vI e.check),(4,vI k),(5,vP g5 0),(10,.bool true),(9,vI k),(8,vI l.length),(7,.slice (some ⟨gA,oA,none⟩) l.length c),(3,vI 0),(2,vI 0),(0,.slice (some ⟨gA,oA,none⟩) l.length c)]∧Mem w wS [.blk g5 e.cells 73]) ?_ ?_
  ·
   refine Jb Z E ((Vs .n []) fun SS=>(Vp [0,1,2]) fun a Z E HS=>?_)
   rcases Z.tf 22 rfl with ⟨jD,Z⟩|⟨jD,Z⟩
   ·
    have jf:=of_decide_eq_true jD
    refine Vb Z E HS ((Vf 3 2∘Vp [5,6]∘Vc 4 O0∘Vp [7]∘Vo (vI (k-1:Nat)) (by exact Wh om om)∘Vy 8 (h:=by exact Yl.ix gA oA (k-1) 11 rfl rfl rfl)∘Vf 9 2∘Vy 10 (v:=vB ((l.getD (k-1) Ev.zero).cpu)) (h:=by exact Yl.qj rfl rfl kr (fun _ h=>(h.old hr).partAt zf (k:=(k-1)) (j:=2) (x:=(l.getD (k-1) Ev.zero)) ((getD_at Ev.zero (k:=k-1) om)) rfl))∘Vo (vB q.cpu) (by rw [Hy])∘Vp [11,12]) fun a Z E HS=>?_)
    rcases Z.tf 32 rfl with ⟨oo,Z⟩|⟨oo,Z⟩
    ·
     have hd32:=bne_iff_ne.1 oo
     refine Vb Z E HS ((Vq [13,14,15,16,17,18,19,20,21,22,23,24,25,26,27,28,29,30,31,32,33] [(53,.bool true)]∘Vq [34] [(54,.bool true)]∘Vo (.bool (!(kK l k).all fun q=>e.after q)) (by exact SN Hy (by first|exact iff_of_true rfl om|exact iff_of_false de om|exact decide_eq_true_iff.trans om))∘Vd∘aF) fun a Z E=>?_)
     exact ⟨Z.sub kr,E.pk [0]⟩
    have hd32:=bne_eq_false_iff_eq.1 oo
    refine ap Z (fun _=>HS) [13,15,16] (bf 35 [0,1,2,3,4,5,6,7,8,9,10,11,12,13,15,16]) [(36,vI k),(35,.slice (some ⟨gA,oA,none⟩) l.length c),(33,vP g5 0)] fun a Z=>?_
    refine iJ Z HS 14 0 (v:=vI e.seq) fun a Z=>?_
    refine yM Z (fun _=>HS) (i:=17) rfl rfl (d:=37) rfl de kr (fun _ _ _ h=>h) (v:=vI (IntKind.i64.wrap ((k:Int)-1))) (fun _=>Yl.pure kr) fun a Z=>?_
    replace Z:=Z.sp 37 (vI (k-1:Nat)) rfl (Wh om om)
    refine jd Z HS 18 rfl (v:=vP gA (oA+(k-1)*11)) (Yl.ix gA oA (k-1) 11 rfl rfl rfl) fun a Z=>?_
    refine ap Z (fun _=>HS) [19] (bt 35 [20,21,22,23,24,25,26,27,28,29,30,31,32,33,34]) [(39,vP gA (oA+(k-1)*11))] fun a Z=>?_
    refine jd Z HS 20 rfl (v:=vI ((l.getD (k-1) Ev.zero).seq)) (Yl.qj rfl rfl kr (fun _ h=>(by have:=(h.old hr).partAt zf (k:=(k-1)) (j:=0) (x:=(l.getD (k-1) Ev.zero)) ((getD_at Ev.zero (k:=k-1) om)) rfl;simpa using this))) fun a Z=>?_
    replace Z:=Z.sp 40 (vI q.seq) rfl (by rw [Hy])
    refine ap Z (fun _=>HS) [21,22,23] (bt 35 [24,25,26,27,28,29,30,31,32,33,34]) [(43,.bool (decide ((e.seq:Int)≤(q.seq:Int))))] fun a Z=>?_
    refine Jb Z E (Ju (fun kN=>?_) fun kN=>?_)
    ·
     intro a Z E
     have uZ:=of_decide_eq_true kN
     refine ap Z (fun _=>HS) [24,25,26,27,28,29,30,31,32,33] (bt 35 [34]) [(53,.bool true)] fun a Z=>?_
     refine yM Z (fun _=>HS) (i:=34) rfl rfl (d:=54) rfl de kr (fun _ _ _ h=>h) (v:= .bool true) (fun _=>Yl.pure kr) fun a Z=>?_
     replace Z:=Z.sp 54 (.bool (!(kK l k).all fun q=>e.after q)) rfl (SN Hy (by first|exact iff_of_true rfl om|exact iff_of_false de om|exact decide_eq_true_iff.trans om))
     refine qg kr ?_
     exact ⟨Z.sub kr,E.pk [0]⟩
    intro a Z E
    have uZ:=of_decide_eq_false kN
    refine ap Z (fun _=>HS) [24,26,27] (bt 35 [25,28,29,30,31,32,33,34]) [(47,vI k),(46,.slice (some ⟨gA,oA,none⟩) l.length c),(44,vP g5 1)] fun a Z=>?_
    refine iJ Z HS 25 0 (v:=vI e.time) fun a Z=>?_
    refine yM Z (fun _=>HS) (i:=28) rfl rfl (d:=48) rfl de kr (fun _ _ _ h=>h) (v:=vI (IntKind.i64.wrap ((k:Int)-1))) (fun _=>Yl.pure kr) fun a Z=>?_
    replace Z:=Z.sp 48 (vI (k-1:Nat)) rfl (Wh om om)
    refine jd Z HS 29 rfl (v:=vP gA (oA+(k-1)*11)) (Yl.ix gA oA (k-1) 11 rfl rfl rfl) fun a Z=>?_
    refine ap Z (fun _=>HS) [30] (bt 35 [31,32,33,34]) [(50,vP gA (oA+(k-1)*11+1))] fun a Z=>?_
    refine jd Z HS 31 rfl (v:=vI ((l.getD (k-1) Ev.zero).time)) (Yl.qj rfl rfl kr (fun _ h=>(h.old hr).partAt zf (k:=(k-1)) (j:=1) (x:=(l.getD (k-1) Ev.zero)) ((getD_at Ev.zero (k:=k-1) om)) rfl)) fun a Z=>?_
    replace Z:=Z.sp 51 (vI q.time) rfl (by rw [Hy])
    refine ap Z (fun _=>HS) [32,33] (bt 35 [34]) [(53,.bool (decide ((e.time:Int)<(q.time:Int))))] fun a Z=>?_
    refine yM Z (fun _=>HS) (i:=34) rfl rfl (d:=54) rfl de kr (fun _ _ _ h=>h) (v:= .bool (decide ((e.time:Int)<(q.time:Int)))) (fun _=>Yl.pure kr) fun a Z=>?_
    replace Z:=Z.sp 54 (.bool (!(kK l k).all fun q=>e.after q)) rfl (SN Hy (by first|exact iff_of_true rfl om|exact iff_of_false de om|exact decide_eq_true_iff.trans om))
    refine qg kr ?_
    replace Z:=Z.to [(54,.bool (!(kK l k).all fun q=>e.after q)),(17,.bool false),(6,vI e.check),(4,vI k),(5,vP g5 0),(10,.bool true),(9,vI k),(8,vI l.length),(7,.slice (some ⟨gA,oA,none⟩) l.length c),(3,vI 0),(2,vI 0),(0,.slice (some ⟨gA,oA,none⟩) l.length c)]
    exact ⟨Z.sub kr,E.pk [0]⟩
   have jf:=of_decide_eq_false jD
   refine ap Z (fun _=>HS) [3,4,5,6,7,8,9,10,11,12,13,14,15,16,17,18,19,20,21,22,23,24,25,26,27,28,29,30,31,32,33] (bt 35 [34]) [(53,undef)] fun a Z=>?_
   refine yM Z (fun _=>HS) (i:=34) rfl rfl (d:=54) rfl de kr (fun _ _ _ h=>h) (v:= .bool false) (fun _=>Yl.pure kr) fun a Z=>?_
   replace Z:=Z.sp 54 (.bool (!(kK l k).all fun q=>e.after q)) rfl (SN Hy (by first|exact iff_of_true rfl om|exact iff_of_false de om|exact decide_eq_true_iff.trans om))
   refine qg kr ?_
   exact ⟨Z.sub kr,E.pk [0]⟩
  clear Z E;rintro a w7 ⟨Z,E⟩
  refine Jb Z E (Ju (fun Wo=>?_) fun Wo=>?_)
  ·
   exact (JT∘JP∘Jp 3∘Jj∘JZ∘bW) fun E=>Wi (m:=71) (hgo.trans (hst.trans ((if_neg om).trans (if_pos (by simp_all))))) rfl E.below
  refine (JF∘aG∘JR∘bn 1∘Jp 1∘aQ∘Jq) fun a Z E=>?_
  exact ⟨_,om,k+1,by omega,(hgo.trans (hst.trans ((if_neg om).trans ((if_neg (by simp_all)).trans (by rw [q5q hxe]))))),rfl,Z.sub kr,E.pk []⟩
 intro a Z E
 have fM:=of_decide_eq_false fO
 exact Jb Z E ((JF∘JX∘JG∘JP∘Jp 2∘Jj∘JZ∘bW) fun E=>Wi (m:=0) (hgo.trans (zaf om)) rfl E.below)
theorem qzs (b:Bs) (e:Ev) (he:e.Ok) {rb:List Nat} (h:q9 b e=0) (hb:zi b e=rb) (B:Nat) (w:World) (hL:Laid B w) (hB:B≤w.heap.size):Calls Tryz.prog 244 #[.agg b.cells,.agg e.cells] w (qx w 0 rb):=by
 have k:=q5s b e he B w hL hB
 have ho:pI b e=rb:=by unfold pI;rw [if_pos h,hb]
 rwa [h,ho] at k
theorem qzt (A:Option Addr) (c:Nat) (l:List Ev) (hok:∀e∈l,e.Ok) (B:Nat) (w:World) (hL:Laid B w) (hB:B≤w.heap.size) (hr:Rd w w.heap.size 11 A l.length (l.flatMap eF)) (hn:l.length≤140737488355328) {ri:Int} {re:Nat} (h:eu l=(ri,re)):Calls Tryz.prog 171 #[.slice A l.length c] w (Is w (.tuple #[.int .i64 ri,.int .i64 (re:Int)])):=by
 have k:=q5t A c l hok B w hL hB hr hn
 rwa [h] at k
theorem qrv (b:Bs) (A:Option Addr) (c:Nat) (l:List Ev) (hok:∀e∈l,e.Ok) (B:Nat) (w:World) (hL:Laid B w) (hB:B≤w.heap.size) (hr:Rd w w.heap.size 11 A l.length (l.flatMap eF)) (hn:l.length≤1000000000000):Calls Tryz.prog 228 #[.agg b.cells,.slice A l.length c] w (qx w (q8 b l) (zu b l)):=by
 refine (jw Tryz.func228 56) ?_
 refine (JP∘JE) fun w2 g2=>(Jp 2∘Jq) fun a Z E=>?_
 obtain ⟨ri,re,hro⟩:∃ri re,eu l=(ri,re):=⟨_,_,rfl⟩
 refine Jb Z E ((JG∘JQ∘JP∘Jp 1∘JI (h:=by exact fun E=>qzt A c l hok B _ (hL.mem E hB) (E.le hB) (E.old hr) om hro)) fun CO hbw=>(Jp 1∘Jx∘Jx∘Jp 2∘aF∘Jr∘Jp 2∘aQ∘Jj) (Ju (fun gJ=>?_) fun gJ=>?_))
 ·
  intro a Z E
  have mQ:=bne_iff_ne.1 gJ
  exact Jb Z E ((JT∘JP∘Jp 3∘Jj∘JZ∘bW) fun E=>Nb (qwr hro om) rfl E.below)
 intro a Z E
 have mQ:=bne_eq_false_iff_eq.1 gJ
 obtain ⟨e0,he0⟩:∃e,l.getD 0 Ev.zero=e:=⟨_,rfl⟩
 refine Jb Z E ((JF∘aG∘JQ) fun a Z E=>?_)
 refine zn (fun aS wS=>Fr aS 56 [] [(36,.bool (!(b.right&&l.head?.all b.behind))),(19,.bool false),(7,vI re),(5,vI 0),(4,.slice none 0 0),(2,vP g2 0),(1,.slice A l.length c)]∧Mem w wS [.blk g2 b.cells 110]) ?_ ?_
 ·
  refine Jb Z E ((Vs .n []) fun wd4=>(Vy 0 (v:= .agg b.cells) (h:=by exact Yl.qf rfl rfl nk rfl (fun _ h=>qb (h.blk (i:=0) rfl)))∘VI 1 .n (h:=by exact fun E=>qo3 b _)) fun Fg hbw=>(Vp [2,3]) fun a Z E HS=>?_)
  rcases Z.tf 24 rfl with ⟨rG,Z⟩|⟨rG,Z⟩
  ·
   refine Vb Z E HS ((Vq [4,5,6,7,8,9,10,11,12,13,14] [(35,undef)]∘Vq [15] [(36,.bool true)]∘Vo (.bool (!(b.right&&l.head?.all b.behind))) (by exact Hq (by rw [he0];first|exact iff_of_true rfl (by simp_all)|exact iff_of_false de (by simp_all;omega)|simp_all))∘Vd∘aF) fun a Z E=>?_)
   exact ⟨Z.sub kr,E.pk [0]⟩
  refine ap Z (fun _=>HS) [4] (bf 16 [0,1,2,3,4]) [(25,.slice A l.length c)] fun a Z=>?_
  refine MV Z HS 5 fun a Z=>?_
  refine ap Z (fun _=>HS) [6,7] (bf 16 [0,1,2,3,4,5,6,7]) [(28,.bool (decide ((l.length:Int)>(0:Int))))] fun a Z=>?_
  refine Jb Z E (Ji (fun hd28=>?_) fun hd28=>?_)
  ·
   intro a Z E
   refine ap Z (fun _=>HS) [9] (bt 16 [8,10,11,12,13,14,15]) [(30,.slice A l.length c)] fun a Z=>?_
   refine jd Z HS 8 rfl (v:= .agg b.cells) (Yl.qf rfl rfl nk rfl (fun _ h=>qb (h.blk (i:=0) rfl))) fun a Z=>?_
   revert E;revert a;repeat (first|clear Z|clear E)
   intro a Z E
   obtain ⟨gA,oA,rfl,_⟩:=hr.qd (Nat.lt_of_le_of_lt (Nat.zero_le _) (show 0<l.length from by omega)) de
   refine jd Z HS 10 rfl (v:=vP gA oA) (Yl.indexAddr (ad:=⟨gA,oA,none⟩) (y:=0) (sz:=11) rfl rfl rfl om kr) fun a Z=>?_
   refine jd Z HS 11 rfl (v:= .agg ((l.getD 0 Ev.zero).cells)) (Yl.qf rfl rfl CK rfl (fun _ h=>(h.old hr).qm zf ((getD_at Ev.zero (k:=0) om)))) fun a Z=>?_
   replace Z:=Z.sp 32 (.agg e0.cells) rfl (by rw [he0])
   refine s_on Z 12 rfl (zC Z E [.agg b.cells,.agg e0.cells] (.bool (b.behind e0)) rfl rfl (qk7 b e0 _) fun SV hbw E a Z=>?_)
   refine au (E.pk [0]) (fun HS=>?_)
   refine ap Z (fun _=>HS) [13,14] (bt 16 [15]) [(35,.bool (!(b.behind e0)))] fun a Z=>?_
   refine yM Z (fun _=>HS) (i:=15) rfl rfl (d:=36) rfl de kr (fun _ _ _ h=>h) (v:= .bool (!(b.behind e0))) (fun _=>Yl.pure kr) fun a Z=>?_
   replace Z:=Z.sp 36 (.bool (!(b.right&&l.head?.all b.behind))) rfl (Hq (by rw [he0];first|exact iff_of_true rfl (by simp_all)|exact iff_of_false de (by simp_all;omega)|simp_all))
   refine qg kr ?_
   exact ⟨Z.sub kr,E.pk [0]⟩
  intro a Z E
  refine ap Z (fun _=>HS) [8,9,10,11,12,13,14] (bt 16 [15]) [(35,.bool false)] fun a Z=>?_
  refine yM Z (fun _=>HS) (i:=15) rfl rfl (d:=36) rfl de kr (fun _ _ _ h=>h) (v:= .bool false) (fun _=>Yl.pure kr) fun a Z=>?_
  replace Z:=Z.sp 36 (.bool (!(b.right&&l.head?.all b.behind))) rfl (Hq (by rw [he0];first|exact iff_of_true rfl (by simp_all)|exact iff_of_false de (by simp_all;omega)|simp_all))
  refine qg kr ?_
  exact ⟨Z.sub kr,E.pk [0]⟩
 clear Z E;rintro a w4 ⟨Z,E⟩
 refine Jb Z E (Ju (fun mR=>?_) fun mR=>?_)
 ·
  exact (JT∘JP∘Jp 2∘Jj∘JZ∘bW) fun E=>Nb (qru hro om (fun h=>by rw [h] at mR;exact absurd mR de)) rfl E.below
 intro a Z E
 have hbb:(b.right&&l.head?.all b.behind)=true:=by simpa using mR
 refine Jb Z E ((JF∘aG∘JP∘Jp 1∘Jq) fun a Z E=>?_)
 replace E:=E.nil 5 1
 refine Jb Z E ((JG∘JQ∘JP∘Jp 1∘Jl∘Jp 1∘Jj∘JB) fun a Z E=>?_)
 refine qc (fun mS aS wS=>∃(k:Nat) (pre:List Nat) (bk:Bs) (Ao:Option Addr) (co:Nat),(k≤l.length)∧(pre.length≤61*k)∧(bk=GY b l k)∧(recs b l=pre++recs bk (l.drop k))∧(pre.length≤co)∧mS=l.length-k∧Fr aS 56 [] [(39,vI k),(38,vI l.length),(37,.slice A l.length c),(8,.slice Ao pre.length co),(36,.bool false),(19,.bool false),(7,vI re),(5,vI 0),(4,.slice none 0 0),(2,vP g2 0),(1,.slice A l.length c)]∧Mem w wS [.row (.slice Ao pre.length co) pre.length (pre.map B8) 5 1,.blk g2 bk.cells 110]) (m:=l.length-0) ⟨0,[],b,none,0,Nat.zero_le _,Nat.zero_le _,rfl,rfl,Nat.zero_le _,rfl,Z.sub kr,E.pk [0,1]⟩ ?_
 clear Z E;rintro mS a w_ ⟨k,pre,bk,Ao,co,hk,hpl,hbk,hrc,hco,rfl,Z,E⟩
 refine Jb Z E ((JP∘Jp 1∘Jj∘JQ) (Ju (fun oq=>?_) fun oq=>?_))
 ·
  intro a Z E
  have rH:=of_decide_eq_true oq
  have hk1:k<l.length:=by omega
  obtain ⟨e,hxe⟩:∃e,l.getD k Ev.zero=e:=⟨_,rfl⟩
  have Wn:e.Ok:=hok e (by rw [←hxe];exact qi Ev.zero hk1)
  have hpw:=qzr hro om hbb hk1 hbk hxe
  obtain ⟨rb,hrb⟩:∃rb,zi bk e=rb:=⟨_,rfl⟩
  rw [hrb] at hpw
  refine Jb Z E ((JT∘aG∘JQ∘JB∘JP) ?_)
  repeat (first|clear Z|clear E)
  intro a Z E
  obtain ⟨gA,oA,rfl,_⟩:=hr.qd (Nat.lt_of_le_of_lt (Nat.zero_le _) (show k<l.length from by omega)) de
  refine Jb Z E ((Jy (h:=by exact Yl.ix gA oA k 11 rfl rfl rfl)∘Jy (v:= .agg ((l.getD k Ev.zero).cells)) (h:=by exact Yl.qf rfl rfl CK rfl (fun _ h=>(h.old hr).qm zf ((getD_at Ev.zero hk1))))∘Jo (.agg e.cells) (by rw [hxe])∘JA #[vI 0,vI 0,vB 0,vB 0,vI 0,vI 0,vI 0,vI 0,vI 0,vQ 0,vI 0]) fun ru g10=>(JV CK bg (h1:=by exact MF e)) fun Ng=>(aT∘Jr∘Jy (v:= .agg bk.cells) (h:=by exact Yl.qf rfl rfl nk rfl (fun _ h=>qb (h.blk (i:=2) rfl)))∘Jy (v:= .agg e.cells) (h:=by exact Yl.qf rfl rfl CK rfl (fun _ h=>qb (h.blk (i:=0) rfl)))∘JK (h:=by exact fun E=>qzs bk e Wn hpw.1 hrb B _ (hL.mem E hB) (E.le hB))) fun Ar cr K7 hcr=>(Jp 1∘Jx∘Jx∘Jp 2∘wK∘Jj∘Vs (.t (.t (.f .n))) [6]) fun Nh=>(Vp [0,1]∘Vy 3 (v:= .agg e.cells) (h:=by exact Yl.qf rfl rfl CK rfl (fun _ h=>qb (h.blk (i:=1) rfl)))) fun a Z E HS=>?_)
  refine s_on Z 2 rfl (qz Z E (i:=2) rfl aL rfl rfl rfl (news:=(rb.map B8)) (E.rd (i:=0) rfl) (mH _) om om rfl de ?_)
  clear Z E;intro a w51 SX c51 Z E Dx
  refine au (E.pk [0,1,3]) (fun HS=>?_)
  refine Vb Z E HS ((VI 4 (.t (.t (.f .n))) (h:=by exact fun E=>zdj e _)) fun w53 hbw=>(Vp [5]) fun a Z E HS=>?_)
  refine s_on Z 6 rfl (iX Z E 3 rfl rfl rfl rfl rfl nk rfl rfl (Vi e.at) ?_)
  clear E;intro acy E
  refine lG kr ?_
  refine qg kr ?_
  have wO:(pre.length+rb.length)=(pre++rb).length:=by rw [List.length_append]
  replace E:=E.aI (i:=2) (ys:=(pre++rb).map B8) rfl wO (by rw [List.map_append])
  rw [wO] at Dx
  replace Z:=Z.sp 8 (.slice SX ((pre++rb).length) c51) rfl (by rw [wO])
  replace Z:=Z.sp 51 (.slice SX ((pre++rb).length) c51) rfl (by rw [wO])
  refine Jb Z E ((JG∘JR∘bn 1∘Jp 1∘aQ∘Jq) fun a Z E=>?_)
  exact ⟨_,om,k+1,(pre++rb),e.at,SX,c51,by omega,by rw [List.length_append];omega,hpw.2.2.1,(hrc.trans (by rw [hpw.2.1,List.append_assoc])),Dx,rfl,Z.sub kr,E.pk [2,3]⟩
 intro a Z E
 have rH:=of_decide_eq_false oq
 exact Jb Z E ((JF∘JX∘JG∘JP∘Jp 3∘Jj∘JZ∘bW) fun E=>qjl (L:=pre) (qws hro om hbb hrc om) (E.own (i:=0) rfl) hco E.below)
theorem q5u (b:Bs) (A:Option Addr) (n c:Nat) (l:List Ev) (hok:∀e∈l,e.Ok) (B:Nat) (w:World) (hL:Laid B w) (hB:B≤w.heap.size) (hr:Rd w w.heap.size 11 A n (l.flatMap eF)) (hn:n≤1000000000000) {er:Nat} {R:List Nat} (h1:q8 b l=er) (h2:zu b l=R):
  Calls Tryz.prog 228 #[.agg b.cells,.slice A n c] w (qx w er R):=by
 obtain rfl:l.length=n:=q8f hr
 subst h1;subst h2
 exact qrv b A c l hok B w hL hB hr hn
theorem zdk (A:Option Addr) (n c:Nat) (l:List Ev) (hok:∀e∈l,e.Ok) (B:Nat) (w:World) (hL:Laid B w) (hB:B≤w.heap.size) (hr:Rd w w.heap.size 11 A n (l.flatMap eF)) (hn:n≤140737488355328) {i:Int} {er:Nat} (h:eu l=(i,er)):
  Calls Tryz.prog 171 #[.slice A n c] w (Is w (.tuple #[.int .i64 i,.int .i64 (er:Int)])):=by
 obtain rfl:l.length=n:=q8f hr
 exact qzt A c l hok B w hL hB hr hn h
section
variable {xs l:List Nat} {q k x m e:Nat}
end
section
variable {b:Bs} {cpu kd:Nat} {l xs:List Nat} {q e:Nat}
end
section
variable {b bk:Bs} {cpu m a mm er:Nat} {l rest:List Nat} {es:List Ev} {e:Ev}
end
section
variable {b:Bs} {cpu:Nat} {n:Int} {l:List Nat}
end
structure Bk where
 kind:Nat
 cpu:Nat
 lost:Int
 next:Int
 evs:List Ev
structure Bk.Ok (b:Bk):Prop where
 kind:b.kind<256
 cpu:b.cpu<256
 lost:bP b.lost
 next:bP b.next
 evs:∀e∈b.evs,e.Ok
def Bk.zero:Bk:=⟨0,0,0,0,[]⟩
def Bk.K8 (b:Bk):Bool:=match b.evs with
 |[]=>decide (0<b.lost)
 |e::_=>decide (e.cpu=b.cpu)
def Bk.rZ (b:Bk):Bool:=decide ((eu b.evs).2=0∧b.cpu<64∧0≤b.lost∧b.lost≤281474976710656∧b.next=0∧b.K8=true)
def Bk.CP (b:Bk):Bool:=decide (1≤b.next∧b.next≤281474976710657∧b.cpu=0∧b.lost=0∧b.evs.length=0)
def Bk.fits (b:Bk):Bool:=if b.kind=1 then b.rZ else if b.kind=2 then b.CP else false
def Bk.base (b:Bk):Bs:=(b.evs.headD Ev.zero).at
def Bk.body (b:Bk):List Nat:=
 if b.kind=2 then aj b.next.toNat
 else aj b.cpu++aj b.lost.toNat++aj b.evs.length++(if b.evs.length=0 then [] else aj b.base.seq.toNat++aj b.base.time.toNat++recs b.base b.evs)
def Bk.raw (b:Bk):List Nat:=uY (12+b.body.length)++[113,116,1,b.kind]++b.body
def Bk.err (b:Bk):Nat:=if b.fits=false then 107 else if 4096<12+b.body.length then 3 else 0
def Bk.out (b:Bk):List Nat:=if b.err=0 then bF b.raw else []
def aU (l:List Nat):Nat×Nat:=if l.length<4 then (0,100) else if mP l<13∨4096<mP l then (0,101) else if l.length<mP l then (0,100) else (mP l,0)
def jE (most:Nat) (l:List Nat):Bool:=decide ((aA l).2.2=0∧(aA l).1≤most)
def za (l:List Nat):List Nat:=l.drop (aA l).2.1
def bB (most:Nat) (l:List Nat):Nat:=if most<(aA l).1 then most else (aA l).1
def zL (l:List Nat):Option Bk:=
 if jE 281474976710657 l=true∧(za l).length=0∧Bk.fits ⟨2,0,0,bB 281474976710657 l,[]⟩=true then some ⟨2,0,0,bB 281474976710657 l,[]⟩ else none
def qzz (cpu lost:Nat) (l:List Nat) (q:List Ev×Nat×Nat):Option Bk:=
 if q.2.2=0∧(q.1.headD Ev.zero).seq=bB 281474976710656 l∧(q.1.headD Ev.zero).time=bB 281474976710656 (za l)∧jE 281474976710656 l=true∧jE 281474976710656 (za l)=true∧((za (za l)).drop q.2.1).length=0∧Bk.fits ⟨1,cpu,lost,0,q.1⟩=true then some ⟨1,cpu,lost,0,q.1⟩ else none
def q8n (l:List Nat):Bool:=jE 63 l&&jE 281474976710656 (za l)&&jE 4096 (za (za l))
def q5y (l:List Nat):Option Bk:=
 if q8n l=true∧0<bB 4096 (za (za l)) then
  qzz (bB 63 l) (bB 281474976710656 (za l)) (za (za (za l)))
   (MC ⟨bB 281474976710656 (za (za (za l))),bB 281474976710656 (za (za (za (za l))))⟩ (bB 63 l) (bB 4096 (za (za l))) (za (za (za (za (za l))))))
 else if q8n l=true∧(za (za (za l))).length=0∧Bk.fits ⟨1,bB 63 l,bB 281474976710656 (za l),0,[]⟩=true then some ⟨1,bB 63 l,bB 281474976710656 (za l),0,[]⟩ else none
def K9 (kind:Nat) (l:List Nat):Option Bk:=if kind=2 then zL l else q5y l
def fJ (l:List Nat):Option Bk×Nat:=
 if zq l=false then (none,102)
 else if ¬(l.getD 4 0=113∧l.getD 5 0=116) then (none,103)
 else if l.getD 6 0≠1 then (none,104)
 else if l.getD 7 0≠1∧l.getD 7 0≠2 then (none,105)
 else match K9 (l.getD 7 0) ((l.take (l.length-4)).drop 8) with
  |none=>(none,106)
  |some b=>(some b,0)
def dA (l:List Nat):Bk×Nat×Nat:=
 if (aU l).2≠0 then (Bk.zero,0,(aU l).2)
 else match (fJ (l.take (aU l).1)).1 with
  |some b=>(b,(aU l).1,0)
  |none=>(Bk.zero,0,(fJ (l.take (aU l).1)).2)
theorem qwv {l:List Nat} (hl:∀x∈l,x<256):∀x∈za l,x<256:=fun x hx=>hl x (List.mem_of_mem_drop hx)
theorem q5z {b:Bk} (h:b.fits=true) (hk:b.kind=2):b.CP=true:=by unfold Bk.fits at h;rwa [if_neg om,if_pos hk] at h
theorem Nk {b:Bk} (h:b.fits=true) (hk:b.kind≠2):b.kind=1∧b.rZ=true:=by grind [Bk.fits]
theorem qz0 (b:Bs) (e:Ev):(zi b e).length≤61:=by grind [Ev.vals,q6,zi,Df,Mw,qy]
theorem Wt:∀(l:List Ev) (b:Bs),(recs b l).length≤61*l.length:=by intro x;induction x<;>grind [qz0,recs]
theorem Wu {cpu:Nat}:∀(es:List Ev) (p:Option Ev) (b:Bs) (i:Nat),(∀e∈es,e.Ok)→b.right=true→(∀e∈es.head?,b.behind e=true∧e.cpu=cpu)→(∀q,p=some q→b=q.at∧q.cpu=cpu)→(fI p i es).2=0→Chain cpu p b es
 |[],_,_,_,_,_,_,_,_=>trivial
 | e :: r, p, b, i, hok, hb, hh, hp, h => by
  rw [fI] at h
  split at h
  ·rename_i h1;exact absurd h h1
  ·rename_i h1
   split at h
   ·cases h
   ·rename_i h2
    have hc:e.check=0:=by omega
    obtain ⟨g1,g2⟩:=hh e (by simp)
    refine ⟨⟨hb,hc,hok e (by simp),g1⟩,g2,?_,?_⟩
    ·grind [Ev.after]
    ·refine Wu r (some e) e.at (i+1) (fun x hx=>hok x (by simp [hx])) (SY hc) ?_ (fun q hq=>by injection hq with hq;subst hq;exact ⟨rfl,g2⟩) h
     intro x hx
     cases r with
     |nil=>cases hx
     |cons y r=>
      grind [Bs.behind,Ev.after,Ev.at,fI]
theorem qt4 {l:List Ev} {e:Ev} (h:(eu l).2=0) (he:l.head?=some e):e.check=0:=by
 cases l with
 |nil=>cases he
 |cons x r=>
  grind [fI,eu]
theorem qjm (e:Ev):e.at.behind e=true:=by grind [Bs.behind,Ev.at]
structure Hz (b:Bk) (e:Ev) (r:List Ev):Prop where
 evs:b.evs=e::r
 cpu:e.cpu=b.cpu
 base:b.base=e.at
 check:e.check=0
 right:e.at.right=true
 chain:Chain b.cpu none e.at b.evs
theorem Wv {b:Bk} (hok:b.Ok) (h:b.rZ=true) (hn:b.evs.length≠0):∃e r,Hz b e r:=by
 unfold Bk.rZ at h
 rw [decide_eq_true_eq] at h
 obtain ⟨h1,h2,h3,h4,h5,h6⟩:=h
 cases hev:b.evs with
 |nil=>rw [hev] at hn;simp at hn
 |cons e r=>
  have hc:e.check=0:=qt4 h1 (by rw [hev];rfl)
  have Nl:e.cpu=b.cpu:=by unfold Bk.K8 at h6;rw [hev] at h6;simpa using h6
  refine ⟨e,r,hev,Nl,by unfold Bk.base;rw [hev];rfl,hc,SY hc,?_⟩
  refine Wu b.evs none e.at 0 hok.evs (SY hc) ?_ (fun q hq=>by cases hq) h1
  grind [qjm]
theorem qk9 {b:Bk} (hok:b.Ok) (h:b.rZ=true) (hn:b.evs.length≠0):q8 b.base b.evs=0∧zu b.base b.evs=recs b.base b.evs:=by
 obtain ⟨e,r,g⟩:=Wv hok h hn
 rw [g.base]
 obtain ⟨_,h1,h2⟩:=qzy g.right g.chain
 exact ⟨h1,h2⟩
theorem qz1 {x:Nat} (h:x≤281474976710657):bP (x:Int):=by unfold bP;omega
theorem q0c {l:List Nat} (h:(aU l).2=0):mP l=(aU l).1∧13≤(aU l).1∧(aU l).1≤4096∧(aU l).1≤l.length:=by
 unfold aU at h⊢
 split at h
 ·cases h
 ·split at h
  ·cases h
  ·split at h
   ·cases h
   ·rename_i h1 h2 h3
    rw [if_neg h1,if_neg h2,if_neg h3]
    omega
def iT (l:List Nat):Prop:=∀i,7≤i→l.getD i 0≠1
theorem iT.drop {l:List Nat} (h:iT l) (p:Nat):iT (l.drop p):=fun i hi=>by
 rw [List.getD_eq_getElem?_getD,List.getElem?_drop,←List.getD_eq_getElem?_getD]
 exact h (p+i) om
theorem iT.take {l:List Nat} (h:iT l) (n:Nat):iT (l.take n):=fun i hi=>by
 rw [List.getD_eq_getElem?_getD,List.getElem?_take]
 split
 ·rw [←List.getD_eq_getElem?_getD];exact h i hi
 ·decide
theorem zak {l:List Nat} (h:((l.drop 7).all fun x=>x !=1)=true):iT l:=fun i hi he=>by
 rw [List.getD_eq_getElem?_getD] at he
 cases hx:l[i]? with
 |none=>rw [hx] at he;cases he
 |some x=>
  rw [hx] at he
  have he:x=1:=he
  have hm:x∈l.drop 7:=List.mem_of_getElem? (i:=i-7) (by rw [List.getElem?_drop,Nat.add_sub_cancel' hi];exact hx)
  have h1:=List.all_eq_true.1 h x hm
  rw [he] at h1
  cases h1
def gT (xs:Array Value) (i:Nat):Int:=match xs[i]? with
 |some (.int _ n)=>n
 |_=>0
def Wp (P : Program) (f : Field) (i : Nat) : Bool := f.name != "_" && (f.offset == i && (jl P f.type && match P.underlying f.type with
 |some (.int _)=>true
 |_=>false))
theorem qga {P:Program} (d:Nat) (xs ys:Array Value):∀(fs:List Field) (i:Nat) (w:World),(∀j,j<fs.length→∃f k a b,fs[j]?=some f∧Wp P f (i+j)=true∧xs[i+j]?=some (.int k a)∧ys[i+j]?=some (.int k b))→
  (Op.eqFields (d+1) xs ys fs).run P w= .ok ((List.range fs.length).all fun j=>gT xs (i+j)==gT ys (i+j)) w
 |[],i,w,_=>rfl
 | f :: fs, i, w, h => by
  obtain ⟨f',k,a,b,hf,hb,hx,hy⟩:=h 0 (by simp)
  simp only [List.getElem?_cons_zero,Option.some.injEq] at hf
  subst hf
  simp only [Wp,Bool.and_eq_true,bne_iff_ne,beq_iff_eq,Nat.add_zero] at hb
  obtain ⟨h1,h2,h3,h4⟩:=hb
  rw [Nat.add_zero] at hx hy
  have ih:=qga d xs ys fs (i+1) w (fun j hj=>by
   obtain ⟨f,k,a,b,hf,hb,hx,hy⟩:=h (j+1) (by simpa using hj)
   refine ⟨f,k,a,b,by simpa using hf,?_,?_,?_⟩
   ·rw [show i+1+j=i+(j+1) by omega];exact hb
   ·rw [show i+1+j=i+(j+1) by omega];exact hx
   ·rw [show i+1+j=i+(j+1) by omega];exact hy)
  have hu:∃k',P.underlying f.type=some (.int k'):=by
   split at h4
   ·rename_i k' hk;exact ⟨k',hk⟩
   ·cases h4
  obtain ⟨k',hu⟩:=hu
  have hxi:gT xs i=a:=by simp [gT,hx]
  have hyi:gT ys i=b:=by simp [gT,hy]
  have e:(List.range (f::fs).length).all (fun j=>gT xs (i+j)==gT ys (i+j))=((a==b)&& (List.range fs.length).all fun j=>gT xs (i+1+j)==gT ys (i+1+j)):=by
   rw [List.length_cons,List.range_succ_eq_map,List.all_cons,Nat.add_zero,hxi,hyi,List.all_map]
   congr 2
   funext j
   simp only [Function.comp_apply,Nat.succ_eq_add_one]
   rw [show i+(j+1)=i+1+j by omega]
  rw [e]
  unfold Op.eqFields
  rw [if_pos h1]
  simp only [Sem.run_bind,part,Sv h3,Result.andThen_ok,Bool.false_eq_true,if_false,h2,hx,hy,Sem.run_pure,run_equalIn_int w d f.type k k' a b hu]
  cases hab:(a==b)
  ·simp
  ·simp [ih]
def Ni (P:Program) (t:TypeId):Bool:= !P.stoodInHeld t&& (!P.eqGuardType P.depth t&& ((P.fieldsOf t).size==11&& ((List.range 11).all fun i=>match (P.fieldsOf t).toList[i]? with
 |some f=>Wp P f i
 |none=>false)))
theorem qrw {P:Program} {t:TypeId} (h:(P.fieldsOf t).size=11):P.underlying t=some (.struct (P.fieldsOf t)):=by
 unfold Program.fieldsOf at h⊢
 split at h
 ·rename_i fs hu;rw [hu]
 ·cases h
theorem qzu (e:Ev):∀i,i<11→∃k,e.cells[i]?=some (.int k (gT e.cells i))∧∀e':Ev,e'.cells[i]?=some (.int k (gT e'.cells i)):=by
 intro i hi
 have h:i=0∨i=1∨i=2∨i=3∨i=4∨i=5∨i=6∨i=7∨i=8∨i=9∨i=10:=by omega
 rcases h with rfl|rfl|rfl|rfl|rfl|rfl|rfl|rfl|rfl|rfl|rfl<;>exact ⟨_,rfl,fun _=>rfl⟩
instance acA:DecidableEq Ev:=fun ⟨a0,a1,a2,a3,a4,a5,a6,a7,a8,a9,Wq⟩ ⟨b0,b1,b2,b3,b4,b5,b6,b7,b8,b9,b10⟩=>
 decidable_of_iff (a0=b0∧a1=b1∧a2=b2∧a3=b3∧a4=b4∧a5=b5∧a6=b6∧a7=b7∧a8=b8∧a9=b9∧Wq=b10) (by rw [Ev.mk.injEq])
theorem zdl (x y:Ev):((List.range 11).all fun j=>gT x.cells (0+j)==gT y.cells (0+j))=decide (x=y):=by
 rw [Bool.eq_iff_iff,decide_eq_true_eq]
 constructor
 ·intro h
  have g:∀j,j<11→gT x.cells j=gT y.cells j:=fun j hj=>by
   have:=List.all_eq_true.1 h j (List.mem_range.2 hj)
   simpa using this
  obtain ⟨a0,a1,a2,a3,a4,a5,a6,a7,a8,a9,Wq⟩:=x
  obtain ⟨b0,b1,b2,b3,b4,b5,b6,b7,b8,b9,b10⟩:=y
  have g0:a0=b0:=g 0 de
  have g1:a1=b1:=g 1 de
  have g2:(a2:Int)=b2:=g 2 de
  have g3:(a3:Int)=b3:=g 3 de
  have g4:a4=b4:=g 4 de
  have g5:a5=b5:=g 5 de
  have g6:a6=b6:=g 6 de
  have g7:a7=b7:=g 7 de
  have g8:a8=b8:=g 8 de
  have g9:(a9:Int)=b9:=g 9 de
  have g10:Wq=b10:=g 10 de
  have g2':a2=b2:=by omega
  have g3':a3=b3:=by omega
  have g9':a9=b9:=by omega
  subst g0 g1 g2' g3' g4 g5 g6 g7 g8 g9' g10
  rfl
 ·rintro rfl
  simp
theorem q5v {P:Program} {t:TypeId} (ht:Ni P t=true) (x y:Ev) (w:World):(Op.equal t (.agg x.cells) (.agg y.cells)).run P w= .ok (decide (x=y)) w:=by
 simp only [Ni,Bool.and_eq_true,Bool.not_eq_true',beq_iff_eq] at ht
 obtain ⟨h1,_,h3,h4⟩:=ht
 unfold Op.equal
 rw [show Op.maxDepth=9998+1+1 from rfl,run_equalIn_struct w 9999 t _ _ (qrw h3) h1,qga 9998 _ _ _ 0 w]
 ·rw [Array.length_toList,h3,zdl]
 ·intro j hj
  rw [Array.length_toList,h3] at hj
  have:=List.all_eq_true.1 h4 j (List.mem_range.2 hj)
  split at this
  ·rename_i f hf
   obtain ⟨k,hk,hk'⟩:=qzu x j hj
   rw [Nat.zero_add]
   exact ⟨f,k,_,_,hf,this,hk,hk' y⟩
  ·cases this
theorem qwt {P:Program} {t:TypeId} (ht:Ni P t=true) (op:BinOp) (x y:Operand) (a b:Array Value) (w:World):(eqGuard op t x y (.agg a) (.agg b)).run P w= .ok () w:=by
 simp only [Ni,Bool.and_eq_true,Bool.not_eq_true',beq_iff_eq] at ht
 obtain ⟨_,h2,_⟩:=ht
 unfold eqGuard
 cases op<;>simp<;>simp [h2]
section
variable {P:Program} {S:World→Prop} {σ:List (Nat×Value)} {o:Oper}
theorem Yl.zfh {t u:TypeId} {p q:Operand} {x y:Ev} (hop:o.op= .binOp .neq t p q u) (hx:look σ p=some (.agg x.cells)) (hy:look σ q=some (.agg y.cells)) (ht:Ni P t=true):Yl P S σ o (.bool (!decide (x=y))):=fun a n D Z w hS=>by
 unfold execOp
 have e:(binOp .neq t (.agg x.cells) (.agg y.cells)).run P w= .ok (.bool (!decide (x=y))) w:=by
  show ((do Pure.pure (.bool (!(←Op.equal t (.agg x.cells) (.agg y.cells)))):Sem Value)).run P w=_
  simp [q5v ht]
 simp only [hop,Z.eval hx,Z.eval hy,Sem.run_bind,qwt ht,Result.andThen_ok,e,Sem.run_pure]
end
def Bk.cells (b:Bk) (A:Option Addr) (c:Nat):Array Value:= #[.int .u8 (b.kind:Int),.int .u8 (b.cpu:Int),.int .i64 b.lost,.int .i64 b.next,.slice A b.evs.length c]
theorem vg (b:Bk) (A:Option Addr) (c:Nat):∀v∈(b.cells A c).toList,v.oneCell'=true:=by intro v hv;simp [Bk.cells] at hv;rcases hv with rfl|rfl|rfl|rfl|rfl<;>rfl
theorem aP:SI Tryz.prog 85 5:=⟨by kernel_rfl,by kernel_rfl⟩
theorem Nn:EI Tryz.prog 402 30 (.slice none 0 0) 1 24:=⟨by kernel_rfl,by kernel_rfl,rfl,by omega⟩
theorem Fh:SI Tryz.prog 287 2:=⟨by kernel_rfl,by kernel_rfl⟩
structure aO (B:Nat) (w:World):Prop where
 laid:Laid B w
 halves:∀k,k<16→w.cell? ⟨1,k,none⟩=some (.int .u32 ((xU.getD k 0:Nat):Int))
 Np:1<B
 vk:w.cell? ⟨0,0,none⟩=some (.int .u8 113)
 vo:w.cell? ⟨0,1,none⟩=some (.int .u8 116)
 H6:0<B
theorem aO.uH {B:Nat} {w w':World} (h:aO B w) (hk:∀p:Addr,p.block<B→w'.cell? p=w.cell? p):aO B w':=
 ⟨h.laid.uH hk,fun k hk'=>(hk _ h.Np).trans (h.halves k hk'),h.Np,(hk _ h.H6).trans h.vk,(hk _ h.H6).trans h.vo,h.H6⟩
theorem aO.mem {B:Nat} {W w:World} {fs:List Fact} (h:aO B W) (hM:Mem W w fs) (hB:B≤W.heap.size):aO B w:=h.uH fun _ hp=>hM.below.cell om
theorem aO.below {B B':Nat} {w w':World} (h:aO B w) (hb:Below B' w w') (hB:B≤B'):aO B w':=h.uH fun p hp=>hb.cell om
theorem qt5 {B:Nat} {W w:World} {fs:List Fact} (h:aO B W) (hM:Mem W w fs) (hB:B≤W.heap.size) {k:Nat} (hk:k<16):w.cell? ⟨1,k*1,none⟩=some (.int .u32 ((xU.getD k 0:Nat):Int)):=by
 rw [Nat.mul_one];exact (h.mem hM hB).halves k hk
theorem q50 {B:Nat} {W w:World} {fs:List Fact} (h:aO B W) (hM:Mem W w fs) (hB:B≤W.heap.size):w.rangeAt 0 0 (#[Value.int .u8 113,.int .u8 116]:Array Value).toList:=fun j v hv=>by
 have h1:=(h.mem hM hB).vk
 have h2:=(h.mem hM hB).vo
 rcases j with _|_|j
 ·simp at hv;subst hv;exact h1
 ·simp at hv;subst hv;exact h2
 ·simp at hv
theorem qjn {b:Bk} (h:b.evs.length≠0):b.K8=decide ((b.evs.getD 0 Ev.zero).cpu=b.cpu):=by grind [Bk.K8]
theorem Ww {b:Bk} (h:b.evs.length=0):b.K8=decide (0<b.lost):=by
 unfold Bk.K8
 rw [List.length_eq_zero_iff] at h
 rw [h]
theorem Nq (b:Bk):b.base=⟨(b.evs.getD 0 Ev.zero).seq,(b.evs.getD 0 Ev.zero).time⟩:=by
 unfold Bk.base Ev.at
 cases b.evs<;>rfl
theorem zdm (k:Nat):k=1∨k=2∨(k≠1∧k≠2):=by omega
theorem qt6 {b:Bk} (hok:b.Ok) (h:b.fits=true) (hk:b.kind≠2) (hn:b.evs.length≠0):0≤b.base.seq∧b.base.seq≤281474976710656∧0≤b.base.time∧b.base.time≤281474976710656:=by
 obtain ⟨e,r,g⟩:=Wv hok (Nk h hk).2 hn
 have:=g.right
 rw [←g.base] at this
 have h4:1≤b.base.seq∧b.base.seq≤281474976710656∧0≤b.base.time∧b.base.time≤281474976710656:=by simpa [Bs.right] using this
 omega
theorem qo6 {b:Bk} (h:b.fits=true) (hk:b.kind≠2):b.kind=1∧0≤b.lost∧b.lost≤281474976710656∧b.cpu<64∧b.next=0:=by grind [Bk.rZ,Nk]
theorem qo7 {b:Bk} (h:b.fits=true) (hk:b.kind=2):1≤b.next∧b.next≤281474976710657∧b.cpu=0∧b.lost=0∧b.evs.length=0:=by
 have h2:=q5z h hk
 unfold Bk.CP at h2
 rw [decide_eq_true_eq] at h2
 exact h2
end Go.Proofs.YtekiimhdnigmcaaGreatDoor
namespace Go.Proofs.YtekiimhdnigmcaaGreatDoor
open Go.RowKit Go.ChangeShapes Go.WideShapes
theorem q51 {W:World} {fuel:Nat} {cs:List Value} {zs:List Nat} {p:List MemPlace}
  (h:DataW.trod (fun _=>()) Tryz.prog W 0 (fun _=>true) false fuel 38 cs=some (.slice (zs.map fun z:Nat=> .lit (.int .i64 (z:Int))) [],p)):
  ∃A c,cs=[.slice A zs.length c]∧Rd W W.heap.size 1 A zs.length (zs.map bI):=by
 obtain ⟨a,cap,hcs,hl,hall⟩:=open_row (e:=3) kr kr h
 have hcell:∀i z,zs[i]?=some z→W.cell? (a.add i)=some (bI z):=by
  intro i z hz
  obtain ⟨v,n,q,hc,ht⟩:=hall i (.lit (.int .i64 (z:Int))) (by rw [List.getElem?_map,hz];rfl)
  obtain ⟨z',e1,e2,_⟩:=DataW.trod_int (k:= .i64) kr ht
  injection e1 with e1
  injection e2 with e2
  subst e1
  simp only [DataW.lit.injEq,Lit.int.injEq,true_and] at e2
  rw [hc,←e2]
  rfl
 refine ⟨some a,cap,by rw [hcs,List.length_map],by simp,fun hn=>⟨a,rfl,?_,?_⟩⟩
 ·cases zs with
  |nil=>simp at hn
  |cons z zs=>
   have:=World.block_lt_of_cell? W _ (hcell 0 z rfl)
   simpa [Addr.add] using this
 ·intro j u hu
  rw [List.getElem?_map] at hu
  cases hz:zs[j]? with
  |none=>simp [hz] at hu
  |some z=>rw [hz] at hu;cases hu;exact hcell j z hz
theorem qrx {W:World} (h:laidMetH Tryz.prog Rows.archiveOneRow.laid W):Laid W.heap.size W:=by
 rw [MakeChecks.laidMetH_plain _ _ _ kr] at h
 obtain ⟨g1, t1, cs1, f1, p1, hg1, ht1, hv1, hd1⟩ := Lib.laidMet.reads h (n := "quantum/event.fields") (d := Rows.laid_quantum_event_fields) (List.mem_cons_self ..)
 obtain ⟨g2, t2, cs2, f2, p2, hg2, ht2, hv2, hd2⟩ := Lib.laidMet.reads h (n := "quantum/event.uses") (d := Rows.laid_quantum_event_uses) (List.mem_cons_of_mem _ (List.mem_cons_self ..))
 have Nr : Tryz.prog.globalNamed "quantum/event.fields" = some 3 := by kernel_rfl
 have Ns : Tryz.prog.globalNamed "quantum/event.uses" = some 2 := by kernel_rfl
 obtain rfl:=Option.some.inj (Nr.symm.trans hg1)
 obtain rfl:=Option.some.inj (Ns.symm.trans hg2)
 have Wx:(Tryz.prog.globals[3]?).map (·.type)=some 459:=by kernel_rfl
 have Wy:(Tryz.prog.globals[2]?).map (·.type)=some 410:=by kernel_rfl
 obtain rfl:=Option.some.inj (Wx.symm.trans ht1)
 obtain rfl:=Option.some.inj (Wy.symm.trans ht2)
 have H7:Tryz.prog.cellsOf 9=1:=by kernel_rfl
 have H8:Tryz.prog.cellsOf 38=1:=by kernel_rfl
 have c1:∀i v,cs1.toList[i]?=some v→W.cell? ⟨3,i,none⟩=some v:=fun i v hv=>by
  rw [World.var?_cell Nr hv1 i];simpa using hv
 have c2:∀i v,cs2.toList[i]?=some v→W.cell? ⟨2,i,none⟩=some v:=fun i v hv=>by
  rw [World.var?_cell Ns hv2 i];simpa using hv
 have La:∀(cs:List Value) (i:Nat) (v:Value),(cs.drop (i*1)).take 1=[v]→cs[i]?=some v:=by
  intro cs i v h
  have:=congrArg (·[0]?) h
  simpa [List.getElem?_take,List.getElem?_drop] using this
 have str:∀i,i<7→∃s:ByteArray,W.cell? ⟨3,i,none⟩=some (.string s):=by
  intro i hi
  obtain ⟨f',d,q,_,ht⟩:=Lib.array_elem (n:=7) (e:=9) kr hd1 i hi
  rw [H7] at ht
  obtain ⟨s,hs,_⟩:=DataW.trod_string kr ht
  exact ⟨s,c1 i _ (La _ _ _ hs)⟩
 have row:∀k,k<11→∃A c,W.cell? ⟨2,k,none⟩=some (.slice A (aJ k).length c)∧Rd W W.heap.size 1 A (aJ k).length ((aJ k).map bI):=by
  intro k hk
  obtain ⟨f',d,q,hd,ht⟩:=Lib.array_elem (n:=11) (e:=38) kr hd2 k hk
  rw [H8] at ht
  by_cases h0:k=0
  ·subst h0
   simp only [List.getElem?_cons_zero,Option.some.injEq] at hd
   subst hd
   rcases DataW.trod_slice (e:=3) kr ht with ⟨hc,_⟩|⟨a,len,cap,elems,rest,n,_,_,hx,_⟩
   ·exact ⟨none,0,c2 0 _ (La _ _ _ hc),Rd.nil⟩
   ·simp at hx
  ·have hd':d= .slice ((aJ k).map fun z:Nat=> .lit (.int .i64 (z:Int))) []:=by
    have hk':k=1∨k=2∨k=3∨k=4∨k=5∨k=6∨k=7∨k=8∨k=9∨k=10:=by omega
    rcases hk' with rfl|rfl|rfl|rfl|rfl|rfl|rfl|rfl|rfl|rfl<;>exact (Option.some.inj hd).symm
   subst hd'
   obtain ⟨A,c,hc,hr⟩:=q51 ht
   exact ⟨A,c,c2 k _ (La _ _ _ hc),hr⟩
 refine ⟨row,?_,str,?_⟩
 ·obtain ⟨A,c,h1,_⟩:=row 0 om
  exact World.block_lt_of_cell? W _ h1
 ·obtain ⟨s,h1⟩:=str 0 om
  exact World.block_lt_of_cell? W _ h1
theorem qz2:Tryz.prog.underlying 61=some (.int .u32):=by kernel_rfl
set_option maxRecDepth 100000 in
theorem qo8 {W:World} (h:laidMetH Tryz.prog Rows.archiveOneRow.laid W):aO W.heap.size W:=by
 have hl:=qrx h
 rw [MakeChecks.laidMetH_plain _ _ _ kr] at h
 obtain ⟨g1, t1, cs1, f1, p1, hg1, ht1, hv1, hd1⟩ := Lib.laidMet.reads h (n := "quantum/crc.halves") (d := Rows.laid_quantum_crc_halves) (List.mem_cons_of_mem _ (List.mem_cons_of_mem _ (List.mem_cons_self ..)))
 obtain ⟨g2, t2, cs2, f2, p2, hg2, ht2, hv2, hd2⟩ := Lib.laidMet.reads h (n := "quantum/block.magic") (d := Rows.laid_quantum_block_magic) (List.mem_cons_of_mem _ (List.mem_cons_of_mem _ (List.mem_cons_of_mem _ (List.mem_cons_self ..))))
 have Nr : Tryz.prog.globalNamed "quantum/crc.halves" = some 1 := by kernel_rfl
 have Ns : Tryz.prog.globalNamed "quantum/block.magic" = some 0 := by kernel_rfl
 obtain rfl:=Option.some.inj (Nr.symm.trans hg1)
 obtain rfl:=Option.some.inj (Ns.symm.trans hg2)
 have Wx:(Tryz.prog.globals[1]?).map (·.type)=some 405:=by kernel_rfl
 have Wy:(Tryz.prog.globals[0]?).map (·.type)=some 287:=by kernel_rfl
 obtain rfl:=Option.some.inj (Wx.symm.trans ht1)
 obtain rfl:=Option.some.inj (Wy.symm.trans ht2)
 have H7:Tryz.prog.cellsOf 61=1:=by kernel_rfl
 have H8:Tryz.prog.cellsOf 5=1:=by kernel_rfl
 have c1:∀i v,cs1.toList[i]?=some v→W.cell? ⟨1,i,none⟩=some v:=fun i v hv=>by
  rw [World.var?_cell Nr hv1 i];simpa using hv
 have c2:∀i v,cs2.toList[i]?=some v→W.cell? ⟨0,i,none⟩=some v:=fun i v hv=>by
  rw [World.var?_cell Ns hv2 i];simpa using hv
 have La:∀(cs:List Value) (i:Nat) (v:Value),(cs.drop (i*1)).take 1=[v]→cs[i]?=some v:=by
  intro cs i v h
  have:=congrArg (·[0]?) h
  simpa [List.getElem?_take,List.getElem?_drop] using this
 have hal:∀k,k<16→W.cell? ⟨1,k,none⟩=some (.int .u32 ((xU.getD k 0:Nat):Int)):=by
  intro k hk
  obtain ⟨f',d,q,hd,ht⟩:=Lib.array_elem (n:=16) (e:=61) kr hd1 k hk
  rw [H7] at ht
  have hdk:d= .lit (.int .u32 ((xU.getD k 0:Nat):Int)):=by
   have hk':k=0∨k=1∨k=2∨k=3∨k=4∨k=5∨k=6∨k=7∨k=8∨k=9∨k=10∨k=11∨k=12∨k=13∨k=14∨k=15:=by omega
   rcases hk' with rfl|rfl|rfl|rfl|rfl|rfl|rfl|rfl|rfl|rfl|rfl|rfl|rfl|rfl|rfl|rfl<;>exact (Option.some.inj hd).symm
  subst hdk
  obtain ⟨z,e1,e2,_⟩:=DataW.trod_int qz2 ht
  have e2:=congrArg Prod.fst e2
  simp only [DataW.lit.injEq,Lit.int.injEq,true_and] at e2
  exact c1 k _ (by rw [La _ _ _ e1,←e2])
 have mag:∀k,k<2→W.cell? ⟨0,k,none⟩=some (.int .u8 (([113,116].getD k 0:Nat):Int)):=by
  intro k hk
  obtain ⟨f',d,q,hd,ht⟩:=Lib.array_elem (n:=2) (e:=5) kr hd2 k hk
  rw [H8] at ht
  have hdk:d= .lit (.int .u8 (([113,116].getD k 0:Nat):Int)):=by
   have hk':k=0∨k=1:=by omega
   rcases hk' with rfl|rfl<;>exact (Option.some.inj hd).symm
  subst hdk
  obtain ⟨z,e1,e2,_⟩:=DataW.trod_int U9 ht
  have e2:=congrArg Prod.fst e2
  simp only [DataW.lit.injEq,Lit.int.injEq,true_and] at e2
  exact c2 k _ (by rw [La _ _ _ e1,←e2])
 exact ⟨hl,hal,World.block_lt_of_cell? W _ (hal 0 om),mag 0 om,mag 1 om,World.block_lt_of_cell? W _ (mag 0 om)⟩
end Go.Proofs.YtekiimhdnigmcaaGreatDoor
namespace Go.Proofs.YtekiimhdnigmcaaGreatDoor
open Go.RowKit
theorem q52 (n:Nat) (hn:n≤1000000000000) (w:World):
    Calls Tryz.prog 276 #[vN,vI n] w fun r w'=>(∃A c,r= .returned (.slice A 0 c)∧w'.ownsRow w.heap.size 5 1 (.slice A 0 c) 0 [])∧Below w.heap.size w w':=by
 refine (jw Tryz.func276 27) ?_
 refine (JP∘Jp 1∘Jj∘JQ∘JP∘Jp 2∘aQ∘Jj) (Ju (fun hb6=>?_) fun hb6=>?_)
 ·
  intro a Z E
  have hd6:=of_decide_eq_true hb6
  omega
 intro a Z E
 have hd6:=of_decide_eq_false hb6
 refine Jb Z E ((JF∘aG∘JQ∘JP∘Jp 2∘Jy (h:=by exact Yl.cap rfl rfl kr)∘Jp 1∘Jl∘Jv 2 [(14,vI (IntKind.i64.wrap ((n:Int)-0)))]∘Jo (vI n) (by exact wJ om om)∘Jp 1∘aF∘Jr∘Jp 2∘aQ∘Jj) (Ji (fun kL=>?_) fun kL=>?_))
 ·
  refine (JT∘JR∘Jp 2∘Jy (h:=by exact Yl.cap rfl rfl kr)∘Jy (h:=by exact Yl.zG aL (j:=0) rfl rfl rfl om)∘Jp 1) fun a Z E=>?_
  refine fo Z 5 rfl rfl ?_
  refine qmx Z E (kn:= .i64) (m:=n) rfl aL kr rfl rfl om om om rfl de ?_
  clear Z E;intro a Fg g22 CQ Z E hc22
  refine Jb Z E ((Jp 1∘Jl∘Jy (h:=by exact Yl.zG aL (j:=0) rfl rfl rfl om)∘Jp 1∘aF∘Jq) fun a Z E=>?_)
  replace E:=(E.shrink (i:=0) (k:=0) rfl (Nat.zero_le _) (fun h=>by cases h)).lN (i:=0) (ys:=[]) rfl (by simp)
  exact Jb Z E ((JG∘JP∘Jp 2∘aQ∘Jj∘JZ∘aH) fun E=>by exact ⟨⟨_,_,rfl,E.own (i:=0) rfl⟩,E.below⟩)
 exact (JF∘aG∘JP∘Jp 2∘aQ∘Jj∘JZ∘aH) fun E=>by exact ⟨⟨_,_,rfl,World.ownsRow_nil _ _ _ _⟩,E.below⟩
theorem qww (A:Option Addr) (n c:Nat) (ps:List Part) (w:World) (hr:Rd w w.heap.size 1 A n (ps.map Part.val)) (hln:ps.length=n) (hn:n≤1000000) (hps:∀p∈ps,Rd w w.heap.size 1 p.A p.l.length (p.l.map B8)) (htot:(ps.flatMap (·.l)).length≤1000000000000):
    Calls Tryz.prog 229 #[.slice A n c] w (zz w (ps.flatMap (·.l))):=by
 refine (bZ Tryz.func229 36) ?_
 refine (JP∘Jp 1∘Jr∘Jp 1∘Jj∘JQ∘JP∘Jp 1∘Jl∘Jp 1∘Jj∘JB) fun a Z E=>?_
 refine qc (fun mS aS wS=>∃(k:Nat),(k≤n)∧mS=n-k∧Fr aS 36 [] [(11,vI k),(10,vI n),(9,.slice A n c),(3,vI (((ps.take k).flatMap (·.l)).length)),(2,vN),(0,.slice A n c)]∧Mem w wS []) (m:=n-0) ⟨0,Nat.zero_le _,rfl,Z.sub kr,E.pk []⟩ ?_
 clear Z E;rintro mS a w_ ⟨k,hk,rfl,Z,E⟩
 have hpk:=MS (l:=ps) k
 have alE:=MS (l:=ps) (k+1)
 refine Jb Z E ((JP∘Jp 1∘Jj∘JQ) (Ju (fun dR=>?_) fun dR=>?_))
 ·
  intro a Z E
  have iR:=of_decide_eq_true dR
  have Nt:k<n:=by omega
  refine Jb Z E ((JT∘aG∘JQ∘JB∘JP) ?_)
  repeat (first|clear Z|clear E)
  intro a Z E
  obtain ⟨gA,oA,rfl,_⟩:=hr.qd (Nat.lt_of_le_of_lt (Nat.zero_le _) (show k<n from by omega)) de
  refine Jb Z E ((Jy (h:=by exact Yl.ix gA oA k 1 rfl rfl rfl)∘Jy (v:= .slice ((ps.getD k (⟨none,0,[]⟩:Part)).A) ((ps.getD k (⟨none,0,[]⟩:Part)).l.length) ((ps.getD k (⟨none,0,[]⟩:Part)).c)) (h:=by exact Yl.qj rfl rfl kr (fun _ h=>(h.old hr).SC (k:=k) (E5 (F:=Part.val) (k:=k) (x:=(ps.getD k (⟨none,0,[]⟩:Part))) ((getD_at (⟨none,0,[]⟩:Part) (k:=k) (by first|omega|(simp;omega)))))))∘Jp 1∘aT∘Jr∘Jp 2∘Jl∘Jp 1∘Jo (vI (((ps.take (k+1)).flatMap (·.l)).length)) (by exact wJ (by rw [MR (d:=(⟨none,0,[]⟩:Part)) om,List.length_append];omega) (by have:=MS (l:=ps) (k+1);omega))∘Jp 1∘eZ∘Jr∘Jp 2∘aQ∘Jj) (Ju (fun fB=>?_) fun fB=>?_))
  ·
   intro a Z E
   have iA:=of_decide_eq_true fB
   omega
  intro a Z E
  have iA:=of_decide_eq_false fB
  refine Jb Z E ((JF∘aG∘JR∘bn 1∘Jp 1∘aQ∘Jq) fun a Z E=>?_)
  exact ⟨_,om,k+1,by omega,rfl,Z.sub kr,E.pk []⟩
 intro a Z E
 have iR:=of_decide_eq_false dR
 revert E;revert a;repeat (first|clear Z|clear E)
 intro a Z E
 obtain rfl:n=k:=by omega
 refine Jb Z E ((JF∘JX∘JG∘JP∘Jp 1∘JL (h:=by exact fun E=>q52 _ om _)) ?_)
 rintro E _ S9 ⟨⟨Wz,c24,rfl,ho⟩,hbw⟩
 refine ⟨_,rfl,_,E.bq hbw ho,?_⟩
 refine (Jp 1∘aT∘Jj∘JQ∘JP∘Jp 1∘Jl∘Jp 1∘Jj∘JB) fun a Z E=>?_
 refine qc (fun mS aS wS=>∃(k:Nat) (Ak:Option Addr) (ck:Nat),(k≤n)∧(((ps.take k).flatMap (·.l)).length≤ck)∧mS=n-k∧Fr aS 36 [] [(27,vI k),(26,vI n),(25,.slice A n c),(6,.slice Ak (((ps.take k).flatMap (·.l)).length) ck),(12,.bool false),(11,vI n),(10,vI n),(9,.slice A n c),(3,vI (((ps.take n).flatMap (·.l)).length)),(2,vN),(0,.slice A n c)]∧Mem w wS [.row (.slice Ak (((ps.take k).flatMap (·.l)).length) ck) (((ps.take k).flatMap (·.l)).length) (((ps.take k).flatMap (·.l)).map B8) 5 1]) (m:=n-0) ⟨0,Wz,c24,Nat.zero_le _,Nat.zero_le _,rfl,Z.sub kr,E.pk [0]⟩ ?_
 clear Z E;rintro mS a w_ ⟨k,Ak,ck,hk,hck,rfl,Z,E⟩
 refine Jb Z E ((JP∘Jp 1∘Jj∘JQ) (Ju (fun rJ=>?_) fun rJ=>?_))
 ·
  intro a Z E
  have hd28:=of_decide_eq_true rJ
  have alF:k<n:=by omega
  refine Jb Z E ((JT∘aG∘JQ∘JB∘JP) ?_)
  repeat (first|clear Z|clear E)
  intro a Z E
  obtain ⟨gA,oA,rfl,_⟩:=hr.qd (Nat.lt_of_le_of_lt (Nat.zero_le _) (show k<n from by omega)) de
  refine Jb Z E ((Jy (h:=by exact Yl.ix gA oA k 1 rfl rfl rfl)∘Jy (v:= .slice ((ps.getD k (⟨none,0,[]⟩:Part)).A) ((ps.getD k (⟨none,0,[]⟩:Part)).l.length) ((ps.getD k (⟨none,0,[]⟩:Part)).c)) (h:=by exact Yl.qj rfl rfl kr (fun _ h=>(h.old hr).SC (k:=k) (E5 (F:=Part.val) (k:=k) (x:=(ps.getD k (⟨none,0,[]⟩:Part))) ((getD_at (⟨none,0,[]⟩:Part) (k:=k) (by first|omega|(simp;omega)))))))∘Jp 1∘aT∘Jj∘JR∘Jp 2∘JD ((ps.getD k (⟨none,0,[]⟩:Part)).l.map B8) 0 (fun _ _=>bg) aL (hr:=by exact fun E=>E.old (hps _ (qi _ om))) (h1:=by exact mH _) (hb:=by have:=MS (l:=ps) (k+1);rw [MR (d:=(⟨none,0,[]⟩:Part)) om,List.length_append] at this;omega) (h63:=by have:=MS (l:=ps) (k+1);rw [MR (d:=(⟨none,0,[]⟩:Part)) om,List.length_append] at this;omega)) fun SV Lc Dy xW=>(Jp 1∘bQ∘Jq) fun a Z E=>?_)
  have zM:((ps.take k).flatMap (·.l)).length+(ps.getD k (⟨none,0,[]⟩:Part)).l.length=((ps.take (k+1)).flatMap (·.l)).length:=by rw [MR (d:=(⟨none,0,[]⟩:Part)) om,List.length_append]
  replace E:=E.aI (i:=0) (ys:=((ps.take (k+1)).flatMap (·.l)).map B8) rfl zM (by rw [MR (d:=(⟨none,0,[]⟩:Part)) om,List.map_append])
  rw [zM] at xW
  replace Z:=Z.sp 6 (.slice Lc (((ps.take (k+1)).flatMap (·.l)).length) Dy) rfl (by rw [zM])
  refine Jb Z E ((JG∘JR∘bn 1∘Jp 1∘aQ∘Jq) fun a Z E=>?_)
  exact ⟨_,om,k+1,Lc,Dy,by omega,xW,rfl,Z.sub kr,E.pk [0]⟩
 intro a Z E
 have hd28:=of_decide_eq_false rJ
 revert E;revert a;repeat (first|clear Z|clear E)
 intro a Z E
 obtain rfl:n=k:=by omega
 exact Jb Z E ((JF∘JX∘JG∘JP∘Jp 2∘aQ∘Jj∘JZ∘aH) fun E=>qid (E.own (i:=0) rfl) hck (by rw [List.take_of_length_le om]) (by rw [List.take_of_length_le om]) E.below)
theorem qwx (c:Nat) (hc:c<4294967296) (A:Option Addr) (n cp:Nat) (l:List Nat) (B:Nat) (w:World) (hL:aO B w) (hB:B≤w.heap.size) (hr:Rd w w.heap.size 1 A n (l.map B8)) (hln:l.length=n) (hn:n≤140737488355328) (hl:∀b∈l,b<256):
    Calls Tryz.prog 238 #[vW c,.slice A n cp] w (Is w (vW (qw c l:Int))):=by
 refine (jw Tryz.func238 33) ?_
 refine (JP∘Jp 1∘Jj∘JQ∘JP∘Jp 1∘Jl∘Jp 1∘Jj∘JB) fun a Z E=>?_
 refine qc (fun mS aS wS=>∃(k:Nat),(k≤n)∧mS=n-k∧Fr aS 33 [] [(9,vI k),(8,vI n),(7,.slice A n cp),(4,vW 0),(0,vW (qw c (l.take k)))]∧Mem w wS []) (m:=n-0) ⟨0,Nat.zero_le _,rfl,Z.sub kr,E.pk []⟩ ?_
 clear Z E;rintro mS a w_ ⟨k,hk,rfl,Z,E⟩
 have hcr:=M9 (l.take k) hc (yQ hl k)
 refine Jb Z E ((JP∘Jp 1∘Jj∘JQ) (Ju (fun fO=>?_) fun fO=>?_))
 ·
  intro a Z E
  have fM:=of_decide_eq_true fO
  refine Jb Z E ((JT∘aG∘JQ∘JB∘JP) ?_)
  repeat (first|clear Z|clear E)
  intro a Z E
  obtain ⟨gA,oA,rfl,_⟩:=hr.qd (Nat.lt_of_le_of_lt (Nat.zero_le _) (show k<n from by omega)) de
  refine Jb Z E ((Jy (h:=by exact Yl.ix gA oA k 1 rfl rfl rfl)∘JH (getD_lt hl (k:=k) (by first|omega|(simp;omega)))) fun hx1=>(Jy (h:=by exact Yl.o1 hr k 0 (by first|omega|(simp;omega)) rfl rfl)∘Jp 1∘aT∘Jr∘Jp 2∘Jw .u32∘Jp 1∘Jo (vW ((qw c (l.take k))^^^ (l.getD k 0):Nat)) (by exact MP (m:=qw c (l.take k)) (n:=(l.getD k 0)) om om)∘Jp 1∘eZ∘Jq) fun a Z E=>?_)
  have hy:=M8 hcr (show l.getD k 0<4294967296 by omega)
  refine Jb Z E ((JG∘JP∘Jp 2∘Jo (vW (((qw c (l.take k))^^^ (l.getD k 0))/16:Nat)) (by exact Dn .u32 ((qw c (l.take k))^^^ (l.getD k 0)) (j:=4) (q:=16) rfl rfl)∘Jp 2∘Jo (vW (((qw c (l.take k))^^^ (l.getD k 0))%16:Nat)) (by exact qt0 (n:=15) (j:=4) rfl de om)∘Jy (v:=vP 1 ((((qw c (l.take k))^^^ (l.getD k 0))%16)*1)) (h:=by exact (Yl.MQ (ad:=⟨1,0,none⟩) (m:=16) (y:=((qw c (l.take k))^^^ (l.getD k 0))%16) (sz:=1) rfl rfl rfl kr om).as (by rw [Addr.add_mid,Nat.zero_add]))∘Jy (v:=vW (xU.getD (((qw c (l.take k))^^^ (l.getD k 0))%16) 0)) (h:=by exact Yl.qj rfl rfl kr (fun _ h=>qt5 hL h hB (k:=(((qw c (l.take k))^^^ (l.getD k 0))%16)) om))∘Jp 1∘Jo (vW (uX (qw c (l.take k)^^^l.getD k 0))) (by have h:=MP (m:=(qw c (l.take k)^^^l.getD k 0)/16) (n:=xU.getD ((qw c (l.take k)^^^l.getD k 0)%16) 0) om (Wd _ om);exact h)∘Jp 1∘aF∘Jq) fun a Z E=>?_)
  have hz:=zdg hy
  refine Jb Z E ((JG∘JR∘Jp 2∘Jo (vW ((uX (qw c (l.take k)^^^l.getD k 0))/16:Nat)) (by exact Dn .u32 (uX (qw c (l.take k)^^^l.getD k 0)) (j:=4) (q:=16) rfl rfl)∘Jp 2∘Jo (vW ((uX (qw c (l.take k)^^^l.getD k 0))%16:Nat)) (by exact qt0 (n:=15) (j:=4) rfl de om)∘Jy (v:=vP 1 (((uX (qw c (l.take k)^^^l.getD k 0))%16)*1)) (h:=by exact (Yl.MQ (ad:=⟨1,0,none⟩) (m:=16) (y:=(uX (qw c (l.take k)^^^l.getD k 0))%16) (sz:=1) rfl rfl rfl kr om).as (by rw [Addr.add_mid,Nat.zero_add]))∘Jy (v:=vW (xU.getD ((uX (qw c (l.take k)^^^l.getD k 0))%16) 0)) (h:=by exact Yl.qj rfl rfl kr (fun _ h=>qt5 hL h hB (k:=((uX (qw c (l.take k)^^^l.getD k 0))%16)) om))∘Jp 1∘Jo (vW (qw c (l.take (k+1)))) (by have h:=MP (m:=uX (qw c (l.take k)^^^l.getD k 0)/16) (n:=xU.getD (uX (qw c (l.take k)^^^l.getD k 0)%16) 0) om (Wd _ om);rw [qjk om];exact h)∘Jp 1∘aF∘Jj∘JR∘bn 1∘Jp 1∘aQ∘Jq) fun a Z E=>?_)
  exact ⟨_,om,k+1,by omega,rfl,Z.sub kr,E.pk []⟩
 intro a Z E
 have fM:=of_decide_eq_false fO
 revert E;revert a;repeat (first|clear Z|clear E)
 intro a Z E
 obtain rfl:n=k:=by omega
 exact Jb Z E ((JF∘JX∘JG∘JP∘Jp 2∘aQ∘Jj∘JZ∘aH) fun E=>by exact ⟨by rw [List.take_of_length_le om],E.below⟩)
theorem qwy (c:Nat) (hc0:c<4294967296) (A:Option Addr) (n cp:Nat) (l:List Nat) (B:Nat) (w:World) (hL:aO B w) (hB:B≤w.heap.size) (hr:Rd w w.heap.size 1 A n (l.map B8)) (hln:l.length=n) (hn:n≤140737488355328) (hl:∀b∈l,b<256):
    Calls Tryz.prog 167 #[vW c,.slice A n cp] w (Is w (vW ((qw (c^^^4294967295) l^^^4294967295:Nat):Int))):=by
 refine (jw Tryz.func167 10) ?_
 refine (JP∘Jp 1∘Jq) fun a Z E=>?_
 have hc:=M8 hc0 (show 4294967295<4294967296 by decide)
 have hcr:=M9 l hc hl
 exact Jb Z E ((JG∘JP∘Jp 1∘Jy (v:=vW (c^^^4294967295:Nat)) (h:=by exact Yl.zfe (m:=c) rfl rfl om)∘Jp 1∘JI (h:=by exact fun E=>qwx _ hc _ _ _ l B _ (hL.mem E hB) (E.le hB) (E.old hr) hln hn hl)) fun w8 hbw=>(Jy (v:=vW ((qw (c^^^4294967295) l)^^^4294967295:Nat)) (h:=by exact Yl.zfe (m:=qw (c^^^4294967295) l) rfl rfl om)∘Jp 1∘jq∘Jj∘JZ) uI)
theorem qla (A:Option Addr) (n cp:Nat) (l:List Nat) (B:Nat) (w:World) (hL:aO B w) (hB:B≤w.heap.size) (hr:Rd w w.heap.size 1 A n (l.map B8)) (hln:l.length=n) (hn:n≤140737488355328) (hl:∀b∈l,b<256):
    Calls Tryz.prog 108 #[.slice A n cp] w (Is w (vW (qu l:Int))):=by
 refine (bZ Tryz.func108 5) ?_
 refine (JP∘Jp 1∘Jr∘Jp 1∘JL (h:=by exact fun E=>qwy 0 de _ _ _ l B _ (hL.mem E hB) (E.le hB) (E.old hr) hln hn hl)) ?_
 rintro E _ w4 ⟨rfl,hbw⟩
 rw [show (qw (0^^^4294967295) l^^^4294967295:Nat)=qu l from q49 (M9 l de hl)]
 refine ⟨_,rfl,_,E.call hbw,?_⟩
 exact (Jp 1∘aT∘Jj∘JZ) uI
theorem zag {w w':World} {l:List Nat} {n c:Nat} {A:Option Addr} (hln:l.length=n) (ho:w'.ownsRow w.heap.size 5 1 (.slice A (0+n+4) c) (0+n+4) ([]++l.map B8++(uY (qu l)).map B8)) (hc:0+n+4≤c) (hb:Below w.heap.size w w'):qx w 0 (bF l) (.returned (.tuple #[.slice A (0+n+4) c,vI 0])) w':=by
 have e:0+n+4=(bF l).length:=by rw [Fe];omega
 rw [e] at ho hc⊢
 refine ⟨⟨A,c,rfl,?_,hc⟩,hb⟩
 have e2:([]++l.map B8++(uY (qu l)).map B8)=(bF l).map B8:=by simp [bF]
 rw [e2] at ho
 exact ho
theorem WA (A:Option Addr) (n cp:Nat) (l:List Nat) (B:Nat) (w:World) (hL:aO B w) (hB:B≤w.heap.size) (hr:Rd w w.heap.size 1 A n (l.map B8)) (hln:l.length=n) (hn:n≤16777216) (hl:∀b∈l,b<256):
    Calls Tryz.prog 48 #[.slice A n cp] w (qx w 0 (bF l)):=by
 refine (bZ Tryz.func48 31) ?_
 refine (JP∘Jp 2∘Jj∘JQ∘JP∘Jp 1∘Jl∘Jp 1∘aT∘Jj) (Ju (fun kP=>?_) fun kP=>?_)
 ·
  intro a Z E
  have pQ:=of_decide_eq_true kP
  omega
 intro a Z E
 have pQ:=of_decide_eq_false kP
 refine Jb Z E ((JF∘aG∘JP∘Jp 1∘JI (h:=by exact fun E=>qla _ _ _ l B _ (hL.mem E hB) (E.le hB) (E.old hr) (hln) om (hl))) fun ru hbw=>(Jp 1∘aT∘Jq) fun a Z E=>?_)
 have hcs:=qo1 l
 refine Jb Z E ((JG∘JP∘Jp 1∘Jl∘bn 4) fun a Z E=>?_)
 refine fo Z 3 rfl rfl ?_
 refine q98 Z E (m:=(n+4)) rfl aL rfl rfl om om rfl de ?_
 clear Z E;intro a Fj g14 Z E
 exact Jb Z E ((Jp 1∘JD (l.map B8) 0 (fun _ _=>bg) aL (hr:=by exact fun E=>E.old hr) (h1:=by exact mH _)) fun w16 jg c16 hc16=>(Jp 1∘aF∘Jr∘Jp 2∘Jv 1 [(19,vB (IntKind.u8.wrap (qu l:Int)))]∘Jo (vB ((qu l)%256:Nat)) (by exact rC (qu l))∘Jp 2∘Jo (vW ((qu l)/256:Nat)) (by exact Dn .u32 (qu l) (j:=8) (q:=256) rfl rfl)∘Jv 1 [(22,vB (IntKind.u8.wrap (((qu l)/256:Nat):Int)))]∘Jo (vB (((qu l)/256)%256:Nat)) (by exact rC ((qu l)/256))∘Jp 2∘Jo (vW ((qu l)/65536:Nat)) (by exact Dn .u32 (qu l) (j:=16) (q:=65536) rfl rfl)∘Jv 1 [(25,vB (IntKind.u8.wrap (((qu l)/65536:Nat):Int)))]∘Jo (vB (((qu l)/65536)%256:Nat)) (by exact rC ((qu l)/65536))∘Jp 2∘Jo (vW ((qu l)/16777216:Nat)) (by exact Dn .u32 (qu l) (j:=24) (q:=16777216) rfl rfl)∘Jv 1 [(28,vB (IntKind.u8.wrap (((qu l)/16777216:Nat):Int)))]∘Jo (vB (((qu l)/16777216)%256:Nat)) (by exact rC ((qu l)/16777216))∘JU aL #[vB ((qu l)%256:Nat),vB (((qu l)/256)%256:Nat),vB (((qu l)/65536)%256:Nat),vB (((qu l)/16777216)%256:Nat)]) fun Dz g29=>(JD ((uY (qu l)).map B8) 1 (fun _ _=>gQ) aL (hr:=by exact fun E=>E.aN (i:=0) (n:=4) (size:=1) rfl rfl) (h1:=by exact mH _)) fun w30 A30 c30 WB=>(Jp 2∘Jj∘JZ∘JM (.f .n)∘bW) fun E=>zag hln (E.own (i:=0) rfl) WB E.below)
theorem qwz {l:List Nat} {n:Nat} (hln:l.length=n) (h:4≤n):(((qu (l.take (n-4)):Nat):Int)==((l.getD (n-4) 0+l.getD (n-4+1) 0*256+l.getD (n-4+2) 0*65536+l.getD (n-4+3) 0*16777216:Nat):Int))=zq l:=by
 subst hln
 have hd:∀i,(l.drop (l.length-4)).getD i 0=l.getD (l.length-4+i) 0:=fun i=>by rw [List.getD_eq_getElem?_getD,List.getElem?_drop,←List.getD_eq_getElem?_getD]
 unfold zq mP
 rw [hd,hd,hd,hd,Bool.eq_iff_iff,beq_iff_eq,decide_eq_true_eq]
 simp only [Nat.add_zero]
 constructor
 ·intro h1;exact ⟨h,by omega⟩
 ·intro h1;have:=h1.2;omega
theorem qo9 {l:List Nat} {n:Nat} (hln:l.length=n) (h:n<4):zq l=false:=by unfold zq;rw [decide_eq_false];omega
def ku (l:List Nat):Nat→Nat
 |0=>0
 |k+1=>ku l k*256+l.getD (3-k) 0
theorem qpa (l:List Nat):ku l 4=mP l:=by simp [ku,mP];omega
theorem qt7 {l:List Nat} (hl:∀b∈l,b<256) (hn:4≤l.length):∀k,k≤4→ku l k<256^k
 |0,_=>by show 0<1;decide
 |k+1,h=>by
  have h1:=qt7 hl hn k om
  have h2:=getD_lt hl (k:=3-k) om
  rw [ku,Nat.pow_succ]
  omega
theorem qry {l:List Nat} (hl:∀b∈l,b<256) (hn:4≤l.length) {k:Nat} (h:k≤4):ku l k<4294967296:=by
 have h1:=qt7 hl hn k h
 have h2:(256:Nat)^k≤256^4:=Nat.pow_le_pow_right de h
 omega
theorem WC (A:Option Addr) (n cp:Nat) (l:List Nat) (B:Nat) (w:World) (hL:aO B w) (hB:B≤w.heap.size) (hr:Rd w w.heap.size 1 A n (l.map B8)) (hc:n≤cp) (hln:l.length=n) (hn:n≤140737488355328) (hl:∀b∈l,b<256):
    Calls Tryz.prog 53 #[.slice A n cp] w (Is w (.bool (zq l))):=by
 refine (bZ Tryz.func53 43) ?_
 refine (JP∘Jp 1∘Jr∘Jp 1∘Jl∘Jp 1∘Jo (vI ((n:Int)-4)) (by exact Dp ⟨by omega,by omega⟩)∘Jp 1∘bQ∘Jj∘JQ∘JP∘Jp 2∘aQ∘Jj) (Ju (fun kP=>?_) fun kP=>?_)
 ·
  intro a Z E
  have pQ:=of_decide_eq_true kP
  exact Jb Z E ((JT∘JP∘Jp 1∘Jj∘JZ∘aH) fun E=>by exact ⟨by rw [qo9 hln om],E.below⟩)
 intro a Z E
 have pQ:=of_decide_eq_false kP
 replace Z:=Z.sp 3 (vI ((n-4:Nat):Int)) rfl (by congr 1;omega)
 refine Jb Z E ((JF∘aG) fun a Z E=>?_)
 refine wp_seq ?_
 refine Jb Z E ((Vs .n []) fun wd4=>(Vp [0,1,4,5,9,10,17,18,25,26]∘Vy 2 (h:=by exact Yl.zG aL (j:=n-4) rfl rfl rfl om)) ?_)
 repeat (first|clear Z|clear E|clear HS)
 intro a Z E HS
 obtain ⟨gA,oA,rfl,_⟩:=hr.qd (Nat.lt_of_le_of_lt (Nat.zero_le _) (show n-4<n from by omega)) de
 exact Vb Z E HS ((Vy 6 (h:=by exact Yl.ix gA oA (n-4) 1 rfl rfl rfl)∘VH (getD_lt hl (k:=(n-4)) (by first|omega|(simp;omega)))) fun alM=>(Vy 7 (h:=by exact Yl.o1 hr (n-4) 0 (by first|omega|(simp;omega)) rfl rfl)∘Vw 8 .u32∘K3 11 1∘Vy 12 (h:=by exact Yl.ix gA oA ((n-4)+1) 1 rfl rfl rfl)∘VH (getD_lt hl (k:=((n-4)+1)) (by first|omega|(simp;omega)))) fun alN=>(Vy 13 (h:=by exact Yl.o1 hr ((n-4)+1) 0 (by first|omega|(simp;omega)) rfl rfl)∘Vw 14 .u32∘Vp [15]∘Vo (vW ((l.getD ((n-4)+1) 0)*256:Nat)) (by exact E8 (by rw [show (2:Int)^ (min (8:Int).toNat (IntKind.u32).bits)=256 from rfl];omega) om)∘Vp [16]∘Vo (vW (l.getD (n-4) 0+l.getD (n-4+1) 0*256:Nat)) (by exact VU (m:=l.getD (n-4) 0) (n:=l.getD (n-4+1) 0) (j:=8) (p:=256) rfl om om)∘K3 19 2∘Vy 20 (h:=by exact Yl.ix gA oA ((n-4)+2) 1 rfl rfl rfl)∘VH (getD_lt hl (k:=((n-4)+2)) (by first|omega|(simp;omega)))) fun alO=>(Vy 21 (h:=by exact Yl.o1 hr ((n-4)+2) 0 (by first|omega|(simp;omega)) rfl rfl)∘Vw 22 .u32∘Vp [23]∘Vo (vW ((l.getD ((n-4)+2) 0)*65536:Nat)) (by exact E8 (by rw [show (2:Int)^ (min (16:Int).toNat (IntKind.u32).bits)=65536 from rfl];omega) om)∘Vp [24]∘Vo (vW (l.getD (n-4) 0+l.getD (n-4+1) 0*256+l.getD (n-4+2) 0*65536:Nat)) (by exact VU (m:=l.getD (n-4) 0+l.getD (n-4+1) 0*256) (n:=l.getD (n-4+2) 0) (j:=16) (p:=65536) rfl om om)∘K3 27 3∘Vy 28 (h:=by exact Yl.ix gA oA ((n-4)+3) 1 rfl rfl rfl)∘VH (getD_lt hl (k:=((n-4)+3)) (by first|omega|(simp;omega)))) fun WE=>(Vy 29 (h:=by exact Yl.o1 hr ((n-4)+3) 0 (by first|omega|(simp;omega)) rfl rfl)∘Vw 30 .u32∘Vp [31]∘Vo (vW ((l.getD ((n-4)+3) 0)*16777216:Nat)) (by exact E8 (by rw [show (2:Int)^ (min (24:Int).toNat (IntKind.u32).bits)=16777216 from rfl];omega) om)∘Vp [32]∘Vo (vW (l.getD (n-4) 0+l.getD (n-4+1) 0*256+l.getD (n-4+2) 0*65536+l.getD (n-4+3) 0*16777216:Nat)) (by exact VU (m:=l.getD (n-4) 0+l.getD (n-4+1) 0*256+l.getD (n-4+2) 0*65536) (n:=l.getD (n-4+3) 0) (j:=24) (p:=16777216) rfl om om)∘VI 3 .n (h:=by exact fun E=>qla _ _ _ (l.take (n-4)) B _ (hL.mem E hB) (E.le hB) ((E.old hr).G8 om) (by rw [List.length_take];omega) om (yQ hl _))) fun Ld hbw=>(Vp [33,34]∘Vd∘aF∘JZ∘aH) fun E=>by exact ⟨by rw [qwz hln om],E.below⟩)
theorem Nu {w w':World} {l:List Nat} {n e:Nat} (h:aU l=(n,e)) (hb:Below w.heap.size w w'):Is w (.tuple #[vI ((aU l).1:Int),vI ((aU l).2:Int)]) (.returned (.tuple #[vI n,vI e])) w':=by rw [h];exact ⟨rfl,hb⟩
theorem qw0 (A:Option Addr) (n cp:Nat) (l:List Nat) (w:World) (hr:Rd w w.heap.size 1 A n (l.map B8)) (hln:l.length=n) (hn:n≤9223372036854775807) (hl:∀b∈l,b<256):
    Calls Tryz.prog 181 #[.slice A n cp] w (Is w (.tuple #[vI ((aU l).1:Int),vI ((aU l).2:Int)])):=by
 refine (bZ Tryz.func181 34) ?_
 refine (JP∘Jp 2∘Jj∘JQ∘JP∘Jp 1∘Jl∘Jp 1∘aT∘Jj) (Ji (fun pQ=>?_) fun pQ=>?_)
 ·
  exact (JT∘JP∘Jp 2∘Jj∘JZ∘bW) fun E=>Nu (by unfold aU;rw [if_pos om]) E.below
 refine (JF∘aG∘JP∘Jp 1∘Jj∘JQ∘JP∘Jp 1∘Jj∘JB) fun a Z E=>?_
 refine qc (fun mS aS wS=>∃(k:Nat),(k≤4)∧mS=4-k∧Fr aS 34 [] [(5,vI (3- (k:Int))),(4,vI (ku l k)),(8,.bool false),(3,vI 0),(2,vI 0),(0,.slice A n cp)]∧Mem w wS []) (m:=4-0) ⟨0,Nat.zero_le _,rfl,Z.sub kr,E.pk []⟩ ?_
 clear Z E;rintro mS a w_ ⟨k,hk,rfl,Z,E⟩
 have hu:=qry hl om hk
 refine Jb Z E ((JQ∘JP∘Jp 2∘aQ∘Jj) (Ju (fun fO=>?_) fun fO=>?_))
 ·
  intro a Z E
  have fM:=of_decide_eq_true fO
  have hk3:k≤3:=by omega
  refine Jb Z E ((JT∘aG∘JQ∘JB∘JR∘Jp 2∘Jo (vI ((ku l k)*256:Nat)) (by exact wJ (by rw [show (2:Int)^ (min (8:Int).toNat (IntKind.i64).bits)=256 from rfl];omega) om)∘Jp 2∘Jo (vI (3-k:Nat)) (by congr 1;omega)) ?_)
  repeat (first|clear Z|clear E)
  intro a Z E
  obtain ⟨gA,oA,rfl,_⟩:=hr.qd (Nat.lt_of_le_of_lt (Nat.zero_le _) (show 3-k<n from by omega)) de
  refine Jb Z E ((Jy (h:=by exact Yl.ix gA oA (3-k) 1 rfl rfl rfl)∘JH (getD_lt hl (k:=(3-k)) (by first|omega|(simp;omega)))) fun hx1=>(Jy (h:=by exact Yl.o1 hr (3-k) 0 (by first|omega|(simp;omega)) rfl rfl)∘Jw .i64∘Jp 1∘Jo (vI (ku l (k+1))) (by have h:=q45 (m:=ku l k) (n:=l.getD (3-k) 0) (j:=8) (p:=256) rfl om om;exact h)∘Jp 1∘aF∘Jj∘JR∘Jp 2∘Jo (vI (3- ((k+1:Nat):Int))) (by rw [IntWalk.i64_in _ om];congr 1;omega)∘Jp 1∘aT∘Jq) fun a Z E=>?_)
  exact ⟨_,om,k+1,by omega,rfl,Z.sub kr,E.pk []⟩
 intro a Z E
 have fM:=of_decide_eq_false fO
 revert E;revert a;repeat (first|clear Z|clear E)
 intro a Z E
 obtain rfl:k=4:=by omega
 replace Z:=Z.sp 4 (vI (mP l:Int)) rfl (by rw [qpa])
 rw [qpa] at hu
 refine Jb Z E ((JF∘JX∘JG∘JQ∘JB∘JP∘Jp 3) (Ji (fun hd24=>?_) fun hd24=>?_))
 ·
  exact (Jp 4∘aF∘Jj∘JT∘JP∘Jp 2∘Jj∘JZ∘bW) fun E=>Nu (by unfold aU;rw [if_neg om,if_pos om]) E.below
 refine (Jp 4∘aF∘Jj) (Ji (fun nO=>?_) fun nO=>?_)
 ·
  exact (JT∘JP∘Jp 2∘Jj∘JZ∘bW) fun E=>Nu (by unfold aU;rw [if_neg om,if_pos om]) E.below
 refine (JF∘JP∘Jp 2∘Jl∘Jp 2∘eZ∘Jj) (Ji (fun hd28=>?_) fun hd28=>?_)
 ·
  exact (JT∘JP∘Jp 2∘Jj∘JZ∘bW) fun E=>Nu (by unfold aU;rw [if_neg om,if_neg om,if_pos om]) E.below
 exact (JF∘aG∘JP∘Jp 3∘Jj∘JZ∘bW) fun E=>Nu (by unfold aU;rw [if_neg om,if_neg om,if_neg om]) E.below
theorem qz3 (g:Nat) (b:Bk) (hok:b.Ok) (A:Option Addr) (c B:Nat) (w:World) (hL:aO B w) (hB:B≤w.heap.size) (hr:Rd w w.heap.size 11 A b.evs.length (b.evs.flatMap eF)) (hn:b.evs.length≤1000000) (hb:w.heap[g]?=some (.cells (b.cells A c) 85 (0,0))):
    Calls Tryz.prog 225 #[vP g 0] w (Is w (.bool b.rZ)):=by
 refine (bZ Tryz.func225 47) ?_
 refine (JP∘Jp 1∘Jj∘JQ∘JP∘Jf 4∘Jy (v:= .slice A b.evs.length c) (h:=by exact Yl.qj rfl rfl kr (fun _ h=>h.rD hb rfl))∘JI (h:=by exact fun E=>zdk A b.evs.length c b.evs hok.evs B _ (hL.mem E hB).laid (E.le hB) (E.old hr) om (i:=(eu b.evs).1) (er:=(eu b.evs).2) rfl)) fun w7 hbw=>(Jp 1∘Jx∘Jx∘Jp 2∘aF∘Jr∘Jp 3) (Jh (fun iR=>?_) fun iR=>?_)
 ·
  exact (Jv 19 [(31,.bool true)]∘jq∘Jj∘JT∘JP∘Jp 1∘Jj∘JZ∘aH) fun E=>by exact ⟨by rw [show b.rZ=false from decide_eq_false om],E.below⟩
 refine (Jf 1∘Jy (v:=vB b.cpu) (h:=by exact Yl.qj rfl rfl kr (fun _ h=>h.rD hb rfl))∘Jp 3) (Ji (fun iQ=>?_) fun iQ=>?_)
 ·
  exact (Jv 14 [(31,.bool true)]∘aF∘Jj∘JT∘JP∘Jp 1∘Jj∘JZ∘aH) fun E=>by exact ⟨by rw [show b.rZ=false from decide_eq_false om],E.below⟩
 refine (Jf 2∘Jy (v:=vI b.lost) (h:=by exact Yl.qj rfl rfl kr (fun _ h=>h.rD hb rfl))∘Jp 3) (Ji (fun jf=>?_) fun jf=>?_)
 ·
  exact (Jv 9 [(31,.bool true)]∘aF∘Jj∘JT∘JP∘Jp 1∘Jj∘JZ∘aH) fun E=>by exact ⟨by rw [show b.rZ=false from decide_eq_false om],E.below⟩
 refine (Jf 2∘Jy (v:=vI b.lost) (h:=by exact Yl.qj rfl rfl kr (fun _ h=>h.rD hb rfl))∘Jp 3) (Ji (fun hd27=>?_) fun hd27=>?_)
 ·
  exact (Jp 4∘aF∘Jj∘JT∘JP∘Jp 1∘Jj∘JZ∘aH) fun E=>by exact ⟨by rw [show b.rZ=false from decide_eq_false om],E.below⟩
 refine (Jf 3∘Jy (v:=vI b.next) (h:=by exact Yl.qj rfl rfl kr (fun _ h=>h.rD hb rfl))∘Jp 2∘aF∘Jj) (Jh (fun hd31=>?_) fun hd31=>?_)
 ·
  exact (JT∘JP∘Jp 1∘Jj∘JZ∘aH) fun E=>by exact ⟨by rw [show b.rZ=false from decide_eq_false om],E.below⟩
 refine (JF∘aG∘JQ∘JP∘Jf 4∘Jy (v:= .slice A b.evs.length c) (h:=by exact Yl.qj rfl rfl kr (fun _ h=>h.rD hb rfl))∘Jl∘Jp 1∘bQ∘Jj) (Je (fun lV=>?_) fun lV=>?_)
 ·
  exact (JT∘JP∘Jf 2∘Jy (v:=vI b.lost) (h:=by exact Yl.qj rfl rfl kr (fun _ h=>h.rD hb rfl))∘Jp 2∘bQ∘Jj∘JZ∘aH) fun E=>by exact ⟨by rw [Bool.eq_iff_iff.2 (show (decide ((b.lost:Int)>(0:Int)))=true↔b.rZ=true by unfold Bk.rZ;rw [Ww om];simp only [decide_eq_true_eq,beq_iff_eq];omega)],E.below⟩
 refine (JF∘aG) fun a Z E=>?_
 refine wp_seq ?_
 refine Jb Z E ((Vs .n []) fun Ta=>(Vf 0 4∘Vf 5 1∘Vy 1 (v:= .slice A b.evs.length c) (h:=by exact Yl.qj rfl rfl kr (fun _ h=>h.rD hb rfl))) ?_)
 repeat (first|clear Z|clear E|clear HS)
 intro a Z E HS
 obtain ⟨gA,oA,rfl,_⟩:=hr.qd (Nat.lt_of_le_of_lt (Nat.zero_le _) (show 0<b.evs.length from by omega)) de
 exact Vb Z E HS ((Vy 2 (v:=vP gA oA) (h:=by exact Yl.indexAddr (ad:=⟨gA,oA,none⟩) (y:=0) (sz:=11) rfl rfl rfl om kr)∘Vf 3 2∘Vy 4 (v:=vB ((b.evs.getD 0 Ev.zero).cpu)) (h:=by exact Yl.qj rfl rfl kr (fun _ h=>(h.old hr).partAt zf (k:=0) (j:=2) (x:=(b.evs.getD 0 Ev.zero)) ((getD_at Ev.zero (k:=0) (by first|omega|(simp;omega)))) rfl))∘Vy 6 (v:=vB b.cpu) (h:=by exact Yl.qj rfl rfl kr (fun _ h=>h.rD hb rfl))∘Vp [7,8]∘Vd∘aF∘JZ∘aH) fun E=>by exact ⟨by rw [Bool.eq_iff_iff.2 (show (((b.evs.getD 0 Ev.zero).cpu:Int)==(b.cpu:Int))=true↔b.rZ=true by unfold Bk.rZ;rw [qjn om];simp only [decide_eq_true_eq,beq_iff_eq];omega)],E.below⟩)
theorem qz4 (g:Nat) (b:Bk) (A:Option Addr) (c:Nat) (w:World) (hb:w.heap[g]?=some (.cells (b.cells A c) 85 (0,0))):
    Calls Tryz.prog 226 #[vP g 0] w (Is w (.bool b.CP)):=by
 refine (bZ Tryz.func226 26) ?_
 refine (JP∘Jp 1∘Jr∘Jf 3∘Jy (v:=vI b.next) (h:=by exact Yl.qj rfl rfl kr (fun _ h=>h.rD hb rfl))∘Jp 2) (Ji (fun hd5=>?_) fun hd5=>?_)
 ·
  refine (Jf 3∘Jy (v:=vI b.next) (h:=by exact Yl.qj rfl rfl kr (fun _ h=>h.rD hb rfl))∘Jp 3) (Ji (fun fM=>?_) fun fM=>?_)
  ·
   refine (Jf 1∘Jy (v:=vB b.cpu) (h:=by exact Yl.qj rfl rfl kr (fun _ h=>h.rD hb rfl))∘Jp 3) (Je (fun kM=>?_) fun kM=>?_)
   ·
    refine (Jf 2∘Jy (v:=vI b.lost) (h:=by exact Yl.qj rfl rfl kr (fun _ h=>h.rD hb rfl))∘Jp 3) (Je (fun iA=>?_) fun iA=>?_)
    ·
     exact (Jf 4∘Jy (v:= .slice A b.evs.length c) (h:=by exact Yl.qj rfl rfl kr (fun _ h=>h.rD hb rfl))∘Jl∘Jp 3∘aF∘Jj∘JZ∘aH) fun E=>by exact ⟨by rw [Bool.eq_iff_iff.2 (show ((b.evs.length:Int)==(0:Int))=true↔b.CP=true by unfold Bk.CP;simp only [decide_eq_true_eq,beq_iff_eq];omega)],E.below⟩
    exact (Jp 6∘aF∘Jj∘JZ∘aH) fun E=>by exact ⟨by rw [show b.CP=false from decide_eq_false om],E.below⟩
   exact (Jv 11 [(1,.bool false)]∘aF∘Jj∘JZ∘aH) fun E=>by exact ⟨by rw [show b.CP=false from decide_eq_false om],E.below⟩
  exact (Jv 16 [(1,.bool false)]∘aF∘Jj∘JZ∘aH) fun E=>by exact ⟨by rw [show b.CP=false from decide_eq_false om],E.below⟩
 exact (Jv 21 [(1,.bool false)]∘eZ∘Jj∘JZ∘aH) fun E=>by exact ⟨by rw [show b.CP=false from decide_eq_false om],E.below⟩
theorem qt8 (b:Bk) (hok:b.Ok) (A:Option Addr) (c B:Nat) (w:World) (hL:aO B w) (hB:B≤w.heap.size) (hr:Rd w w.heap.size 11 A b.evs.length (b.evs.flatMap eF)) (hn:b.evs.length≤1000000):
    Calls Tryz.prog 164 #[.agg (b.cells A c)] w (Is w (.bool b.fits)):=by
 refine (bZ Tryz.func164 19) ?_
 refine (JP∘JE) fun w1 g1=>(Jp 1∘Jr) fun a Z E=>?_
 refine fo Z 0 rfl rfl ?_
 refine qy4 Z E rfl rfl de ?_
 clear Z E;intro a w5 g5 Z E
 refine Jb Z E ((Jy (h:=by exact Yl.makeFunc (fst:=[]) (caps:=[vP g1 0]) rfl rfl rfl)) fun a Z E=>?_)
 refine fo Z 2 rfl rfl ?_
 refine qty Z E (i:=0) (kt:=5) (et:=23) (kd:= .int .u8) (Or.inr rfl) rfl kr kr rfl rfl rfl rfl (by first|trivial|rfl) (rfl) ?_
 clear E;intro alS E
 refine Jb Z E ((Jy (h:=by exact Yl.makeFunc (fst:=[]) (caps:=[vP g1 0]) rfl rfl rfl)) fun a Z E=>?_)
 refine fo Z 4 rfl rfl ?_
 refine qty Z E (i:=0) (kt:=5) (et:=23) (kd:= .int .u8) (Or.inr rfl) rfl kr kr rfl rfl rfl rfl (by first|trivial|rfl) (rfl) ?_
 clear E;intro DC E
 refine Jb Z E ((Jp 2∘eZ∘Jq) fun a Z E=>?_)
 rcases zdm b.kind with hk|hk|⟨hk,hk2⟩
 ·
  refine Jb Z E ((JG∘JP∘Jp 1∘Jg 0 O1∘Jy (v:= .func (.func 225) #[] #[vP g1 0]) (h:=by exact Yl.qre (kt:=5) (et:=23) (kd:= .int .u8) (j:=0) (es:=(#[].push {key:=vB 1,val:= .func (.func 225) #[] #[vP g1 0],born:=0}).push {key:=vB 2,val:= .func (.func 226) #[] #[vP g1 0],born:=0+1}) (clock:=0+1+1) rfl kr kr rfl rfl (fun _ h=>h.jm (i:=0) rfl) (by first|trivial|rfl) (by rw [hk];rfl))∘Jp 1∘eZ∘Jr∘Jp 1∘Jy (v:= .bool true) (h:=by exact Yl.q4s rfl rfl rfl kr)∘Jp 2) fun a Z E=>?_)
  refine fo Z 4 rfl rfl ?_
  refine rA Z (f:=225) (vs:=[]) (fst:=[]) (caps:=[vP g1 0]) rfl rfl rfl kr rfl de (qz3 _ b hok A c B _ (hL.mem E hB) (E.le hB) (E.old hr) hn (E.blk (i:=1) rfl)) ?_
  rintro _ DF ⟨rfl,hbw⟩
  refine ⟨_,rfl,?_⟩
  replace E:=E.call hbw
  clear Z;intro a Z
  exact Jb Z E ((Jp 2∘aF∘Jj∘JZ∘JM (.f .n)∘aH) fun E=>by exact ⟨by unfold Bk.fits;rw [if_pos hk],E.below⟩)
 ·
  refine Jb Z E ((JG∘JP∘Jp 1∘Jg 0 O1∘Jy (v:= .func (.func 226) #[] #[vP g1 0]) (h:=by exact Yl.qre (kt:=5) (et:=23) (kd:= .int .u8) (j:=1) (es:=(#[].push {key:=vB 1,val:= .func (.func 225) #[] #[vP g1 0],born:=0}).push {key:=vB 2,val:= .func (.func 226) #[] #[vP g1 0],born:=0+1}) (clock:=0+1+1) rfl kr kr rfl rfl (fun _ h=>h.jm (i:=0) rfl) (by first|trivial|rfl) (by rw [hk];rfl))∘Jp 1∘eZ∘Jr∘Jp 1∘Jy (v:= .bool true) (h:=by exact Yl.q4s rfl rfl rfl kr)∘Jp 2) fun a Z E=>?_)
  refine fo Z 4 rfl rfl ?_
  refine rA Z (f:=226) (vs:=[]) (fst:=[]) (caps:=[vP g1 0]) rfl rfl rfl kr rfl de (qz4 _ b A c _ (E.blk (i:=1) rfl)) ?_
  rintro _ DF ⟨rfl,hbw⟩
  refine ⟨_,rfl,?_⟩
  replace E:=E.call hbw
  clear Z;intro a Z
  exact Jb Z E ((Jp 2∘aF∘Jj∘JZ∘JM (.f .n)∘aH) fun E=>by exact ⟨by unfold Bk.fits;rw [if_neg om,if_pos hk],E.below⟩)
 ·
  exact Jb Z E ((JG∘JP∘Jp 1∘Jg 0 O1∘Jy (v:= .nilFunc) (h:=by exact Yl.qyd (kt:=5) (et:=23) (kd:= .int .u8) (es:=(#[].push {key:=vB 1,val:= .func (.func 225) #[] #[vP g1 0],born:=0}).push {key:=vB 2,val:= .func (.func 226) #[] #[vP g1 0],born:=0+1}) (clock:=0+1+1) rfl kr kr rfl rfl (fun _ h=>h.jm (i:=0) rfl) (by first|trivial|rfl) (by have e1:((b.kind:Int)==1)=false:=(by rw [beq_eq_false_iff_ne];omega);have e2:((b.kind:Int)==2)=false:=(by rw [beq_eq_false_iff_ne];omega);simp [Instr.findNow,Instr.sameNow,e1,e2]) kr)∘Jp 1∘eZ∘Jr∘Jp 1∘Jy (v:= .bool false) (h:=by exact Yl.zfd rfl rfl rfl kr)∘Jp 5∘aF∘Jj∘JZ∘JM (.f .n)∘aH) fun E=>by exact ⟨by unfold Bk.fits;rw [if_neg hk,if_neg hk2],E.below⟩)
theorem q53 (b:Bk) (A:Option Addr) (c:Nat) (w:World) (hr:Rd w w.heap.size 11 A b.evs.length (b.evs.flatMap eF)) (h0:b.evs.length≠0):
    Calls Tryz.prog 172 #[.agg (b.cells A c)] w (Is w (.agg b.base.cells)):=by
 refine (bZ Tryz.func172 14) ?_
 refine (JP∘JE) fun w1 g1=>(JA #[vI 0,vI 0]) fun w2 g2=>(Jj) fun a Z E=>?_
 refine wp_seq ?_
 refine Jb Z E ((Vs .n [11]) fun Tc=>(Vf 0 4∘Vf 5 4∘Vc 1 O1) ?_)
 repeat (first|clear Z|clear E|clear HS)
 intro a Z E HS
 obtain ⟨gA,oA,rfl,_⟩:=hr.qd (Nat.lt_of_le_of_lt (Nat.zero_le _) (show 0<b.evs.length from by omega)) de
 refine Vb Z E HS ((Vy 2 (v:=vP gA oA) (h:=by exact Yl.indexAddr (ad:=⟨gA,oA,none⟩) (y:=0) (sz:=11) rfl rfl rfl om kr)∘Vf 3 0∘Vy 4 (v:=vI ((b.evs.getD 0 Ev.zero).seq)) (h:=by exact Yl.qj rfl rfl kr (fun _ h=>(by have:=(h.old hr).partAt zf (k:=0) (j:=0) (x:=(b.evs.getD 0 Ev.zero)) ((getD_at Ev.zero (k:=0) (by first|omega|(simp;omega)))) rfl;simpa using this)))∘Vc 6 O1∘Vy 7 (v:=vP gA oA) (h:=by exact Yl.indexAddr (ad:=⟨gA,oA,none⟩) (y:=0) (sz:=11) rfl rfl rfl om kr)∘Vf 8 1∘Vy 9 (v:=vI ((b.evs.getD 0 Ev.zero).time)) (h:=by exact Yl.qj rfl rfl kr (fun _ h=>(h.old hr).partAt zf (k:=0) (j:=1) (x:=(b.evs.getD 0 Ev.zero)) ((getD_at Ev.zero (k:=0) (by first|omega|(simp;omega)))) rfl))∘Vy 10 (v:= .agg #[vI ((b.evs.getD 0 Ev.zero).seq),vI ((b.evs.getD 0 Ev.zero).time)]) (h:=by exact Yl.build (vs:=[(0,vI ((b.evs.getD 0 Ev.zero).seq)),(1,vI ((b.evs.getD 0 Ev.zero).time))]) rfl kr kr)) fun a Z E HS=>?_)
 refine s_on Z 11 rfl (iX Z E 0 rfl rfl rfl rfl rfl ⟨kr,kr⟩ rfl rfl (by simp [Value.oneCell']) ?_)
 clear E;intro acU E
 refine lG kr ?_
 refine qg kr ?_
 refine Jb Z E ((JM (.t (.f .n))∘JZ) fun a Z E=>?_)
 exact nN rfl Z (.cellS (i:=0) Z E rfl rfl ⟨kr,kr⟩ rfl) (⟨by rw [Nq];rfl,E.below⟩)
theorem WG (x:Nat) (hx:x<18446744073709551616) (w:World):
    Calls Tryz.prog 227 #[vQ x] w (zz w (aj x)):=by
 refine (bZ Tryz.func227 5) ?_
 exact (JP∘Jp 1∘Jr∘Jp 1∘JK (h:=by exact fun E=>qwq hx)) fun A4 c4 w4 hc4=>(Jp 1∘aT∘Jj∘JZ∘aH) fun E=>by exact ⟨⟨_,_,rfl,E.own (i:=0) rfl,hc4⟩,E.below⟩
theorem WH {w:World} {a b c d:Part} (ha:Rd w w.heap.size 1 a.A a.l.length (a.l.map B8)) (hb:Rd w w.heap.size 1 b.A b.l.length (b.l.map B8)) (hc:Rd w w.heap.size 1 c.A c.l.length (c.l.map B8)) (hd:Rd w w.heap.size 1 d.A d.l.length (d.l.map B8)):∀p∈[a,b,c,d],Rd w w.heap.size 1 p.A p.l.length (p.l.map B8):=by
 intro p hp
 simp only [List.mem_cons,List.not_mem_nil,or_false] at hp
 rcases hp with rfl|rfl|rfl|rfl
 ·exact ha
 ·exact hb
 ·exact hc
 ·exact hd
theorem q54 (b:Bk) (hok:b.Ok) (A:Option Addr) (c B:Nat) (w:World) (hL:aO B w) (hB:B≤w.heap.size) (hr:Rd w w.heap.size 11 A b.evs.length (b.evs.flatMap eF)) (hn:b.evs.length≤1000000) (hf:b.fits=true):
    Calls Tryz.prog 165 #[.agg (b.cells A c)] w (zz w b.body):=by
 have Nl:=hok.cpu
 refine (bZ Tryz.func165 52) ?_
 refine (JP∘JE) fun w1 g1=>(Jp 1∘Jj∘JQ∘JP∘Jg 0 O0∘Jp 1∘aQ∘Jj) (Ju (fun lI=>?_) fun lI=>?_)
 ·
  intro a Z E
  have vv:=eq_of_beq lI
  have hk:b.kind=2:=by omega
  obtain ⟨n1,n2,n3,n4,n5⟩:=qo7 hf hk
  exact Jb Z E ((JT∘JP∘Jg 3 O0∘Jv 1 [(12,vQ (IntKind.u64.wrap b.next))]∘Jo (vQ b.next.toNat) (by exact Dm om om)∘JK (h:=by exact fun E=>WG b.next.toNat om _)) fun WI c13 wP DI=>(Jp 1∘bQ∘Jj∘JZ∘aH) fun E=>by exact zz.as ⟨⟨_,_,rfl,E.own (i:=0) rfl,DI⟩,E.below⟩ (by unfold Bk.body;rw [if_pos hk]))
 intro a Z E
 have vv:=ne_of_beq_false lI
 have hk:b.kind≠2:=by omega
 obtain ⟨m0,m1,m2,m3,m4⟩:=qo6 hf hk
 refine Jb Z E ((JF∘aG∘JP∘Jg 1 O0∘Jw .u64∘Jg 2 O0∘Jv 1 [(19,vQ (IntKind.u64.wrap b.lost))]∘Jo (vQ b.lost.toNat) (by exact Dm om om)∘Jg 4 O0∘Jl∘Jw .u64∘JU qt #[vQ b.cpu,vQ b.lost.toNat,vQ b.evs.length]) fun S9 g24=>(JK (h:=by exact fun E=>SK _ 3 _ [b.cpu,b.lost.toNat,b.evs.length] _ (E.aN (i:=0) (n:=3) (size:=1) rfl rfl) (by intro x hx;simp only [List.mem_cons,List.not_mem_nil,or_false] at hx;omega) om)) fun H9 Ia Le hc25=>(Jp 1∘aF∘Jj∘JQ∘JP∘Jg 4 O2∘Jl∘Jp 1∘aT∘Jj) (Ju (fun ou=>?_) fun ou=>?_))
 ·
  intro a Z E
  have hd29:=eq_of_beq ou
  exact Jb Z E ((JT∘JP∘Jp 2∘aQ∘Jj∘JZ∘JM (.t (.f .n))∘aH) fun E=>by exact zz.as ⟨⟨_,_,rfl,E.own (i:=0) rfl,hc25⟩,E.below⟩ (by unfold Bk.body;rw [if_neg hk,if_pos om];simp))
 intro a Z E
 have hd29:=ne_of_beq_false ou
 have hw:=qk9 hok (Nk hf hk).2 om
 obtain ⟨q1,q2,q3,q4⟩:=qt6 hok hf hk om
 refine Jb Z E ((JF∘aG∘JP∘Jy (v:= .agg (b.cells A c)) (h:=by exact Yl.qf rfl rfl aP rfl (fun _ h=>qb (h.blk (i:=2) rfl)))∘JI (h:=by exact fun E=>q53 b A c _ (E.old hr) om)) fun w32 hbw=>(JA #[vI 0,vI 0]) fun w4 g4=>(JV ⟨kr,kr⟩ bg (h1:=by exact Vi b.base)) fun alV=>(aT∘Jr∘Jy (v:= .agg b.base.cells) (h:=by exact Yl.qf rfl rfl ⟨kr,kr⟩ rfl (fun _ h=>qb (h.blk (i:=0) rfl)))∘Jg 4 O3∘JK (h:=by exact fun E=>q5u b.base A b.evs.length c b.evs hok.evs B _ (hL.mem E hB).laid (E.le hB) (E.old hr) om hw.1 hw.2)) fun lJ c37 CS jF=>(Jp 1∘Jx∘Jx∘Jp 2∘wK∘Jj) fun a Z E=>?_)
 refine wp_seq ?_
 refine Jb Z E ((Vs .n []) fun WJ=>(Vp [0]∘Vf 1 0∘Vf 5 1∘Vp [9]∘Vc 2 O1∘Vq [3] [(43,vQ (IntKind.u64.wrap b.base.seq))]∘Vo (vQ b.base.seq.toNat) (by exact Dm om om)∘Vc 6 O1∘Vq [7] [(47,vQ (IntKind.u64.wrap b.base.time))]∘Vo (vQ b.base.time.toNat) (by exact Dm om om)∘VK 4 .n (h:=by exact fun E=>WG b.base.seq.toNat om _)) fun wQ wR Nv sS=>(VK 8 (.f .n) (h:=by exact fun E=>WG b.base.time.toNat om _)) fun CU CV WK xX=>fun a Z E HS=>?_)
 refine s_on Z 10 rfl (lT Z E Nn [(0,.slice H9 (([b.cpu,b.lost.toNat,b.evs.length].flatMap aj).length) Ia),(1,.slice wQ ((aj b.base.seq.toNat).length) wR),(2,.slice CU ((aj b.base.time.toNat).length) CV),(3,.slice lJ ((recs b.base b.evs).length) c37)] #[.slice H9 (([b.cpu,b.lost.toNat,b.evs.length].flatMap aj).length) Ia,.slice wQ ((aj b.base.seq.toNat).length) wR,.slice CU ((aj b.base.time.toNat).length) CV,.slice lJ ((recs b.base b.evs).length) c37] ?_)
 clear Z E;intro a WL g50 Z E
 refine au (E.pk [3,4,5,6,7]) (fun HS=>?_)
 have hps:=WH (a:=⟨H9,Ia,[b.cpu,b.lost.toNat,b.evs.length].flatMap aj⟩) (b:=⟨wQ,wR,aj b.base.seq.toNat⟩) (c:=⟨CU,CV,aj b.base.time.toNat⟩) (d:=⟨lJ,c37,recs b.base b.evs⟩) (E.rd (i:=5) rfl) (E.rd (i:=2) rfl) (E.rd (i:=1) rfl) (E.rd (i:=3) rfl)
 exact Vb Z E HS ((VK 11 (.f (.f (.f .n))) (h:=by exact fun E=>(qww _ 4 _ [⟨H9,Ia,[b.cpu,b.lost.toNat,b.evs.length].flatMap aj⟩,⟨wQ,wR,aj b.base.seq.toNat⟩,⟨CU,CV,aj b.base.time.toNat⟩,⟨lJ,c37,recs b.base b.evs⟩] _ (E.aN (i:=0) (n:=4) (size:=1) rfl rfl) rfl om hps (by have h1:=q6 [b.cpu,b.lost.toNat,b.evs.length];have h2:=qy b.base.seq.toNat;have h3:=qy b.base.time.toNat;have h4:=Wt b.evs b.base;simp only [List.flatMap_cons,List.flatMap_nil,List.length_append,List.append_nil,List.length_cons,List.length_nil] at h1⊢;omega)).mono (fun _ _ h=>h.as (R':=aj b.cpu++aj b.lost.toNat++aj b.evs.length++(aj b.base.seq.toNat++aj b.base.time.toNat++recs b.base b.evs)) (by simp)))) fun SX c51 w51 Dx=>(Vp [12]∘Vd∘aF∘JM (.t (.f (.f (.f (.f (.t (.t (.f .n))))))))∘JZ∘aH) fun E=>by exact zz.as ⟨⟨_,_,rfl,E.own (i:=0) rfl,Dx⟩,E.below⟩ (by unfold Bk.body;rw [if_neg hk,if_neg om]))
instance acV:DecidableEq Bk:=fun ⟨a0,a1,a2,a3,a4⟩ ⟨b0,b1,b2,b3,b4⟩=>
 decidable_of_iff (a0=b0∧a1=b1∧a2=b2∧a3=b3∧a4=b4) (by simp)
theorem qz5 {b:Bk} (h:8+b.body.length+4≤4096):(#[Value.int .u8 (((8+b.body.length+4)%256:Nat):Int),.int .u8 (((8+b.body.length+4)/256%256:Nat):Int),.int .u8 0,.int .u8 0,.int .u8 113,.int .u8 116,.int .u8 1,.int .u8 (b.kind:Int)]:Array Value).toList++b.body.map B8=b.raw.map B8:=by
 have e0:8+b.body.length+4=12+b.body.length:=by omega
 have e1:(12+b.body.length)/65536%256=0:=by omega
 have e2:(12+b.body.length)/16777216%256=0:=by omega
 unfold Bk.raw uY
 rw [e0,e1,e2]
 simp [B8]
theorem qrz {b:Bs} {e:Ev} (h:e.kind<256):∀x∈zi b e,x<256:=by
 intro x hx
 unfold zi at hx
 rcases List.mem_cons.1 hx with rfl|hx
 ·exact h
 ·obtain ⟨y,_,hy⟩:=List.mem_flatMap.1 hx
  exact Dw y x hy
theorem qz6:∀(l:List Ev) (b:Bs),(∀e∈l,e.Ok)→∀x∈recs b l,x<256
 |[],_,_,x,hx=>by simp [recs] at hx
 |e::r,b,hok,x,hx=>by
  rw [recs] at hx
  rcases List.mem_append.1 hx with h|h
  ·exact qrz (hok e (by simp)).kind x h
  ·exact qz6 r e.at (fun y hy=>hok y (by simp [hy])) x h
theorem zah {b:Bk} (hok:b.Ok):∀x∈b.body,x<256:=by
 intro x hx
 unfold Bk.body at hx
 split at hx
 ·exact Dw _ x hx
 ·rcases List.mem_append.1 hx with h|h
  ·rcases List.mem_append.1 h with h|h
   ·rcases List.mem_append.1 h with h|h
    ·exact Dw _ x h
    ·exact Dw _ x h
   ·exact Dw _ x h
  ·split at h
   ·cases h
   ·rcases List.mem_append.1 h with h|h
    ·rcases List.mem_append.1 h with h|h
     ·exact Dw _ x h
     ·exact Dw _ x h
    ·exact qz6 _ _ hok.evs x h
theorem q8o {b:Bk} (hok:b.Ok):∀x∈b.raw,x<256:=by
 intro x hx
 unfold Bk.raw at hx
 rcases List.mem_append.1 hx with h|h
 ·rcases List.mem_append.1 h with h|h
  ·exact zdh _ x h
  ·simp only [List.mem_cons,List.not_mem_nil,or_false] at h
   have:=hok.kind
   omega
 ·exact zah hok x h
theorem Lf (b:Bk):b.raw.length=8+b.body.length:=by unfold Bk.raw uY;simp;omega
theorem Lg (b:Bk):b.body.length≤50+61*b.evs.length:=by grind [Bk.body,Wt,qy]
theorem WM {w w':World} {b:Bk} {er:Nat} (h:b.err=er) (he:er≠0) (hb:Below w.heap.size w w'):qx w b.err b.out (.returned (.tuple #[.slice none 0 0,.int .i64 (er:Int)])) w':=by
 have h2:b.out=[]:=by unfold Bk.out;rw [if_neg om]
 rw [h,h2]
 exact ⟨⟨none,0,rfl,World.ownsRow_nil _ _ _ _,Nat.le_refl _⟩,hb⟩
theorem q8p {b:Bk} (h:b.err=0):b.out=bF b.raw:=by unfold Bk.out;rw [if_pos h]
theorem WO (b:Bk):b.out.length≤4096:=by grind [Bk.err,Bk.out,Lf,Fe]
theorem qc1 (most:Nat) (l:List Nat):bB most l≤most:=by unfold bB;split<;>omega
theorem Lh (most:Nat) (l:List Nat):(if ((most:Nat):Int)<(((aA l).1:Nat):Int) then ((most:Nat):Int) else (((aA l).1:Nat):Int))=((bB most l:Nat):Int):=by unfold bB;split<;>split<;>omega
theorem Td (l:List Nat):(za l).length=l.length- (aA l).2.1:=by unfold za;rw [List.length_drop]
theorem qz8 (l:List Nat):(za l).length≤l.length:=by rw [Td];omega
theorem qlb {most:Nat} {l:List Nat} (h:(aA l).2.2≠0):jE most l=false:=by unfold jE;rw [decide_eq_false];omega
def q8q (W:World) (gb gk:Nat) (l:List Nat) (vw:Bool) (most:Nat) (fr:List Fact) (r:Ending) (w':World):Prop:=
 r= .returned (.int .i64 ((bB most l:Nat):Int))∧∃A' c',Rd W W.heap.size 1 A' (za l).length ((za l).map B8)∧(za l).length≤c'∧
  Mem W w' (.blk gb #[.slice A' (za l).length c'] 30:: .blk gk #[.bool (vw&&jE most l)] 4::fr)
theorem WQ {W w':World} {gb gk n c most:Nat} {l:List Nat} {vw Nw:Bool} {A:Option Addr} {fr:List Fact} (hr:Rd W W.heap.size 1 A l.length (l.map B8)) (hc:l.length≤c) (h2:(vw&&jE most l)=Nw) (hn:n=l.length)
  (E:Mem W w' (.blk gb #[.slice (if c=(aA l).2.1 then A else A.map (·.add ((aA l).2.1*1))) (n- (aA l).2.1) (c- (aA l).2.1)] 30:: .blk gk #[.bool Nw] 4::fr)):
  q8q W gb gk l vw most fr (.returned (.int .i64 ((bB most l:Nat):Int))) w':=by
 subst h2;subst hn
 refine ⟨rfl,(if c=(aA l).2.1 then A else A.map (·.add ((aA l).2.1*1))),c- (aA l).2.1,?_,?_,?_⟩
 ·rw [Td]
  exact hr.VQ (ER l) hc
 ·rw [Td];omega
 ·rw [Td];exact E
def Ib (w:World) (q:Option Bk) (r:Ending) (w':World):Prop:=
 (∃ cs : Array Value, r = .returned (.tuple #[.agg cs, .bool q.isSome]) ∧ cs.size = 5 ∧ (∀ v ∈ cs.toList, v.oneCell' = true) ∧
  (∀b,q=some b→∃A c,cs=b.cells A c∧w'.ownsRow w.heap.size 73 11 (.slice A b.evs.length c) b.evs.length (b.evs.flatMap eF)∧b.evs.length≤c))∧Below w.heap.size w w'
theorem qpc {w w':World} {q:Option Bk} {cs:Array Value} (h:q=none) (hs:cs.size=5) (h1:∀v∈cs.toList,v.oneCell'=true) (hb:Below w.heap.size w w'):Ib w q (.returned (.tuple #[.agg cs,.bool false])) w':=by
 subst h
 exact ⟨⟨cs,rfl,hs,h1,fun b h=>by cases h⟩,hb⟩
theorem qpd {w w':World} {q:Option Bk} {b:Bk} {A:Option Addr} {c:Nat} (h:q=some b) (ho:w'.ownsRow w.heap.size 73 11 (.slice A b.evs.length c) b.evs.length (b.evs.flatMap eF)) (hc:b.evs.length≤c) (hb:Below w.heap.size w w'):Ib w q (.returned (.tuple #[.agg (b.cells A c),.bool true])) w':=by
 subst h
 exact ⟨⟨_,rfl,rfl,vg _ _ _,fun b' h=>by injection h with h;subst h;exact ⟨A,c,rfl,ho,hc⟩⟩,hb⟩
theorem WR (l:List Nat):K9 2 l=zL l:=by unfold K9;rw [if_pos rfl]
theorem Fp {x:Nat} (h:x≤281474976710657):Bk.Ok ⟨2,0,0,(x:Int),[]⟩:=⟨by show 2<256;decide,by show 0<256;decide,by unfold bP;simp,qz1 h,by simp⟩
theorem WS (l:List Nat):(zL l).isSome=(jE 281474976710657 l&& (decide ((za l).length=0)&&Bk.fits ⟨2,0,0,(bB 281474976710657 l:Int),[]⟩)):=by grind [zL]
theorem qie {l:List Nat} (h:(zL l).isSome=true):zL l=some ⟨2,0,0,(bB 281474976710657 l:Int),[]⟩:=by grind [zL]
theorem Ib.none {w w':World} {q:Option Bk} {r:Ending} (h:Ib w q r w') (hq:q=none):(∃cs:Array Value,r= .returned (.tuple #[.agg cs,.bool false])∧cs.size=5∧(∀v∈cs.toList,v.oneCell'=true))∧Below w.heap.size w w':=by
 subst hq
 obtain ⟨⟨cs,h1,h2,h3,_⟩,h4⟩:=h
 exact ⟨⟨cs,h1,h2,h3⟩,h4⟩
theorem Ib.some {w w':World} {q:Option Bk} {b:Bk} {r:Ending} (h:Ib w q r w') (hq:q=some b):(∃A c,r= .returned (.tuple #[.agg (b.cells A c),.bool true])∧w'.ownsRow w.heap.size 73 11 (.slice A b.evs.length c) b.evs.length (b.evs.flatMap eF)∧b.evs.length≤c)∧Below w.heap.size w w':=by
 subst hq
 obtain ⟨⟨cs,h1,h2,h3,h5⟩,h4⟩:=h
 grind
def WT (T:TypeId) (w:World) (q:Bk×Nat×Nat) (r:Ending) (w':World):Prop:=
 (∃A c,r= .returned (.tuple #[.agg (q.1.cells A c),.int .i64 (q.2.1:Int),.int .i64 (q.2.2:Int)])∧w'.ownsRow w.heap.size T 11 (.slice A q.1.evs.length c) q.1.evs.length (q.1.evs.flatMap eF)∧q.1.evs.length≤c)∧Below w.heap.size w w'
theorem Fq {T:TypeId} {w w':World} {q:Bk×Nat×Nat} {er:Nat} (h:q=(Bk.zero,0,er)) (hb:Below w.heap.size w w'):WT T w q (.returned (.tuple #[.agg #[.int .u8 0,.int .u8 0,.int .i64 0,.int .i64 0,.slice none 0 0],.int .i64 0,.int .i64 (er:Int)])) w':=by
 subst h
 exact ⟨⟨none,0,rfl,World.ownsRow_nil _ _ _ _,Nat.le_refl _⟩,hb⟩
theorem qlc {T:TypeId} {w w':World} {q:Bk×Nat×Nat} {b:Bk} {m c:Nat} {A:Option Addr} (h:q=(b,m,0)) (ho:w'.ownsRow w.heap.size T 11 (.slice A b.evs.length c) b.evs.length (b.evs.flatMap eF)) (hc:b.evs.length≤c) (hb:Below w.heap.size w w'):WT T w q (.returned (.tuple #[.agg (b.cells A c),.int .i64 (m:Int),.int .i64 0])) w':=by
 subst h
 exact ⟨⟨A,c,rfl,ho,hc⟩,hb⟩
theorem qz9 {l:List Nat} (h:(aU l).2≠0):dA l=(Bk.zero,0,(aU l).2):=by unfold dA;rw [if_pos h]
theorem Ic {l L:List Nat} {e:Nat} (h:(aU l).2=0) (hL:L=l.take (aU l).1) (hb:fJ L=(none,e)):dA l=(Bk.zero,0,e):=by unfold dA;rw [if_neg om,←hL,hb]
theorem qld {l L:List Nat} {b:Bk} {e:Nat} (h:(aU l).2=0) (hL:L=l.take (aU l).1) (hb:fJ L=(some b,e)):dA l=(b,(aU l).1,0):=by unfold dA;rw [if_neg om,←hL,hb]
theorem q0e {l:List Nat} (h:(fJ l).1=none):(fJ l).2≠0:=by grind [fJ]
theorem Tf {l:List Nat} {b:Bk} {m:Nat} (h:dA l=(b,m,0)):13≤m∧m≤l.length∧(fJ (l.take m)).1=some b:=by
 unfold dA at h
 split at h
 ·rename_i h0;simp only [Prod.mk.injEq] at h;exact absurd h.2.2 h0
 ·rename_i h0
  obtain ⟨_,h2,_,h4⟩:=q0c (show (aU l).2=0 by omega)
  split at h
  ·rename_i b' hb
   simp only [Prod.mk.injEq] at h
   obtain ⟨rfl,rfl,_⟩:=h
   exact ⟨h2,h4,hb⟩
  ·rename_i hb
   simp only [Prod.mk.injEq] at h
   exact absurd h.2.2 (q0e hb)
theorem q0f {l:List Nat} {b:Bk} {m:Nat} (hk:iT l) (h:dA l=(b,m,0)):b.Ok∧b.evs=[]:=by
 obtain ⟨_,_,h⟩:=Tf h
 have h7:=hk.take m 7 (Nat.le_refl 7)
 generalize l.take m=L at h h7
 unfold fJ at h
 split at h
 ·cases h
 ·split at h
  ·cases h
  ·split at h
   ·cases h
   ·split at h
    ·cases h
    ·rename_i h2
     have h2:L.getD 7 0=2:=by omega
     rw [h2,WR] at h
     split at h
     ·cases h
     ·rename_i c hc
      injection h with h
      rw [qie (by rw [hc];rfl)] at hc
      injection hc with hc
      subst h hc
      exact ⟨Fp (qc1 _ _),rfl⟩
structure Tg (l:List Nat) (b:Bk) (m:Nat):Prop where
 ok:b.Ok
 fits:b.fits=true
 err:b.err=0
 out:b.out=l.take m
 len:m≤l.length
 evs:b.evs.length≤4096
 least:13≤m
 most:m≤4096
theorem WY (x:Nat):1≤(aj x).length:=by grind [GU,GR,aj]
theorem q58 {b:Bk} (h:b.err=0):b.fits=true∧12+b.body.length≤4096:=by grind [Bk.err]
theorem FM {x:dK} (h:ShAt x):∀i,i<x.ts.length→(i:Int)+1≤(x.ts.getD i Tk.zero).id
 |0,hi=>(qF (h.tk 0 hi)).1
 |i+1,hi=>by
  have h1:=FM h i om
  have h2:=(Tt (h.tk (i+1) hi)).1
  rw [Nat.add_sub_cancel] at h2
  omega
theorem zdu {x:dK} (h:ShAt x):x.ts.length≤65535:=by
 rcases Nat.lt_or_ge 65535 x.ts.length with h1|h1
 ·have h2:=FM h 65535 h1
  have h3:=(qF (h.tk 65535 h1)).2
  omega
 ·exact h1
theorem zat (g:Nat) (z:Sp):(yU g z).length≤3:=by unfold yU;split<;>simp
theorem zau (g:Nat) (l:List Sp):(zV g l).length≤3*l.length:=Tz (fun c=>zat g (l.getD c Sp.zero)) _
theorem q6h {s:bH} (h:ShAt s.st):(aK s 0).length=1∧(aK s 1).length=3∧(aK s 2).length≤512∧(aK s 3).length≤64∧(aK s 4).length≤64∧(aK s 5).length≤524281∧(aK s 6).length≤49152:=by
 obtain ⟨hc1,hc2,_,hg⟩:=yS h.cfg
 obtain ⟨hg1,hg2,_,_⟩:=Ll hg
 have hcl:=h.cl
 have IB:=h.cu
 have hrs:=h.rs
 have ht:=zdu h
 refine ⟨rfl,rfl,?_,?_,?_,?_,?_⟩
 ·have:=Tz (f:=yT s.st.gs) (m:=2) (fun i=>Nat.le_refl 2) (s.st.gs.length-1)
  show (eG (s.st.gs.length-1) (yT s.st.gs)).length≤512
  omega
 ·show (s.st.cl.map ay).length≤64
  rw [List.length_map];omega
 ·show (s.st.cu.map ay).length≤64
  rw [List.length_map];omega
 ·have:=Tz (f:=fun i=>sD (qh s.st.ts i) (s.st.ts.getD i Tk.zero)) (m:=8) (fun i=>Nat.le_refl 8) s.st.ts.length
  show (eG s.st.ts.length fun i=>sD (qh s.st.ts i) (s.st.ts.getD i Tk.zero)).length+1≤524281
  omega
 ·have:=q1b (f:=fun g=>zV g (s.st.rs.getD g Rw.zero).l) (m:=192) s.st.rs.length (fun g hg=>by
   have h1:=zau g (s.st.rs.getD g Rw.zero).l
   have h2:=(FD hg (h.row g hg)).1
   omega)
  show (eG s.st.rs.length fun g=>zV g (s.st.rs.getD g Rw.zero).l).length≤49152
  omega
theorem XO (s:bH):iN s=aK s 0++aK s 1++aK s 2++aK s 3++aK s 4++aK s 5++aK s 6:=by simp_all [iN,qr,qc2]
theorem q6i {α:Type} {f:Nat→List α} {i k:Nat} (h:i≤k):(eG i f).length≤(eG k f).length:=by induction k<;>grind [qr]
theorem TF {s:bH} (h:ShAt s.st):(iN s).length≤600000:=by grind [XO,q6h]
theorem qlt {s:bH} (h:ShAt s.st) {i:Nat} (hi:i≤7):(eG i (aK s)).length≤600000:=Nat.le_trans (q6i hi) (TF h)
theorem quq {s:bH} (h:ShAt s.st) {i:Nat} (hi:i<7):(aK s i).length≤600000:=by
 have:=qlt h (show i+1≤7 by omega)
 rw [qr,List.length_append] at this
 omega
theorem zdv {p:Int} {t:Tk} (ht:t.Ok):∀x∈sD p t,x<18446744073709551616:=by
 intro x hx
 have h1:=ht.mask
 have h2:=ht.v
 have h3:=ht.r
 simp only [sD,List.mem_cons,List.not_mem_nil,or_false] at hx
 grind [FH]
theorem zdw {g:Nat} {z:Sp} (hz:z.Ok):∀x∈yU g z,x<18446744073709551616:=by
 intro x hx
 have h1:=hz.v
 have h2:=hz.r
 have h3:=hz.floor
 grind [yU]
theorem zav {s:bH} (hok:s.st.aD.Ok) (hf:aX s.st):∀i,∀x∈aK s i,x<18446744073709551616:=by
 have hgl:=hf.g
 have htl:=hf.t
 have hcr:=hok.ak
 intro i
 match i with
 |0=>intro x hx;simp only [aK,List.mem_cons,List.not_mem_nil,or_false] at hx;subst hx;exact FH _
 |1=>
  intro x hx
  simp only [aK,List.mem_cons,List.not_mem_nil,or_false] at hx
  rcases hx with rfl|rfl|rfl
  ·exact FH _
  ·exact hcr
  ·omega
 |2=>
  refine LA _ fun i _ x hx=>?_
  grind [yT,FH]
 |3=>intro x hx;obtain ⟨y,_,rfl⟩:=List.mem_map.1 hx;exact FH _
 |4=>intro x hx;obtain ⟨y,_,rfl⟩:=List.mem_map.1 hx;exact FH _
 |5=>
  intro x hx
  rcases List.mem_cons.1 hx with rfl|hx
  ·omega
  ·exact LA (p:=fun x=>x<18446744073709551616) _ (fun i hi=>zdv (hok.ts _ (qi Tk.zero hi))) x hx
 |6=>
  refine LA _ fun g hg=>LA _ fun c hc=>zdw ?_
  refine hok.sp _ (qi [] (show g<s.st.aD.sp.length from by rw [rO];exact hg)) _ ?_
  rw [kC hg]
  exact qi Sp.zero hc
 |k+7=>intro x hx;cases hx
theorem XP {s:bH} (hok:s.st.aD.Ok) (hf:aX s.st):∀x∈iN s,x<18446744073709551616:=LA 7 fun i _=>zav hok hf i
theorem zaw {l:List Nat}:∀b∈l.flatMap aj,b<256:=by
 intro b hb
 obtain ⟨x,_,hx⟩:=List.mem_flatMap.1 hb
 exact Dw x b hx
theorem qur (s:bH):∀b∈dN s,b<256:=by
 intro b hb
 rcases List.mem_append.1 hb with hb|hb
 ·grind
 ·exact zaw b hb
theorem qus (s:bH):(dN s).length=3+((iN s).flatMap aj).length:=by unfold dN;rw [List.length_append];rfl
theorem TG {s:bH} (h:s.next<1∨281474976710657<s.next):bJ s=330:=if_pos h
theorem qpt {s:bH} (h:¬(s.next<1∨281474976710657<s.next)) (hr:sV s.st.aD=false):bJ s=331:=by unfold bJ;rw [if_neg h,if_pos hr]
theorem qpu {s:bH} (h:¬(s.next<1∨281474976710657<s.next)) (hr:sV s.st.aD=true):bJ s=0:=by unfold bJ;rw [if_neg h,if_neg (by rw [hr];decide)]
theorem N8 {s:bH} (h:bJ s=0):(1≤s.next∧s.next≤281474976710657)∧sV s.st.aD=true:=by grind [bJ,sV]
theorem IC {s:bH} (h:bJ s=0):ShAt s.st:=by
 have:=(N8 h).2
 unfold sV at this
 rw [Bool.and_eq_true] at this
 exact zQ this.1
def gU (s:bH):List Nat:=if bJ s=0 then iN s else []
theorem DW {s:bH} (h:bJ s=0):gU s=iN s:=if_pos h
theorem qut {s:bH} (h:bJ s≠0):gU s=[]:=if_neg h
theorem LB {s:bH} (h:bJ s=0):bT s=bF (dN s):=if_pos h
theorem TH {s:bH} (h:bJ s≠0):bT s=[]:=if_neg h
theorem XQ {s:bH} (h:ShAt s.st):(bF (dN s)).length≤6000007:=by grind [qus,q6,iN,TF,Fe]
def TI (w:World) (er:Nat) (R:List Nat) (r:Ending) (w':World):Prop:=
 (∃A c,r= .returned (.tuple #[.slice A R.length c,.int .i64 (er:Int)])∧w'.ownsRow w.heap.size 41 1 (.slice A R.length c) R.length (R.map aR)∧R.length≤c)∧Below w.heap.size w w'
theorem qlu {w w':World} {er uJ:Nat} {q R:List Nat} {A:Option Addr} {c:Nat} (he:uJ=er) (h:q=R) (ho:w'.ownsRow w.heap.size 41 1 (.slice A q.length c) q.length (q.map aR)) (hc:q.length≤c) (hb:Below w.heap.size w w'):TI w er R (.returned (.tuple #[.slice A q.length c,.int .i64 (uJ:Int)])) w':=by
 subst h;subst he
 exact ⟨⟨A,c,rfl,ho,hc⟩,hb⟩
theorem qlv {w w':World} {er:Nat} {R:List Nat} (e:Int) (he:e=er) (h:R=[]) (hb:Below w.heap.size w w'):TI w er R (.returned (.tuple #[.slice none 0 0,.int .i64 e])) w':=by
 subst h;subst he
 exact ⟨⟨none,0,rfl,World.ownsRow_nil _ _ _ _,Nat.le_refl _⟩,hb⟩
theorem qlw {w w':World} {er:Nat} {R:List Nat} (e:Int) (he:e=er) (h:R=[]) (hb:Below w.heap.size w w'):qx w er R (.returned (.tuple #[.slice none 0 0,.int .i64 e])) w':=by
 subst h;subst he
 exact ⟨⟨none,0,rfl,World.ownsRow_nil _ _ _ _,Nat.le_refl _⟩,hb⟩
theorem q6j (s:bH):0<((iN s).flatMap aj).length:=by grind [XO,aK,ay,WY]
theorem qlx {s:bH} (h:bJ s=0):([113,115,1]:List Nat).map B8++((gU s).flatMap aj).map B8=(dN s).map B8:=by
 rw [DW h];exact List.map_append.symm
theorem q80 {s:bH} (h:bJ s=0):3+((gU s).flatMap aj).length=(dN s).length:=by rw [qus,DW h]
theorem quu {s:bH} (h:ShAt s.st):(dN s).length≤6000003:=by
 have h1:=XQ h
 rw [Fe] at h1
 omega
theorem qly {w w':World} {er uJ:Nat} {q R:List Nat} {A:Option Addr} {c:Nat} (he:uJ=er) (h:q=R) (ho:w'.ownsRow w.heap.size 5 1 (.slice A q.length c) q.length (q.map B8)) (hc:q.length≤c) (hb:Below w.heap.size w w'):qx w er R (.returned (.tuple #[.slice A q.length c,.int .i64 (uJ:Int)])) w':=by
 subst h;subst he
 exact ⟨⟨A,c,rfl,ho,hc⟩,hb⟩
theorem q1h (l:List jA):∀u∈l.flatMap gM,u.oneCell'=true:=by
 intro u hu
 obtain ⟨x,_,hx⟩:=List.mem_flatMap.1 hu
 simp only [gM,List.mem_cons,List.not_mem_nil,or_false] at hx
 rcases hx with rfl|rfl|rfl<;>rfl
def qe:jA:=⟨⟨#[104,101,97,100]⟩,0,3⟩
structure Hb where
 b:Bk
 A:Option Addr
 c:Nat
def Hb.zero:Hb:=⟨Bk.zero,none,0⟩
def hbL (h:Hb):List Value:=(h.b.cells h.A h.c).toList
theorem qc5 (h:Hb):(hbL h).length=5:=rfl
def Hb.own (h:Hb):Own:=⟨h.A,h.b.evs.length,h.c,h.b.evs.flatMap eF⟩
def iB (t:TypeId) (q:List Hb):List Fact:=ny t 11 (q.map Hb.own)
def mU (w:World) (q:List Hb):Prop:=∀h∈q,Rd w w.heap.size 11 h.A h.b.evs.length (h.b.evs.flatMap eF)
section
variable {W w w':World} {fs gs a b:List Fact} {t bt:TypeId} {q:List Hb}
theorem q55 (h:Hb):iB t (q++[h])=iB t q++[.row (.slice h.A h.b.evs.length h.c) h.b.evs.length (h.b.evs.flatMap eF) t 11]:=by
 unfold iB ny
 rw [List.map_append,List.map_append]
 rfl
theorem zai {h:Hb} (hq:h∈q):Fact.row (.slice h.A h.b.evs.length h.c) h.b.evs.length (h.b.evs.flatMap eF) t 11∈iB t q:=List.mem_map_of_mem (List.mem_map_of_mem hq)
theorem Mem.Ny (h:Mem W w fs) (hs:∀f∈iB t q,f∈fs):mU w q:=fun _ hx=>h.Du (hs _ (zai hx))
theorem mU.old (h:mU W q) (E:Mem W w fs):mU w q:=fun x hx=>E.old (h x hx)
theorem mU.at {k:Nat} (h:mU w q) (hk:k<q.length):Rd w w.heap.size 11 (q.getD k Hb.zero).A (q.getD k Hb.zero).b.evs.length ((q.getD k Hb.zero).b.evs.flatMap eF):=by
 refine h _ ?_
 rw [List.getD_eq_getElem?_getD,List.getElem?_eq_getElem hk]
 exact List.getElem_mem hk
theorem Mem.Nz {x:Bk} {A:Option Addr} {c:Nat} (h:Mem W w (.row (.slice A x.evs.length c) x.evs.length (x.evs.flatMap eF) t 11::(a++(iB t q++b)))):Mem W w (a++(iB t (q++[⟨x,A,c⟩])++b)):=by
 refine h.perm ?_
 rw [q55]
 have h1:(Fact.row (.slice A x.evs.length c) x.evs.length (x.evs.flatMap eF) t 11::(a++(iB t q++b))).Perm (a++Fact.row (.slice A x.evs.length c) x.evs.length (x.evs.flatMap eF) t 11::(iB t q++b)):=(List.perm_middle).symm
 refine h1.trans (List.Perm.append_left a ?_)
 rw [List.append_assoc]
 exact (List.perm_middle (l₁:=iB t q) (l₂:=b)).symm
theorem Mem.q90 {f:Fact} (h:Mem W w (a++b)) (k:Mem w w' (f::iB t q)):Mem W w' (f::(a++(iB t q++b))):=by
 refine (h.join k).perm (List.Perm.cons f ?_)
 show (iB t q++(a++b)).Perm _
 rw [←List.append_assoc,←List.append_assoc]
 exact List.Perm.append_right b List.perm_append_comm
end
theorem NC {q q2:List Hb} {k:Nat} (h:q.map Hb.b=q2.map Hb.b) (hk:k<q.length):(q.getD k Hb.zero).b=(q2.getD k Hb.zero).b:=by
 have hl:q.length=q2.length:=by have h:=congrArg List.length h;rwa [List.length_map,List.length_map] at h
 have h1:=congrArg (·[k]?) h
 simp only [List.getElem?_map] at h1
 rw [List.getElem?_eq_getElem hk,List.getElem?_eq_getElem om] at h1
 rw [List.getD_eq_getElem?_getD,List.getD_eq_getElem?_getD,List.getElem?_eq_getElem hk,List.getElem?_eq_getElem om]
 injection h1
def Ie (t bt:TypeId) (w:World) (er:Nat) (bs:List Bk):Ending→World→Prop:=fun r w'=>∃A c q,r= .returned (.tuple #[.slice A bs.length c,.int .i64 (er:Int)])∧q.map Hb.b=bs∧bs.length≤c∧Mem w w' (.row (.slice A bs.length c) bs.length (q.flatMap hbL) bt 5::iB t q)
section
variable {W w:World} {fs a:List Fact} {t bt:TypeId} {q:List Hb}
theorem Mem.only (h:Mem W w fs) {f:Fact} (hf:f∈fs):Mem W w [f]:=⟨h.below,fun k hk=>by rw [List.mem_singleton] at hk;subst hk;exact h.holds k hf,List.pairwise_singleton _ _⟩
theorem q56 {er:Nat} {n:Int} (h:Mem W w fs) (he:n=er):Ie t bt W er [] (.returned (.tuple #[.slice none 0 0,.int .i64 n])) w:=by
 subst he
 exact ⟨none,0,[],rfl,rfl,Nat.le_refl _,Mem.nil ⟨h.below,fun f hf=>absurd hf List.not_mem_nil,.nil⟩ _ _⟩
theorem zaj {A:Option Addr} {c:Nat} (h:Mem W w (.row (.slice A q.length c) q.length (q.flatMap hbL) bt 5::iB t q)) (hc:q.length≤c):Ie t bt W 0 (q.map Hb.b) (.returned (.tuple #[.slice A q.length c,.int .i64 0])) w:=
 ⟨A,c,q,by rw [List.length_map];rfl,rfl,by rwa [List.length_map],by rwa [List.length_map]⟩
end
theorem N9 {α:Type} (d:α) {l m:List α} (hl:l.length=m.length) (hu:∀i,i<l.length→l.getD i d=m.getD i d):l=m:=by
 apply List.ext_getElem hl
 intro i h1 h2
 have:=hu i h1
 rwa [List.getD_eq_getElem?_getD,List.getD_eq_getElem?_getD,List.getElem?_eq_getElem h1,List.getElem?_eq_getElem h2] at this
theorem Oa {α:Type} {f g:Nat→α}:∀i,i<0→f i=g i:=fun i h=>by omega
theorem Ob {α:Type} {f g:Nat→α} {k:Nat} (h:∀i,i<k→f i=g i) (hk:f k=g k):∀i,i<k+1→f i=g i:=fun i hi=>by
 rcases Nat.lt_or_ge i k with h1|h1
 ·exact h i h1
 ·obtain rfl:i=k:=by omega
  exact hk
theorem q6k (x y:Tk):pK Tryz.prog 4 232 (.agg x.cells) (.agg y.cells)=some (decide (x=y)):=by
 have h:pK Tryz.prog 4 232 (.agg x.cells) (.agg y.cells)=some ((x.id==y.id)&& ((x.group==y.group)&& ((x.weight==y.weight)&& ((x.cpu==y.cpu)&& (((x.mask:Int)==(y.mask:Int))&& ((x.ready==y.ready)&& (((x.v:Int)==(y.v:Int))&& (((x.r:Int)==(y.r:Int))&&true)))))))):=by kernel_rfl
 refine h.trans (congrArg some ?_)
 obtain ⟨a1,a2,a3,a4,a5,a6,a7,a8⟩:=x
 obtain ⟨b1,b2,b3,b4,b5,b6,b7,b8⟩:=y
 rw [Bool.eq_iff_iff]
 simp only [Bool.and_eq_true,beq_iff_eq,decide_eq_true_eq,Tk.mk.injEq,and_true,Int.ofNat_inj]
theorem q6l (x y:Sp):pK Tryz.prog 4 200 (.agg x.cells) (.agg y.cells)=some (decide (x=y)):=by
 have h:pK Tryz.prog 4 200 (.agg x.cells) (.agg y.cells)=some (((x.v:Int)==(y.v:Int))&& (((x.r:Int)==(y.r:Int))&& (((x.floor:Int)==(y.floor:Int))&&true))):=by kernel_rfl
 refine h.trans (congrArg some ?_)
 obtain ⟨a1,a2,a3⟩:=x
 obtain ⟨b1,b2,b3⟩:=y
 rw [Bool.eq_iff_iff]
 simp only [Bool.and_eq_true,beq_iff_eq,decide_eq_true_eq,Sp.mk.injEq,and_true,Int.ofNat_inj]
def l5 (x:dK):List (List Sp):=x.rs.map Rw.l
theorem q1i {x:dK} {g:Nat} (h:g<x.rs.length):(l5 x).getD g []=(x.rs.getD g Rw.zero).l:=kC h
theorem quv (x:dK):(l5 x).length=x.rs.length:=List.length_map ..
def Ai (a b:dK):Prop:=a.aB=b.aB∧a.ak=b.ak∧a.gs=b.gs
instance Oc (a b:dK):Decidable (Ai a b):=by unfold Ai;infer_instance
def iY (a b:dK):Prop:=Ai a b∧a.cl=b.cl∧a.cu=b.cu∧a.ts=b.ts∧l5 a=l5 b
instance Od (a b:dK):Decidable (iY a b):=by unfold iY;infer_instance
def bM (a b:bH):Prop:=a.next=b.next∧a.st.aB=b.st.aB∧a.st.ak=b.st.ak∧a.st.gs=b.st.gs∧a.st.cl=b.st.cl∧a.st.cu=b.st.cu∧a.st.ts=b.st.ts∧l5 a.st=l5 b.st
instance TJ (a b:bH):Decidable (bM a b):=by unfold bM;infer_instance
theorem TK {l:List Rw} {i:Nat} (h:i<l.length):(l.map Rw.l).getD i []=(l.getD i Rw.zero).l:=by
 rw [List.getD_eq_getElem?_getD,List.getD_eq_getElem?_getD,List.getElem?_map,List.getElem?_eq_getElem h]
 rfl
theorem q1j {l m:List Rw} (hl:l.length=m.length) (hu:∀i,i<l.length→(l.getD i Rw.zero).l=(m.getD i Rw.zero).l):l.map Rw.l=m.map Rw.l:=
 N9 [] (by simpa using hl) fun i hi=>by
  rw [List.length_map] at hi
  rw [TK hi,TK om]
  exact hu i hi
theorem qpw {l m:List Rw} {k:Nat} (h1:k<l.length) (h2:k<m.length) (h:(l.getD k Rw.zero).l≠(m.getD k Rw.zero).l):l.map Rw.l≠m.map Rw.l:=fun e=>h (by rw [←TK h1,←TK h2,e])
theorem zdx {α:Type} {l m:List α} (h:l.length≠m.length):l≠m:=fun e=>h (by rw [e])
section
variable {P:Program} {Q:Exit→Act→World→Prop} {a:Act} {W w:World} {n d:Nat} {D:List Deferred} {σ:List (Nat×Value)} {o:Oper} {K:Act→World→Prop} {fs:List Fact}
theorem Mem.DX (h:Mem W w fs) {i g off:Nat} {cs ds es:Array Value} {t:TypeId} (hi:fs[i]?=some (.blk g cs t)) (hl:off+ds.size≤cs.size) (he:cs.toList.take off++ds.toList++cs.toList.drop (off+ds.size)=es.toList):Mem W (w.setCells g off ds.toList) (fs.set i (.blk g es t)):=by
 have hb:=h.holds _ (List.mem_of_getElem? hi)
 refine h.turn hi (below_setCells h.below hb.1 off _) (fun k hk hne=>?_) ⟨hb.1,?_⟩ (fun g' hg'=> .inl hg')
 ·exact zp _ _ _ _ _ (fun e=>hne (by rw [e];rfl))
 ·have hlen:(cs.toList.take off).length=off:=by rw [List.length_take];simp;omega
  have h1:=R8 g t ds.toList w (cs.toList.take off) (cs.toList.drop (off+ds.size)) ((cs.toList.drop off).take ds.size) (by
   rw [hb.2]
   congr 2
   apply Array.ext'
   show cs.toList=_
   rw [List.append_assoc,←List.drop_drop,List.take_append_drop,List.take_append_drop]) (by rw [List.length_take,List.length_drop];simp;omega)
  rw [hlen,he] at h1
  simpa using h1
theorem XR (Z:Fr a n D σ) (E:Mem W w fs) (i:Nat) {t:TypeId} {x y:Operand} {g off m:Nat} {cs ds:Array Value} {tb:TypeId} (es:Array Value) (hop:o.op= .store t x y) (hd:o.dst=none) (hx:look σ x=some (.pointer (some ⟨g,off,none⟩))) (hy:look σ y=some (.agg ds)) (hi:fs[i]?=some (.blk g cs tb)) (si:SI P t m) (hc:off+m≤cs.size) (hm:ds.size=m) (h1:∀u∈ds.toList,u.oneCell'=true) (he:cs.toList.take off++ds.toList++cs.toList.drop (off+m)=es.toList)
  (k:∀w',Mem W w' (fs.set i (.blk g es tb))→K a w'):o.wp P a w K Q:=by
 subst hm
 have hb:=E.blk hi
 have hl:=run_storeVar_mid (P:=P) w g off t ds (qc3 hb off ds.size om) (by exact si.size) (by simpa using all_oneCell_toArray h1)
 unfold Oper.wp execOp
 simp only [hop,Z.eval hx,Z.eval hy,Sem.run_bind,Instr.storeAt,Instr.sureAddr,Sem.run_pure,hl,Result.andThen_ok,Oper.upon_skip,hd]
 exact k _ (E.DX hi hc he)
end
def fq (t:TypeId) (q:List Rw):List Fact:=ny t 3 (q.map Rw.own)
section
variable {W w w':World} {fs gs a T:List Fact} {t:TypeId} {q:List Rw}
theorem zax {x:Rw} (hq:x∈q):Fact.row (.slice x.A x.l.length x.c) x.l.length (x.l.flatMap jy) t 3∈fq t q:=List.mem_map_of_mem (List.mem_map_of_mem hq)
theorem Mem.Oe {A:Option Addr} {c:Nat} {l:List Sp} (h:Mem W w (.row (.slice A l.length c) l.length (l.flatMap jy) t 3::(fs++fq t q))):Mem W w (fs++fq t (q++[⟨A,c,l⟩])):=by
 have h1:=Mem.zff h
 unfold fq
 rw [List.map_append]
 exact h1
theorem Mem.qG (h:Mem W w fs) (k:Mem w w' gs):Mem W w' (fs++gs):=(h.join k).perm List.perm_append_comm
end
def kE (x:dK):List Fact:=[.row (.slice x.gA x.gs.length x.gc) x.gs.length (x.gs.flatMap gZ) 198 2,.row (.slice x.lA x.cl.length x.lc) x.cl.length (x.cl.map bC) 3 1,.row (.slice x.uA x.cu.length x.uc) x.cu.length (x.cu.map bC) 3 1,.row (.slice x.tA x.ts.length x.tc) x.ts.length (x.ts.flatMap lW) 232 8,.row (.slice x.sA x.rs.length x.sc) x.rs.length (x.rs.map Rw.val) 176 1]++fq 200 x.rs
section
variable {W w w':World} {fs T:List Fact} {x:dK}
theorem Mem.DY (h:Mem W w fs) (hs:∀f∈kE x,f∈fs):cB w x:=
 ⟨h.Du (hs _ (List.mem_of_getElem? (i:=0) (l:=kE x) rfl)),h.Du (hs _ (List.mem_of_getElem? (i:=1) (l:=kE x) rfl)),h.Du (hs _ (List.mem_of_getElem? (i:=2) (l:=kE x) rfl)),h.Du (hs _ (List.mem_of_getElem? (i:=3) (l:=kE x) rfl)),h.Du (hs _ (List.mem_of_getElem? (i:=4) (l:=kE x) rfl)),fun y hy=>h.Du (hs _ (List.mem_append_right _ (zax hy)))⟩
theorem Mem.stR (n:Nat) (h:Mem W w fs) (he:fs.drop n=T++kE x):cB w x:=h.DY fun f hf=>List.mem_of_mem_drop (he▸List.mem_append_right _ hf)
theorem Mem.stX (n:Nat) (h:Mem W w fs) (he:fs.drop n=kE x):cB w x:=h.DY fun f hf=>List.mem_of_mem_drop (he▸hf)
end
def zdy (w:World) (x:dK) (r:Ending) (w':World):Prop:=∃y:dK,r= .returned (.agg y.cells)∧iY x y∧fK y∧Mem w w' (kE y)
def zdz (w:World) (s:bH) (r:Ending) (w':World):Prop:=∃z:bH,r= .returned (.agg z.cells)∧bM s z∧fK z.st∧Mem w w' (kE z.st)
def zay (w:World) (R:List Int) (r:Ending) (w':World):Prop:=
 (∃A c,r= .returned (.slice A R.length c)∧w'.ownsRow w.heap.size 3 1 (.slice A R.length c) R.length (R.map bC)∧R.length≤c)∧Below w.heap.size w w'
def zd0 (w:World) (x:dK) (r:Ending) (w':World):Prop:=
 (∃A c,r= .returned (.agg #[.int .i64 x.aB,.int .u64 (x.ak:Int),.slice A x.gs.length c])∧w'.ownsRow w.heap.size 198 2 (.slice A x.gs.length c) x.gs.length (x.gs.flatMap gZ)∧x.gs.length≤c)∧Below w.heap.size w w'
theorem XT (l:List Gr):∀u∈l.flatMap gZ,u.oneCell'=true:=by
 intro u hu
 obtain ⟨x,_,hx⟩:=List.mem_flatMap.1 hu
 simp only [gZ,List.mem_cons,List.not_mem_nil,or_false] at hx
 rcases hx with rfl|rfl<;>rfl
theorem XU (l:List Sp):∀u∈l.flatMap jy,u.oneCell'=true:=by
 intro u hu
 obtain ⟨x,_,hx⟩:=List.mem_flatMap.1 hu
 simp only [jy,List.mem_cons,List.not_mem_nil,or_false] at hx
 rcases hx with rfl|rfl|rfl<;>rfl
theorem Og (l:List Tk):∀u∈l.flatMap lW,u.oneCell'=true:=by
 intro u hu
 obtain ⟨x,_,hx⟩:=List.mem_flatMap.1 hu
 simp only [lW,List.mem_cons,List.not_mem_nil,or_false] at hx
 rcases hx with rfl|rfl|rfl|rfl|rfl|rfl|rfl|rfl<;>rfl
theorem XV (l:List Int):∀u∈l.map bC,u.oneCell'=true:=by
 intro u hu
 obtain ⟨x,_,rfl⟩:=List.mem_map.1 hu
 rfl
theorem q81 (l:List Rw):∀u∈l.map Rw.val,u.oneCell'=true:=by
 intro u hu
 obtain ⟨x,_,rfl⟩:=List.mem_map.1 hu
 rfl
theorem q6m {l:List Rw} {k:Nat} (h:k<l.length):(l.take (k+1)).map Rw.l=(l.take k).map Rw.l++[(l.getD k Rw.zero).l]:=by rw [Lj Rw.zero h,List.map_append];rfl
theorem q82 {a b:dK} (h:iY a b):b.aD=a.aD:=by
 obtain ⟨⟨h1,h2,h3⟩,h4,h5,h6,h7⟩:=h
 unfold dK.aD
 rw [h1,h2,h3,h4,h5,h6,show a.rs.map Rw.l=b.rs.map Rw.l from h7]
theorem CX {a b:bH} (h:bM a b):iY a.st b.st:=⟨⟨h.2.1,h.2.2.1,h.2.2.2.1⟩,h.2.2.2.2.1,h.2.2.2.2.2.1,h.2.2.2.2.2.2.1,h.2.2.2.2.2.2.2⟩
theorem qH {a b:bH} (h0:a.next=b.next) (h:iY a.st b.st):bM a b:=⟨h0,h.1.1,h.1.2.1,h.1.2.2,h.2.1,h.2.2.1,h.2.2.2.1,h.2.2.2.2⟩
theorem XW {a b:dK} (h:l5 a=l5 b):a.rs.length=b.rs.length:=by rw [←quv a,h,quv]
theorem TL {α:Type} {f g:Nat→List α}:∀k,(∀i,i<k→f i=g i)→eG k f=eG k g
 |0,_=>rfl
 |k+1,h=>by rw [qr,qr,TL k (fun i hi=>h i om),h k om]
theorem zd1 {a b:bH} (h:bM a b):∀i,aK b i=aK a i:=by
 obtain ⟨h0,h1,h2,h3,h4,h5,h6,h7⟩:=h
 intro i
 match i with
 |0=>show [ay b.next]=[ay a.next];rw [h0]
 |1=>show [ay b.st.aB,b.st.ak,b.st.gs.length]=[ay a.st.aB,a.st.ak,a.st.gs.length];rw [h1,h2,h3]
 |2=>show eG (b.st.gs.length-1) (yT b.st.gs)=eG (a.st.gs.length-1) (yT a.st.gs);rw [h3]
 |3=>show b.st.cl.map ay=a.st.cl.map ay;rw [h4]
 |4=>show b.st.cu.map ay=a.st.cu.map ay;rw [h5]
 |5=>show (b.st.ts.length::eG b.st.ts.length fun i=>sD (qh b.st.ts i) (b.st.ts.getD i Tk.zero))=a.st.ts.length::eG a.st.ts.length fun i=>sD (qh a.st.ts i) (a.st.ts.getD i Tk.zero);rw [h6]
 |6=>
  have hl:=XW h7
  show (eG b.st.rs.length fun g=>zV g (b.st.rs.getD g Rw.zero).l)=eG a.st.rs.length fun g=>zV g (a.st.rs.getD g Rw.zero).l
  rw [hl]
  exact TL _ fun g hg=>by rw [←q1i hg,←h7,q1i om]
 |k+7=>rfl
theorem TM {a b:bH} (h:bM a b):bJ b=bJ a:=by unfold bJ;rw [q82 (CX h),h.1]
theorem zaz {a b:bH} (h:bM a b):iN b=iN a:=TL 7 fun i _=>zd1 h i
theorem za0 {a b:bH} (h:bM a b):dN b=dN a:=by unfold dN;rw [zaz h]
theorem q83 {a b:bH} (h:bM a b):bT b=bT a:=by unfold bT;rw [TM h,za0 h]
theorem qw9 (a:dK):iY a a:=⟨⟨rfl,rfl,rfl⟩,rfl,rfl,rfl,rfl⟩
theorem qxa {a b:dK} (h:iY a b):iY b a:=⟨⟨h.1.1.symm,h.1.2.1.symm,h.1.2.2.symm⟩,h.2.1.symm,h.2.2.1.symm,h.2.2.2.1.symm,h.2.2.2.2.symm⟩
theorem qsf {a b c:dK} (h:iY a b) (k:iY b c):iY a c:=⟨⟨h.1.1.trans k.1.1,h.1.2.1.trans k.1.2.1,h.1.2.2.trans k.1.2.2⟩,h.2.1.trans k.2.1,h.2.2.1.trans k.2.2.1,h.2.2.2.1.trans k.2.2.2.1,h.2.2.2.2.trans k.2.2.2.2⟩
theorem q1m {a b:bH} (h:bM a b):bM b a:=qH h.1.symm (qxa (CX h))
theorem qxb {a b c:bH} (h:bM a b) (k:bM b c):bM a c:=qH (h.1.trans k.1) (qsf (CX h) (CX k))
theorem Oh {a b:dK} (h:iY a b) (hf:aX a):aX b:=by
 obtain ⟨⟨h1,h2,h3⟩,h4,h5,h6,h7⟩:=h
 refine ⟨h3▸hf.g,h4▸hf.l,h5▸hf.u,h6▸hf.t,by rw [←XW h7];exact hf.s,fun y hy=>?_⟩
 have h8:y.l∈l5 a:=by rw [h7];exact List.mem_map_of_mem hy
 obtain ⟨z,hz,e⟩:=List.mem_map.1 h8
 rw [←e]
 exact hf.r z hz
def jK (x:dK):Prop:=x.ts.length≤60∧x.gs.length≤12∧x.rs.length≤12∧x.cl.length≤8∧x.cu.length≤8∧∀k,k<x.rs.length→(x.rs.getD k Rw.zero).l.length≤8
instance XY (x:dK):Decidable (jK x):=by unfold jK;infer_instance
theorem za1 {x:dK} (h:jK x):aX x:=by
 obtain ⟨h1,h2,h3,h4,h5,h6⟩:=h
 refine ⟨by omega,by omega,by omega,by omega,by omega,fun y hy=>?_⟩
 obtain ⟨k,hk,rfl⟩:=List.getElem_of_mem hy
 have:=h6 k hk
 rw [List.getD_eq_getElem?_getD,List.getElem?_eq_getElem hk] at this
 exact Nat.le_trans this de
def jA.zero:jA:=⟨⟨#[]⟩,0,0⟩
def jA.cells (x:jA):Array Value:= #[.string x.nm,.int .i64 (x.fr:Int),.int .i64 (x.to:Int)]
def UM (a b c d e:Nat):bH:=⟨1,⟨1,0,some ⟨a,0,none⟩,1,[⟨0,1⟩],some ⟨b,0,none⟩,1,[0],some ⟨c,0,none⟩,1,[0],none,0,[],some ⟨e,0,none⟩,1,[⟨some ⟨d,0,none⟩,1,[⟨0,0,0⟩]⟩]⟩⟩
section
variable {w:World} {a b c d e f:Nat}
theorem C9 {α:Type} {p:α→Prop} {x:α} (h:p x):∀y∈[x],p y:=fun y hy=>by rw [List.mem_singleton] at hy;subst hy;exact h
theorem zcp {α:Type} {p:α→Prop}:∀y∈([]:List α),p y:=fun y hy=>by cases hy
theorem zcq:Gr.Ok ⟨0,1⟩:=⟨by unfold bP;decide,by unfold bP;decide⟩
theorem ze6:(UM a b c d e).st.aD.Ok:=⟨show bP 1 by unfold bP;decide,show 0<18446744073709551616 by decide,C9 zcq,C9 (by unfold bP;decide),C9 (by unfold bP;decide),zcp,C9 (C9 ⟨by decide,by decide,by decide⟩)⟩
theorem zcr:aX (UM a b c d e).st:=⟨by show 1≤1000000;decide,by show 1≤1000000;decide,by show 1≤1000000;decide,by show 0≤1000000;decide,by show 1≤1000000;decide,C9 (by show 1≤1000000;decide)⟩
theorem zcs:fK (UM a b c d e).st:=⟨Nat.le_refl 1,Nat.le_refl 1,Nat.le_refl 1,Nat.le_refl 0,Nat.le_refl 1,C9 (Nat.le_refl 1)⟩
end
def BN (w:World) (l:List Gr) (g:Nat) (r:Ending) (w':World):Prop:=(∃d:Int,r= .returned (.int .i64 d)∧(d≤4↔gK l g∧gY l g≤4))∧Below w.heap.size w w'
theorem q7u {l:List Gr} {g y z:Nat} (hp:∀i,0<i→i<g→gK l i) (hy:y≤g) (h0:0<y) (hz:(l.getD y Gr.zero).parent=z) (hyz:z<y):gY l y=gY l z+1:=by
 have h:=Xc (l:=l) (g:=y) (fun i h1 h2=>by
  rcases Nat.lt_or_ge i y with h3|h3
  ·exact hp i h1 om
  ·obtain rfl:i=y:=by omega
   unfold gK
   omega) h0
 rw [hz,Int.toNat_natCast] at h
 exact h
theorem qv6 {w w':World} {l:List Gr} {g y:Nat} (hp:∀i,0<i→i<g→gK l i) (hy:y≤g) (h0:0<y) (h:¬(0≤(l.getD y Gr.zero).parent∧(l.getD y Gr.zero).parent<y)) (hb:Below w.heap.size w w'):BN w l g (.returned (.int .i64 5)) w':=by
 refine ⟨⟨5,rfl,⟨fun h=>by omega,fun hh=>?_⟩⟩,hb⟩
 exfalso
 apply h
 rcases Nat.lt_or_ge y g with h3|h3
 ·exact hp y h0 h3
 ·obtain rfl:y=g:=by omega
  exact hh.1
theorem qv7 {w w':World} {l:List Gr} {g y n:Nat} (hd:gY l g=n+gY l y) (h:y=0∨5≤n) (hpg:y=g∨gK l g) (hg:0<g) (hb:Below w.heap.size w w'):BN w l g (.returned (.int .i64 (n:Int))) w':=by
 refine ⟨⟨n,rfl,⟨fun hn=>?_,fun hh=>?_⟩⟩,hb⟩
 ·rcases h with rfl|h
  ·rw [qpi] at hd
   exact ⟨hpg.resolve_left om,by omega⟩
  ·omega
 ·omega
theorem zcf {l:List Gr} {y z:Nat} (hz:(l.getD y Gr.zero).parent=z) (h:z<y):gK l y:=by unfold gK;omega
theorem zcg {l:List Gr} {g:Nat} (h0:0<g) (h:¬(gK l g∧gY l g≤4)):sj l g=false:=Lu h0 fun hh=>h ⟨⟨hh.1,hh.2.1⟩,hh.2.2.2⟩
theorem q7v {l:List Gr} {g:Nat} (h:gK l g∧gY l g≤4) (hw:1≤(l.getD g Gr.zero).weight∧(l.getD g Gr.zero).weight≤65536):sj l g=true:=q0t ⟨h.1.1,h.1.2,hw,h.2⟩
theorem zch {l:List Gr} {g:Nat} (hu:bL g (sj l)):∀i,0<i→i<g→gK l i:=fun i h0 hi=>Tj (hu i hi) h0
theorem Mg {x:dK} (h:jv x.gs=false):eO x.aD=false:=by unfold eO;rw [show jv x.aD.gs=false from h,Bool.and_false]
theorem q3r {m n:Nat}:∀k,(∀i,n≤i→i<n+k→m/2^i%2=0)→m%2^ (n+k)=m%2^n
 |0,_=>rfl
 |k+1,h=>by
  rw [←Nat.add_assoc,Nat.mod_pow_succ,h (n+k) om om,Nat.mul_zero,Nat.add_zero]
  exact q3r k fun i h1 h2=>h i h1 om
theorem q3s {m n:Nat} (hm:m<18446744073709551616) (hn:n≤64) (h:∀i,n≤i→i<64→m/2^i%2=0):¬2^n≤m:=by
 have h1:=q3r (m:=m) (n:=n) (64-n) fun i h1 h2=>h i h1 om
 rw [show n+(64-n)=64 by omega,Nat.mod_eq_of_lt (show m<2^64 from hm)] at h1
 have:=Nat.mod_lt m (Nat.two_pow_pos n)
 omega
theorem q3t {m n c:Nat} (hc:n≤c) (h:m/2^c%2=1):2^n≤m:=by
 have h1:2^n≤2^c:=Nat.pow_le_pow_right de hc
 rcases Nat.lt_or_ge m (2^c) with h2|h2
 ·rw [Nat.div_eq_of_lt h2] at h;omega
 ·omega
def jS (s:mV):Bool:=(eO s&&Tn s)&& (eB s.cl.length (fun c=>gL (s.cl.getD c 0))&&eB s.sp.length (rowOk s))
structure ZQ (x:dK):Prop where
 cfg:eO x.aD=true
 cl:(x.cl.length:Int)=x.aB
 cu:(x.cu.length:Int)=x.aB
 rs:x.rs.length=x.gs.length
 cls:∀c,c<x.cl.length→gL (x.cl.getD c 0)=true
 row:∀g,g<x.rs.length→rowOk x.aD g=true
section
variable {x:dK} {g:Nat}
theorem zci (h:eO x.aD=false):jS x.aD=false:=by unfold jS;rw [h];rfl
theorem ZR (h:¬((x.cl.length:Int)=x.aB∧(x.cu.length:Int)=x.aB∧x.rs.length=x.gs.length)):jS x.aD=false:=by unfold jS;rw [Lx,decide_eq_false h,Bool.and_false,Bool.false_and]
theorem q9s {c:Nat} (hc:c<x.cl.length) (h:gL (x.cl.getD c 0)=false):jS x.aD=false:=by unfold jS;rw [zj (n:=x.aD.cl.length) hc (p:=fun c=>gL (x.aD.cl.getD c 0)) h];simp
theorem q3u (hg:g<x.rs.length) (h:rowOk x.aD g=false):jS x.aD=false:=by unfold jS;rw [zj (n:=x.aD.sp.length) (by rwa [rO]) h];simp
theorem zcj (h1:eO x.aD=true) (h2:(x.cl.length:Int)=x.aB∧(x.cu.length:Int)=x.aB∧x.rs.length=x.gs.length) (h3:bL x.cl.length (fun c=>gL (x.cl.getD c 0))) (h4:bL x.rs.length (rowOk x.aD)):jS x.aD=true:=by
 unfold jS
 rw [h1,Lx,decide_eq_true h2,show eB x.aD.cl.length (fun c=>gL (x.aD.cl.getD c 0))=true from h3.all,rO,h4.all]
 rfl
theorem ze0 (h:jS x.aD=true):ZQ x:=by
 unfold jS at h
 simp only [Bool.and_eq_true] at h
 obtain ⟨⟨h1,h2⟩,h3,h4⟩:=h
 rw [Lx,decide_eq_true_eq] at h2
 rw [rO] at h4
 exact ⟨h1,h2.1,h2.2.1,h2.2.2,fun c hc=>DR h3 hc,fun g hg=>DR h4 hg⟩
theorem ZT:zw x.aD=(jS x.aD&&eB x.ts.length (fC x.aD)):=by
 unfold zw jS
 simp only [Bool.and_assoc]
 rfl
end
theorem q3v {t:Int} (h:¬(0≤t∧t≤281474976710656)):gL t=false:=decide_eq_false h
theorem q7w {t:Int} (h:0≤t∧t≤281474976710656):gL t=true:=decide_eq_true h
def lC (m:Mb):List Value:=[.int .u64 (m.v:Int),.int .i64 (m.k:Int),.int .i64 (m.id:Int)]
theorem ZU (m:Mb):(lC m).length=3:=rfl
def Mb.fE (m:Mb):Array Value:= #[.int .u64 (m.v:Int),.int .i64 (m.k:Int),.int .i64 (m.id:Int)]
def Mb.zero:Mb:=⟨0,0,0⟩
theorem ZV (x:Mb):∀v∈x.fE.toList,v.oneCell'=true:=by simp [Mb.fE,Value.oneCell']
theorem q3w (l:List Mb):∀u∈l.flatMap lC,u.oneCell'=true:=by
 intro u hu
 obtain ⟨x,_,hx⟩:=List.mem_flatMap.1 hu
 simp only [lC,List.mem_cons,List.not_mem_nil,or_false] at hx
 rcases hx with rfl|rfl|rfl<;>rfl
def Mh (l:List Mb):Mb:=dx (l.getD 0 Mb.zero) (l.drop 1)
theorem qq2 {l:List Mb} (h:l≠[]) (hk:∀m∈l,m.k≤1∧m.v<18446744073709551616):Mh l=dx iU l:=by
 obtain ⟨m,r,rfl⟩:=List.exists_cons_of_ne_nil h
 have h1:=hk m (by simp)
 have e:m.lt iU=true:=by
  unfold Mb.lt iU
  rw [decide_eq_true_eq]
  show m.v<18446744073709551615∨m.v=18446744073709551615∧(m.k<18446744073709551615∨m.k=18446744073709551615∧m.id<18446744073709551615)
  omega
 show dx m r=dx (if m.lt iU then m else iU) r
 rw [e];rfl
theorem qq3 {l:List Mb} {b:Mb} {k:Nat} (h1:1≤k) (hk:k<l.length):dx b ((l.take (k+1)).drop 1)=if (l.getD k Mb.zero).lt (dx b ((l.take k).drop 1)) then l.getD k Mb.zero else dx b ((l.take k).drop 1):=by
 rw [Lj Mb.zero hk,List.drop_append_of_le_length (by rw [List.length_take];omega),qlq]
theorem ZW {a b:Mb} (h:a.v≠b.v):a.lt b=decide (a.v<b.v):=decide_eq_decide.2 om
theorem ZX {a b:Mb} (h:a.v=b.v) (h2:a.k≠b.k):a.lt b=decide (a.k<b.k):=decide_eq_decide.2 om
theorem Qz {a b:Mb} (h:a.v=b.v) (h2:a.k=b.k):a.lt b=decide (a.id<b.id):=decide_eq_decide.2 om
theorem ZY {a b:Mb} {m n:Nat} (h:a.lt b=decide (m<n)) {w w':World} (hb:Below w.heap.size w w'):Is w (.bool (a.lt b)) (.returned (.bool (decide ((m:Int)<(n:Int))))) w':=by
 rw [h];exact Lp om hb
section
variable {x:dK} {g i:Nat} {z:Sp} {t:Tk}
theorem q7x (h:iC z.v z.r (x.gs.getD g Gr.zero).weight=true) (h0:g=0) (hv:z.v=0):decide ((z.r:Int)>0)= !gu x.aD g z:=by
 rw [←q03 h h0 hv,Bool.eq_iff_iff,bne_iff_ne,decide_eq_true_eq]
 omega
theorem q3y (ht:x.ts.getD i Tk.zero=t) (h:t.id≤qh x.ts i):fC x.aD i=false:=by
 unfold qh at h
 split at h
 ·exact quj (yR (by rw [ht];omega))
 ·exact qui om (by rw [ht];omega)
theorem q7y {l:List Tk} {id:Int} (h:¬id≤qh l i):i=0∨(l.getD (i-1) Tk.zero).id<id:=by
 unfold qh at h
 split at h
 ·exact .inl ‹_›
 ·exact .inr om
theorem CZ (ht:x.ts.getD i Tk.zero=t) (h:dF x.aD t=false):fC x.aD i=false:=quj (by rw [ht];exact h)
theorem ze1 (ht:x.ts.getD i Tk.zero=t) (h0:¬t.id≤qh x.ts i) (h:dF x.aD t=true):fC x.aD i=true:=q6a (by rw [ht];exact q7y h0) (by rw [ht];exact h)
end
theorem q7z {s:mV} (hok:s.Ok) (g c:Nat):(s.spot g c).Ok:=by
 have key:∀l:List Sp,(∀z∈l,z.Ok)→(l.getD c Sp.zero).Ok:=by
  intro l hl
  rcases Nat.lt_or_ge c l.length with h|h
  ·exact hl _ (qi Sp.zero h)
  ·rw [List.getD_eq_getElem?_getD,List.getElem?_eq_none h]
   exact ⟨by decide,by decide,by decide⟩
 refine key _ ?_
 rcases Nat.lt_or_ge g s.sp.length with h|h
 ·exact hok.sp _ (qi [] h)
 ·rw [List.getD_eq_getElem?_getD,List.getElem?_eq_none h]
  intro z hz
  cases hz
theorem q3z {x:dK} (hok:x.aD.Ok) (g c:Nat):∀m∈dB x.aD g c,m.k≤1∧m.v<18446744073709551616:=by
 rw [Tp]
 intro m hm
 rcases List.mem_append.1 hm with h|h
 ·obtain ⟨t,ht,h2⟩:=List.mem_filterMap.1 h
  unfold su at h2
  split at h2
  ·injection h2 with h2
   subst h2
   exact ⟨Nat.zero_le _,(hok.ts t ht).v⟩
  ·cases h2
 ·obtain ⟨i,_,h2⟩:=List.mem_filterMap.1 h
  unfold kT at h2
  split at h2
  ·injection h2 with h2
   subst h2
   exact ⟨Nat.le_refl _,(q7z hok i c).v⟩
  ·cases h2
theorem q70 {β:Type} {f:Nat→Option β} {n g u:Nat} (h2:u<n) (hf:g+1≤u→f u=none):(((List.range n).drop (g+1)).take (u+1- (g+1))).filterMap f=(((List.range n).drop (g+1)).take (u- (g+1))).filterMap f:=by
 rcases Nat.lt_or_ge u (g+1) with h|h
 ·rw [show u+1- (g+1)=u- (g+1) by omega]
 ·rw [Xn h h2,hf h]
  simp
def fF (l:List Mb) (k:Nat):Mb:=dx (l.getD 0 Mb.zero) ((l.take k).drop 1)
theorem q30 (l:List Mb):fF l 1=l.getD 0 Mb.zero:=by
 unfold fF
 rw [List.drop_of_length_le (by rw [List.length_take];omega)]
 rfl
theorem q31 {l:List Mb} {k:Nat} (h1:1≤k) (hk:k<l.length) (h:(l.getD k Mb.zero).lt (fF l k)=true):fF l (k+1)=l.getD k Mb.zero:=by
 unfold fF at h⊢
 rw [qq3 h1 hk,if_pos h]
theorem q71 {l:List Mb} {k:Nat} (h1:1≤k) (hk:k<l.length) (h:(l.getD k Mb.zero).lt (fF l k)=false):fF l (k+1)=fF l k:=by
 unfold fF at h⊢
 rw [qq3 h1 hk,if_neg (by rw [h];decide)]
theorem q32 {l:List Mb} {k:Nat} (h:l.length≤k):fF l k=Mh l:=by
 unfold fF Mh
 rw [List.take_of_length_le h]
def q9t (t:TypeId) (w:World) (R:List Mb) (r:Ending) (w':World):Prop:=
 (∃A c,r= .returned (.slice A R.length c)∧w'.ownsRow w.heap.size t 3 (.slice A R.length c) R.length (R.flatMap lC)∧R.length≤c)∧Below w.heap.size w w'
theorem q33 {t:TypeId} {w w':World} {q R:List Mb} {A:Option Addr} {c:Nat} (h:q=R) (ho:w'.ownsRow w.heap.size t 3 (.slice A q.length c) q.length (q.flatMap lC)) (hc:q.length≤c) (hb:Below w.heap.size w w'):q9t t w R (.returned (.slice A q.length c)) w':=by
 subst h
 exact ⟨⟨A,c,rfl,ho,hc⟩,hb⟩
theorem Z0 (x:dK) (g c:Nat):(dB x.aD g c).length≤x.ts.length+x.rs.length:=by
 rw [Tp,List.length_append]
 have h1:=List.length_filterMap_le (su · g c) x.aD.ts
 have h2:=List.length_filterMap_le (kT x.aD c (fun h=>dB x.aD h c) g) ((List.range x.aD.sp.length).drop (g+1))
 rw [List.length_drop,List.length_range] at h2
 have hl:=rO (x:=x)
 have h3:x.aD.ts.length=x.ts.length:=rfl
 omega
def Km (l:List Nat):Value:= .string (jo l)
def nL:List (List Nat):=[[104,101,97,100],[110,101,120,116],[99,111,110,102,105,103],[103,114,111,117,112,115],[99,108,111,99,107,115],[99,117,114,114,101,110,116],[116,97,115,107,115],[115,112,111,116,115],[115,117,109]]
def Gm (j:Nat):ByteArray:=jo (nL.getD j [])
theorem q9u {i:Nat} (h:i<7):Gm (i+1)=qa i:=by
 match i,h with
 |0,_=>rfl
 |1,_=>rfl
 |2,_=>rfl
 |3,_=>rfl
 |4,_=>rfl
 |5,_=>rfl
 |6,_=>rfl
theorem q37:∀j,∀b∈nL.getD j [],b<256
 |0=>by decide
 |1=>by decide
 |2=>by decide
 |3=>by decide
 |4=>by decide
 |5=>by decide
 |6=>by decide
 |7=>by decide
 |8=>by decide
 |j+9=>by intro b hb;cases hb
theorem q72:∀j,j<9→∀k,k<9→decide (nL.getD j []=nL.getD k [])=decide (j=k):=by decide
theorem Gn {j k:Nat} (hj:j<9) (hk:k<9):((Gm j).toList==(Gm k).toList)=decide (j=k):=by
 unfold Gm
 rw [qzo (q37 j) (q37 k),q72 j hj k hk]
def Mi (s:bH) (nm:ByteArray):Nat→Nat→List Nat
 |0,_=>[]
 |f+1,i=>if (nm.toList==(qa i).toList)=true then aK s i else Mi s nm f (i+1)
def ofR (s:bH) (nm:ByteArray):List Nat:=Mi s nm 7 0
section
variable {s:bH} {nm:ByteArray} {f i:Nat}
theorem Gp (h:(nm.toList==(qa i).toList)=true):Mi s nm (f+1) i=aK s i:=if_pos h
theorem cZ (h:(nm.toList==(qa i).toList)=false):Mi s nm (f+1) i=Mi s nm f (i+1):=if_neg (by rw [h];decide)
end
theorem Gq (s:bH) {j:Nat} (hj:j<9):∀(f i:Nat),i+f=7→Mi s (Gm j) f i=if i<j∧j<8 then aK s (j-1) else []
 |0,i,h=>by
  rw [if_neg om]
  rfl
 | f + 1, i, h => by
  by_cases hji:j=i+1
  ·subst hji
   rw [Gp (by rw [←q9u (show i<7 by omega),Gn hj hj];simp),if_pos ⟨by omega,by omega⟩]
   rfl
  ·rw [cZ (by rw [←q9u (show i<7 by omega),Gn hj (show i+1<9 by omega),decide_eq_false hji]),Gq s hj f (i+1) om]
   by_cases hc:i<j∧j<8
   ·rw [if_pos hc,if_pos ⟨by omega,hc.2⟩]
   ·rw [if_neg hc,if_neg om]
def mG (s:bH) (j:Nat):List Nat:=ofR s (Gm j)
theorem qti (s:bH) {j:Nat} (hj:j<9):mG s j=if 0<j∧j<8 then aK s (j-1) else []:=Gq s hj 7 0 rfl
theorem qq5 (s:bH) {j:Nat} (hj:j<9) (h:j=0∨j=8):mG s j=[]:=by rw [qti s hj,if_neg om]
theorem Kn (s:bH) {i:Nat} (h:i<7):mG s (i+1)=aK s i:=by rw [qti s om,if_pos ⟨by omega,by omega⟩];rfl
theorem ze2 (s:bH):eG 9 (mG s)=iN s:=by
 rw [XO,qr,qr,qr,qr,qr,qr,qr,qr,qr,qc2,qq5 s (j:=0) om (.inl rfl),qq5 s (j:=8) om (.inr rfl),
  Kn s (i:=0) om,Kn s (i:=1) om,Kn s (i:=2) om,Kn s (i:=3) om,Kn s (i:=4) om,Kn s (i:=5) om,Kn s (i:=6) om]
 simp
theorem qv8 {s:bH} (h:ShAt s.st) {j:Nat} (hj:j<9):(mG s j).length≤600000:=by
 rw [qti s hj]
 split
 ·exact quq h om
 ·exact Nat.zero_le _
theorem q38 {s:bH} (h:ShAt s.st):∀k,k≤9→(eG k (mG s)).length≤600000*k
 |0,_=>Nat.zero_le _
 |k+1,hk=>by
  have h1:=q38 h k om
  have h2:=qv8 h (show k<9 by omega)
  rw [qr,List.length_append]
  omega
theorem ze3 {l:List Gr} {g:Nat} (h:1≤g):yT l (g-1)=[ay (l.getD g Gr.zero).parent,ay (l.getD g Gr.zero).weight]:=by unfold yT;rw [Nat.sub_add_cancel h]
theorem qxz {l:List Tk} {i:Nat} (h:0<i):qh l i=(l.getD (i-1) Tk.zero).id:=if_neg om
theorem q39 {l:List Tk} {i:Nat} (h:¬0<i):qh l i=0:=if_pos om
def q73 (t:TypeId) (w:World) (r:Ending) (w':World):Prop:=
 (∃g,r= .returned (.slice (some ⟨g,0,none⟩) 9 9)∧w'.ownsRow w.heap.size t 1 (.slice (some ⟨g,0,none⟩) 9 9) 9 (nL.map Km))∧Below w.heap.size w w'
theorem qle (b:Bk) (hok:b.Ok) (A:Option Addr) (c B:Nat) (w:World) (hL:aO B w) (hB:B≤w.heap.size) (hr:Rd w w.heap.size 11 A b.evs.length (b.evs.flatMap eF)) (hn:b.evs.length≤1000000):
    Calls Tryz.prog 106 #[.agg (b.cells A c)] w (qx w b.err b.out):=by
 refine (bZ Tryz.func106 36) ?_
 refine (JP∘JE) fun w1 g1=>(Jp 2∘Jj∘JQ∘JP∘Jy (v:= .agg (b.cells A c)) (h:=by exact Yl.qf rfl rfl aP rfl (fun _ h=>qb (h.blk (i:=0) rfl)))∘JI (h:=by exact fun E=>qt8 b hok A c B _ (hL.mem E hB) (E.le hB) (E.old hr) hn)) fun w8 hbw=>(Jp 1∘aT∘Jj) (Ju (fun lI=>?_) fun lI=>?_)
 ·
  intro a Z E
  have hfit:b.fits=false:=by simpa using lI
  exact Jb Z E ((JT∘JP∘Jp 2∘Jj∘JZ∘bW) fun E=>WM (by unfold Bk.err;rw [if_pos hfit]) de E.below)
 intro a Z E
 have hfit:b.fits=true:=by simpa using lI
 have hbl:=Lg b
 refine Jb Z E ((JF∘aG∘JP∘Jy (v:= .agg (b.cells A c)) (h:=by exact Yl.qf rfl rfl aP rfl (fun _ h=>qb (h.blk (i:=0) rfl)))∘JK (h:=by exact fun E=>q54 b hok A c B _ (hL.mem E hB) (E.le hB) (E.old hr) hn hfit)) fun vC c11 wN Ig=>(Jp 1∘aT∘Jr∘Jp 1∘Jl∘Jp 1∘Jo (vI (8+((b.body).length):Nat)) (by exact wJ om om)∘bn 4∘Jp 1∘eZ∘Jj∘JQ∘JP∘Jp 2∘aQ∘Jj) (Ji (fun iQ=>?_) fun iQ=>?_))
 ·
  exact (JT∘JP∘Jp 2∘Jj∘JZ∘bW) fun E=>WM (by unfold Bk.err;rw [if_neg (by simp [hfit]),if_pos om]) de E.below
 refine (JF∘aG∘JP∘Jp 1∘Jv 1 [(19,vB (IntKind.u8.wrap ((8+((b.body).length)+4:Nat):Int)))]∘Jo (vB ((8+((b.body).length)+4)%256:Nat)) (by exact rC (8+((b.body).length)+4))∘Jp 2∘Jo (vI ((8+((b.body).length)+4)/256:Nat)) (by exact Dn .i64 (8+((b.body).length)+4) (j:=8) (q:=256) rfl rfl)∘Jv 1 [(22,vB (IntKind.u8.wrap (((8+((b.body).length)+4)/256:Nat):Int)))]∘Jo (vB (((8+((b.body).length)+4)/256)%256:Nat)) (by exact rC ((8+((b.body).length)+4)/256))∘Jy (v:=vP 0 0) (h:=by exact Yl.MQ (ad:=⟨0,0,none⟩) (m:=2) (y:=0) (sz:=1) rfl rfl rfl kr de)∘Jy (v:=vB 113) (h:=by exact Yl.qj rfl rfl kr (fun _ h=>(hL.mem h hB).vk))∘Jy (v:=vP 0 1) (h:=by exact Yl.MQ (ad:=⟨0,0,none⟩) (m:=2) (y:=1) (sz:=1) rfl rfl rfl kr de)∘Jy (v:=vB 116) (h:=by exact Yl.qj rfl rfl kr (fun _ h=>(hL.mem h hB).vo))∘Jg 0 O1∘JU aL #[vB ((8+((b.body).length)+4)%256:Nat),vB (((8+((b.body).length)+4)/256)%256:Nat),vB 0,vB 0,vB 113,vB 116,vB 1,vB b.kind]) fun Dz g29=>(Jp 1∘aF∘Jr∘Jp 2) fun a Z E=>?_
 refine fo Z 2 rfl rfl ?_
 replace E:=E.dJ (i:=0) (n:=8) (size:=1) rfl rfl de
 refine qz Z E (i:=0) rfl aL rfl rfl rfl (news:=(b.body.map B8)) (E.rd (i:=1) rfl) (mH _) om om rfl de ?_
 clear Z E;intro a w32 pR c32 Z E hc32
 rw [show ((#[vB ((8+((b.body).length)+4)%256:Nat),vB (((8+((b.body).length)+4)/256)%256:Nat),vB 0,vB 0,vB 113,vB 116,vB 1,vB b.kind]).toList)++(b.body.map B8)=b.raw.map B8 from qz5 om] at E
 refine Jb Z E ((JK (h:=by exact fun E=>WA _ _ _ b.raw B _ (hL.mem E hB) (E.le hB) (E.rd (i:=0) rfl) (Lf b) om (q8o hok))) fun Lc Dy SV xW=>(Jx∘Jx∘Jp 2∘Jj∘JZ∘JM (.t (.f .n))) fun a Z E=>?_)
 have Ih:b.err=0:=by unfold Bk.err;rw [if_neg (by simp [hfit]),if_neg om]
 have Ih:b.err=0:=by unfold Bk.err;rw [if_neg (by simp [hfit]),if_neg om]
 exact sN rfl Z rfl rfl ((by rw [Ih,q8p Ih];exact ⟨⟨_,_,rfl,E.own (i:=0) rfl,xW⟩,E.below⟩))
theorem qw1 (b:Bk) (hok:b.Ok) (A:Option Addr) (c B:Nat) (w:World) (hL:aO B w) (hB:B≤w.heap.size) (hr:Rd w w.heap.size 11 A b.evs.length (b.evs.flatMap eF)) (hn:b.evs.length≤1000000):
    Calls Tryz.prog 45 #[.agg (b.cells A c)] w (Is w (vI (b.err:Int))):=by
 refine (bZ Tryz.func45 11) ?_
 exact (JP∘JE) fun w1 g1=>(Jp 1∘Jr∘Jy (v:= .agg (b.cells A c)) (h:=by exact Yl.qf rfl rfl aP rfl (fun _ h=>qb (h.blk (i:=0) rfl)))∘JK (h:=by exact fun E=>qle b hok A c B _ (hL.mem E hB) (E.le hB) (E.old hr) hn)) fun A7 c7 w7 Te=>(Jp 1∘Jx∘Jx∘Jp 2∘aF∘Jr∘Jp 2∘aT∘Jj∘JZ) uI
theorem q0a (W w:World) (gb gk:Nat) (A:Option Addr) (n c:Nat) (l:List Nat) (vw:Bool) (most:Nat) (fr:List Fact) (hl:∀b∈l,b<256) (hln:n=l.length) (hn:n≤1000000000) (hr0:Rd W W.heap.size 1 A n (l.map B8)) (hc0:n≤c) (ND:most≤281474976710657)
    (E:Mem W w (.blk gb #[.slice A n c] 30:: .blk gk #[.bool vw] 4::fr)):
    Calls Tryz.prog 249 #[vI most,vP gb 0,vP gk 0] w (q8q W gb gk l vw most fr):=by
 have hr:Rd W W.heap.size 1 A l.length (l.map B8):=hln▸hr0
 have hc:l.length≤c:=hln▸hc0
 refine xO Tryz.func249 [vI most,vP gb 0,vP gk 0] [(0,vI most),(1,vP gb 0),(2,vP gk 0)] fun a Z=>?_
 refine Jb Z E ((JP∘Jp 1∘Jq) fun a Z E=>?_)
 have hvl:=ER l
 have hvb:=Sj l hl
 have htv:=qc1 most l
 refine Jb Z E ((JG∘JP∘Jc O0∘JL (h:=by exact fun E=>U8 A n c l _ (hln▸E.old hr) hl om)) ?_)
 rintro E _ ru ⟨rfl,hbw⟩
 refine ⟨_,rfl,_,E.call hbw,?_⟩
 refine (Jp 1∘Jx∘Jx∘Jx∘Jp 3∘Jr∘Jc O1∘Jp 1) (Ju (fun fP=>?_) fun fP=>?_)
 ·
  refine (Jp 4) (Je (fun mQ=>?_) fun mQ=>?_)
  ·
   refine (Jp 2∘Jw .u64∘Jp 2∘JW gQ bg) fun sU=>(lH∘Jr∘Jc O0∘Jp 1∘Jy (h:=by exact Yl.sliceFrom aL (j:=((aA l).2.1)) rfl rfl rfl om)∘JW bg bg) fun vD=>(lH∘Jr∘Jp 2∘Jw .u64∘Jy (v:=vQ (if (most:Int)<((aA l).1:Int) then (most:Int) else ((aA l).1:Int))) (h:=by exact Yl.min rfl rfl rfl)∘Jo (vQ (bB most l)) (by rw [Lh])∘Jw .i64∘Jp 1∘aF∘Jj∘JZ) fun a Z E=>?_
   replace E:=E.pt (fs':=(.blk gb #[.slice (if c=((aA l).2.1) then A else A.map (·.add (((aA l).2.1)*1))) (n- ((aA l).2.1)) (c- ((aA l).2.1))] 30:: .blk gk #[.bool (decide (((aA l).1:Int)≤(most:Int)))] 4::fr)) 2 [0,1]
   replace E:=E.pt (fs':=(.blk gb #[.slice (if c=((aA l).2.1) then A else A.map (·.add (((aA l).2.1)*1))) (n- ((aA l).2.1)) (c- ((aA l).2.1))] 30:: .blk gk #[.bool (decide (((aA l).1:Int)≤(most:Int)))] 4::fr)) 2 [0,1]
   exact jB rfl Z rfl (WQ hr hc (by rw [fP,Bool.true_and];unfold jE;rw [Bool.eq_iff_iff];simp only [decide_eq_true_eq];omega) hln E)
  refine (Jp 5∘JW gQ bg) fun sU=>(lH∘Jr∘Jc O0∘Jp 1∘Jy (h:=by exact Yl.sliceFrom aL (j:=((aA l).2.1)) rfl rfl rfl om)∘JW bg bg) fun vD=>(lH∘Jr∘Jp 2∘Jw .u64∘Jy (v:=vQ (if (most:Int)<((aA l).1:Int) then (most:Int) else ((aA l).1:Int))) (h:=by exact Yl.min rfl rfl rfl)∘Jo (vQ (bB most l)) (by rw [Lh])∘Jw .i64∘Jp 1∘aF∘Jj∘JZ) fun a Z E=>?_
  replace E:=E.pt (fs':=(.blk gb #[.slice (if c=((aA l).2.1) then A else A.map (·.add (((aA l).2.1)*1))) (n- ((aA l).2.1)) (c- ((aA l).2.1))] 30:: .blk gk #[.bool false] 4::fr)) 2 [0,1]
  replace E:=E.pt (fs':=(.blk gb #[.slice (if c=((aA l).2.1) then A else A.map (·.add (((aA l).2.1)*1))) (n- ((aA l).2.1)) (c- ((aA l).2.1))] 30:: .blk gk #[.bool false] 4::fr)) 2 [0,1]
  exact jB rfl Z rfl (WQ hr hc (by rw [qlb om,Bool.and_false]) hln E)
 refine (Jv 9 [(24,.bool false)]∘JW gQ bg) fun sU=>(KY∘Jr∘Jc O0∘Jp 1∘Jy (h:=by exact Yl.sliceFrom aL (j:=((aA l).2.1)) rfl rfl rfl om)∘JW bg bg) fun vD=>(KY∘Jr∘Jp 2∘Jw .u64∘Jy (v:=vQ (if (most:Int)<((aA l).1:Int) then (most:Int) else ((aA l).1:Int))) (h:=by exact Yl.min rfl rfl rfl)∘Jo (vQ (bB most l)) (by rw [Lh])∘Jw .i64∘Jp 1∘jq∘Jj∘JZ) fun a Z E=>?_
 replace E:=E.pt (fs':=(.blk gb #[.slice (if c=((aA l).2.1) then A else A.map (·.add (((aA l).2.1)*1))) (n- ((aA l).2.1)) (c- ((aA l).2.1))] 30:: .blk gk #[.bool false] 4::fr)) 2 [0,1]
 replace E:=E.pt (fs':=(.blk gb #[.slice (if c=((aA l).2.1) then A else A.map (·.add (((aA l).2.1)*1))) (n- ((aA l).2.1)) (c- ((aA l).2.1))] 30:: .blk gk #[.bool false] 4::fr)) 2 [0,1]
 exact jB rfl Z rfl (WQ hr hc (by rw [fP,Bool.false_and]) hln E)
theorem Fu (k:Nat) (hk:k=2) (A:Option Addr) (n c:Nat) (l:List Nat) (B:Nat) (w:World) (hL:aO B w) (hB:B≤w.heap.size) (hr:Rd w w.heap.size 1 A n (l.map B8)) (hc:n≤c) (hln:n=l.length) (hn:n≤100000000) (hl:∀b∈l,b<256):
    Calls Tryz.prog 182 #[vB k,.slice A n c] w (Ib w (K9 k l)):=by
 refine (jw Tryz.func182 99) ?_
 refine (JP∘M4) fun w3 g3=>(JA #[vB 0,vB 0,vI 0,vI 0,vN]) fun w4 g4=>(Jp 1∘Jr∘JA #[.bool false]) fun w6 g6=>(JW bg bg) fun WV=>(Jr∘Jy (h:=by exact Yl.makeFunc (fst:=[]) (caps:=[vP g3 0,vP g6 0]) rfl rfl rfl)∘Jp 1∘aQ∘Jr∘Jp 1∘Jy (v:= .agg #[vB k,vB 0,vI 0,vI 0,vN]) (h:=by exact Yl.build (vs:=[(0,vB k)]) rfl kr kr)∘JA #[vB 0,vB 0,vI 0,vI 0,vN]) fun w8 g8=>(JV aP bg) fun vD=>(aT∘Jj∘JQ∘JP∘Jp 2∘aQ∘Jj) (Ju (fun fQ=>?_) fun fQ=>?_)
 ·
  intro a Z E
  have kQ:=eq_of_beq fQ
  revert E;revert a;repeat (first|clear Z|clear E)
  intro a Z E
  obtain rfl:k=2:=by omega
  refine Jb Z E ((JT∘JP∘Jp 1) fun a Z E=>?_)
  refine fo Z 1 rfl rfl ?_
  replace E:=E.pk (fs':=[.blk g3 #[.slice A n c] 30,.blk g6 #[.bool true] 4,.blk g8 #[vB (2:Nat),vB 0,vI 0,vI 0,vN] 85,.blk g4 #[vB 0,vB 0,vI 0,vI 0,vN] 85]) [3,1,0,2]
  have hl1:=qwv hl
  refine rA Z (f:=249) (vs:=[vI 281474976710657]) (fst:=[]) (caps:=[vP g3 0,vP g6 0]) rfl rfl rfl kr rfl de (q0a w _ g3 g6 A n c l true 281474976710657 [.blk g8 #[vB (2:Nat),vB 0,vI 0,vI 0,vN] 85,.blk g4 #[vB 0,vB 0,vI 0,vI 0,vN] 85] hl hln om hr hc om E) ?_
  rintro _ nZ ⟨rfl,Aq1,cq1,hr1,hc1,hm⟩
  refine ⟨_,rfl,?_⟩
  replace E:=hm
  clear Z;intro a Z
  have ht0:=qc1 281474976710657 l
  have hs0:=qz8 l
  refine Jb Z E ((Jf 3∘JW gH xR) fun zN=>(Dr∘Jj) fun a Z E=>?_)
  refine zn (fun aS wS=>Fr aS 99 [] [(5,.bool ((zL l).isSome)),(18,.bool true),(8,vP g8 0),(7,.func (.func 249) #[] #[vP g3 0,vP g6 0]),(6,vP g6 0),(4,vP g4 0),(3,vP g3 0),(0,vB (2:Nat))]∧Mem w wS [.blk g3 #[.slice Aq1 ((za l).length) cq1] 30,.blk g6 #[.bool (true&&jE 281474976710657 l)] 4,.blk g8 #[vB (2:Nat),vB 0,vI 0,vI (bB 281474976710657 l),vN] 85,.blk g4 #[vB (2:Nat),vB 0,vI 0,vI (bB 281474976710657 l),vN] 85]) ?_ ?_
  ·
   refine Jb Z E ((Vs (.t (.t (.t (.f .n)))) []) fun Ta=>(Vy 0 (v:= .agg #[vB (2:Nat),vB 0,vI 0,vI (bB 281474976710657 l),vN]) (h:=by exact Yl.qf rfl rfl aP rfl (fun _ h=>qb (h.blk (i:=2) rfl)))∘Vc 1 O1∘Vp [2]) fun a Z E HS=>?_)
   rcases Z.tf 24 rfl with ⟨rG,Z⟩|⟨rG,Z⟩
   ·
    refine Vb Z E HS ((Vc 3 O0∘Vl 4∘Vp [5,6,7]) fun a Z E HS=>?_)
    rcases Z.tf 29 rfl with ⟨ou,Z⟩|⟨ou,Z⟩
    ·
     have hd29:=eq_of_beq ou
     refine Vb Z E HS ((Vy 8 (v:= .agg #[vB (2:Nat),vB 0,vI 0,vI (bB 281474976710657 l),vN]) (h:=by exact Yl.qf rfl rfl aP rfl (fun _ h=>qb (h.blk (i:=2) rfl)))∘VI 9 (.t (.t (.t (.f .n)))) (h:=by exact fun E=>qt8 ⟨2,0,0,(bB 281474976710657 l:Int),[]⟩ (Fp ht0) none 0 B _ (hL.mem E hB) (E.le hB) Rd.nil (by show 0≤_;omega))) fun w31 hbw=>(Vp [10]) fun a Z E HS=>?_)
     refine s_on Z 11 rfl (iX Z E 3 rfl rfl rfl rfl rfl aP rfl rfl (by simp [Value.oneCell']) ?_)
     clear E;intro Fv E
     refine au (E.pk [0,1,2]) (fun HS=>?_)
     refine Vb Z E HS ((Vp [12]∘Vd∘aF) fun a Z E=>?_)
     have Z:=Z.sp 5 (.bool ((zL l).isSome)) rfl (congrArg Value.bool (by rw [WS,show jE 281474976710657 l=true by simpa using rG,decide_eq_true om,Bool.true_and,Bool.true_and]))
     exact ⟨Z.sub kr,E.pk [0,1,2,3]⟩
    have hd29:=ne_of_beq_false ou
    refine ap Z (fun _=>HS) [8,9,10] (bt 13 [11,12]) [(32,.bool false)] fun a Z=>?_
    refine s_on Z 11 rfl (iX Z E 3 rfl rfl rfl rfl rfl aP rfl rfl (by simp [Value.oneCell']) ?_)
    clear E;intro Fv E
    refine au (E.pk [0,1,2]) (fun HS=>?_)
    refine ap Z (fun _=>HS) [12] (bt 13 []) [(5,.bool false)] fun a Z=>?_
    refine qg kr ?_
    have Z:=Z.sp 5 (.bool ((zL l).isSome)) rfl (congrArg Value.bool (by rw [WS,decide_eq_false om,Bool.false_and,Bool.and_false]))
    exact ⟨Z.sub kr,E.pk [0,1,2,3]⟩
   refine ap Z (fun _=>HS) [3,4,5,6,7,8,9,10] (bt 13 [11,12]) [(32,.bool false)] fun a Z=>?_
   refine s_on Z 11 rfl (iX Z E 3 rfl rfl rfl rfl rfl aP rfl rfl (by simp [Value.oneCell']) ?_)
   clear E;intro Fv E
   refine au (E.pk [0,1,2]) (fun HS=>?_)
   refine ap Z (fun _=>HS) [12] (bt 13 []) [(5,.bool false)] fun a Z=>?_
   refine qg kr ?_
   have Z:=Z.sp 5 (.bool ((zL l).isSome)) rfl (congrArg Value.bool (by rw [WS,show jE 281474976710657 l=false by simpa using rG];rfl))
   exact ⟨Z.sub kr,E.pk [0,1,2,3]⟩
  clear Z E;rintro a w6 ⟨Z,E⟩
  refine Jb Z E ((JZ) (Ju (fun hb5=>?_) fun hb5=>?_))
  ·
   intro a Z E
   have hfin:=hb5
   exact jc rfl Z (.cellS (i:=3) Z E rfl rfl aP rfl) (.tmp Z rfl) (qpd (b:=⟨2,0,0,(bB 281474976710657 l:Int),[]⟩) (A:=none) (c:=0) (by rw [WR];exact qie hfin) (World.ownsRow_nil _ _ _ _) (Nat.le_refl _) E.below)
  intro a Z E
  have hfin:=hb5
  exact jc rfl Z (.cellS (i:=3) Z E rfl rfl aP rfl) (.tmp Z rfl) (qpc (by rw [WR];exact Option.not_isSome_iff_eq_none.1 (by rw [hfin];decide)) rfl (by simp [Value.oneCell']) E.below)
 intro a Z E
 have kQ:=ne_of_beq_false fQ
 exfalso;omega
theorem q0d (A:Option Addr) (n cp:Nat) (l:List Nat) (B:Nat) (w:World) (hL:aO B w) (hB:B≤w.heap.size) (hr:Rd w w.heap.size 1 A n (l.map B8)) (hc:n≤cp) (hln:l.length=n) (hn:n≤9223372036854775807) (hl:∀b∈l,b<256) (hk1:iT l):
    Calls Tryz.prog 134 #[.slice A n cp] w (WT 73 w (dA l)):=by
 refine (bZ Tryz.func134 68) ?_
 refine (JP∘JA #[vB 0,vB 0,vI 0,vI 0,vN]) fun w2 g2=>(Jp 2∘Jr∘Jp 1∘JI (h:=by exact fun E=>qw0 A n cp l _ (E.old hr) hln hn hl)) fun wN hbw=>(Jp 1∘Jx∘Jx∘Jp 2∘Jj∘JQ∘JP∘Jp 2∘aQ∘Jj) (Ju (fun fP=>?_) fun fP=>?_)
 ·
  intro a Z E
  have kM:=bne_iff_ne.1 fP
  refine Jb Z E ((JT∘JP∘Jy (v:= .agg #[vB 0,vB 0,vI 0,vI 0,vN]) (h:=by exact Yl.build (vs:=[]) rfl kr kr)∘Jp 1∘JV aP bg) fun DJ=>(Jp 2∘Jj∘JZ) fun a Z E=>?_)
  exact pJ rfl Z (.cellS (i:=0) Z E rfl rfl aP rfl) (.tmp Z rfl) (.tmp Z rfl) (Fq (qz9 om) E.below)
 intro a Z E
 have kM:=bne_eq_false_iff_eq.1 fP
 have hl0:(aU l).2=0:=by omega
 obtain ⟨v1,v2,v3,v4⟩:=q0c hl0
 obtain ⟨Lb,xY⟩:∃x,x=l.take (aU l).1:=⟨_,rfl⟩
 have r9:Rd w w.heap.size 1 A (aU l).1 (Lb.map B8):=by rw [xY];exact hr.G8 om
 have uK:∀b∈Lb,b<256:=by rw [xY];exact yQ hl _
 have DK:Lb.length=(aU l).1:=by rw [xY,List.length_take];omega
 have WW:Lb.getD 7 0≠1:=by rw [xY];exact hk1.take _ 7 (Nat.le_refl 7)
 refine Jb Z E ((JF∘aG∘JP∘Jp 2∘Jy (h:=by exact Yl.zG aL (j:=(aU l).1) rfl rfl rfl om)∘Jp 1∘bQ∘Jq) ?_)
 repeat (first|clear Z|clear E)
 intro a Z E
 obtain ⟨gA,oA,rfl,_⟩:=r9.qd (Nat.lt_of_le_of_lt (Nat.zero_le _) (show 0<(aU l).1 from by omega)) de
 refine Jb Z E ((JG∘JQ∘JB∘JP∘Jp 1∘JI (h:=by exact fun E=>WC _ (aU l).1 cp Lb B _ (hL.mem E hB) (E.le hB) (E.old r9) om DK om uK)) fun K6 hbw=>(Jp 2∘bQ∘Jj) (Ju (fun fT=>?_) fun fT=>?_))
 ·
  intro a Z E
  have hs:zq Lb=false:=by simpa using fT
  refine Jb Z E ((JT∘JP∘Jy (v:= .agg #[vB 0,vB 0,vI 0,vI 0,vN]) (h:=by exact Yl.build (vs:=[]) rfl kr kr)∘JV aP bg) fun WX=>(Jp 2∘Jj∘JZ) fun a Z E=>?_)
  exact pJ rfl Z (.cellS (i:=0) Z E rfl rfl aP rfl) (.tmp Z rfl) (.tmp Z rfl) (Fq (Ic hl0 xY (by unfold fJ;rw [if_pos hs])) E.below)
 intro a Z E
 have hs:zq Lb=true:=by simpa using fT
 refine Jb Z E ((JF) fun a Z E=>?_)
 refine wp_seq ?_
 refine Jb Z E ((Vs .n []) fun SS=>(Vp [0]∘Vy 1 (v:= .slice (if cp=4 then some ⟨gA,oA,none⟩ else (some ⟨gA,oA,none⟩:Option Addr).map (·.add (4*1))) (6-4) (cp-4)) (h:=by exact Yl.G9 aL (i:=4) (j:=6) rfl rfl rfl rfl om om)∘Vo (.slice (some ⟨gA,oA+4,none⟩) (6-4) (cp-4)) (by simp only [if_neg (show ¬cp=4 by omega),Option.map_some,Addr.add_mid,Nat.mul_one])∘Vy 2 (v:=vP gA (oA+4)) (h:=by exact Yl.arrayAt (k:=2) rfl rfl kr om)∘Vy 3 (v:= .agg #[vB (Lb.getD 4 0),vB (Lb.getD 5 0)]) (h:=by exact Yl.qf rfl rfl Fh rfl (fun _ h=>zdn (k:=4) (l:=Lb) (h.old r9) om))∘Vy 4 (v:= .agg #[vB 113,vB 116]) (h:=by exact Yl.qf rfl rfl Fh rfl (fun _ h=>q50 hL h hB))∘Vy 5 (v:= .bool (!(((Lb.getD 4 0:Int)==(113:Int))&& ((Lb.getD 5 0:Int)==(116:Int))))) (h:=by exact Yl.zc3 rfl rfl rfl kr kr)∘Vp [6]∘Vd∘aF) (Ju (fun kR=>?_) fun kR=>?_))
 ·
  intro a Z E
  simp only [Bool.not_eq_true',Bool.and_eq_false_iff,beq_eq_false_iff_ne] at kR
  have DL:¬(Lb.getD 4 0=113∧Lb.getD 5 0=116):=by omega
  refine Jb Z E ((JT∘JP∘Jy (v:= .agg #[vB 0,vB 0,vI 0,vI 0,vN]) (h:=by exact Yl.build (vs:=[]) rfl kr kr)∘JV aP bg) fun NG=>(Jp 2∘Jj∘JZ) fun a Z E=>?_)
  exact pJ rfl Z (.cellS (i:=0) Z E rfl rfl aP rfl) (.tmp Z rfl) (.tmp Z rfl) (Fq (Ic hl0 xY (by unfold fJ;rw [if_neg (by rw [hs];decide),if_pos DL])) E.below)
 intro a Z E
 simp only [Bool.not_eq_false',Bool.and_eq_true,beq_iff_eq] at kR
 have DL:Lb.getD 4 0=113∧Lb.getD 5 0=116:=by omega
 refine Jb Z E ((JF∘JP∘Jp 1∘Jy (v:=vP gA (oA+6)) (h:=by exact Yl.indexAddr (ad:=⟨gA,oA,none⟩) (y:=6) (sz:=1) rfl rfl rfl om kr)∘JH (getD_lt uK (k:=6) (by first|omega|(simp;omega)))) fun hx1=>(Jy (h:=by exact Yl.o1 r9 6 0 (by first|omega|(simp;omega)) rfl rfl)∘Jp 2∘eZ∘Jj) (Jh (fun hd34=>?_) fun hd34=>?_))
 ·
  refine (JT∘JP∘Jy (v:= .agg #[vB 0,vB 0,vI 0,vI 0,vN]) (h:=by exact Yl.build (vs:=[]) rfl kr kr)∘JV aP bg) fun NH=>(Jp 2∘Jj∘JZ) fun a Z E=>?_
  exact pJ rfl Z (.cellS (i:=0) Z E rfl rfl aP rfl) (.tmp Z rfl) (.tmp Z rfl) (Fq (Ic hl0 xY (by unfold fJ;rw [if_neg (by rw [hs];decide),if_neg (fun hh=>hh DL),if_pos om])) E.below)
 refine (JF∘JP∘Jp 1∘Jy (v:=vP gA (oA+7)) (h:=by exact Yl.indexAddr (ad:=⟨gA,oA,none⟩) (y:=7) (sz:=1) rfl rfl rfl om kr)∘JH (getD_lt uK (k:=7) (by first|omega|(simp;omega)))) fun hx2=>(Jy (h:=by exact Yl.o1 r9 7 0 (by first|omega|(simp;omega)) rfl rfl)∘Jp 2) (Ju (fun vE=>?_) fun vE=>?_)
 ·
  intro a Z E
  have zO:=bne_iff_ne.1 vE
  refine Jb Z E ((Jp 1∘Jy (v:=vP gA (oA+7)) (h:=by exact Yl.indexAddr (ad:=⟨gA,oA,none⟩) (y:=7) (sz:=1) rfl rfl rfl om kr)∘JH (getD_lt uK (k:=7) (by first|omega|(simp;omega)))) fun hx3=>(Jy (h:=by exact Yl.o1 r9 7 0 (by first|omega|(simp;omega)) rfl rfl)∘Jp 3∘aF∘Jq) fun a Z E=>?_)
  rcases hp:K9 (Lb.getD 7 0) ((Lb.take (Lb.length-4)).drop 8) with _|b
  ·
   refine Jb Z E (Ju (fun oq=>?_) fun oq=>?_)
   ·
    intro a Z E
    have rH:=bne_iff_ne.1 oq
    have hkd:Lb.getD 7 0≠1∧Lb.getD 7 0≠2:=by omega
    refine Jb Z E ((JT∘JP∘Jy (v:= .agg #[vB 0,vB 0,vI 0,vI 0,vN]) (h:=by exact Yl.build (vs:=[]) rfl kr kr)∘JV aP bg) fun NI=>(Jp 2∘Jj∘JZ) fun a Z E=>?_)
    exact pJ rfl Z (.cellS (i:=0) Z E rfl rfl aP rfl) (.tmp Z rfl) (.tmp Z rfl) (Fq (Ic hl0 xY (by unfold fJ;rw [if_neg (by rw [hs];decide),if_neg (fun hh=>hh DL),if_neg om,if_pos hkd])) E.below)
   intro a Z E
   have rH:=bne_eq_false_iff_eq.1 oq
   have hkd:Lb.getD 7 0=2:=by omega
   refine Jb Z E ((JF∘aG) fun a Z E=>?_)
   refine zn (fun aS wS=>∃(cs:Array Value) (g7:Nat),Fr aS 68 [] [(8,.bool false),(7,vP g7 0),(40,.bool false),(34,.bool false),(26,.bool false),(21,.bool false),(0,.slice (some ⟨gA,oA,none⟩) ((aU l).1) cp),(15,.bool false),(6,vI ((aU l).2)),(5,vI ((aU l).1)),(4,vI 0),(3,vI 0),(2,vP g2 0)]∧Mem w wS [.blk g7 cs 85,.blk g2 #[vB 0,vB 0,vI 0,vI 0,vN] 85]∧(cs.size=5)∧(∀v∈cs.toList,v.oneCell'=true)) ?_ ?_
   ·
    refine Jb Z E ((Vs .n [12]) fun DN=>(Vp [0,3,4]∘Vy 1 (v:=vP gA (oA+7)) (h:=by exact Yl.indexAddr (ad:=⟨gA,oA,none⟩) (y:=7) (sz:=1) rfl rfl rfl om kr)∘VH (getD_lt uK (k:=7) (by first|omega|(simp;omega)))) fun hx8=>(Vy 2 (h:=by exact Yl.o1 r9 7 0 (by first|omega|(simp;omega)) rfl rfl)∘K4 5 4∘Vy 6 (v:= .slice (if cp=8 then some ⟨gA,oA,none⟩ else (some ⟨gA,oA,none⟩:Option Addr).map (·.add (8*1))) (((aU l).1-4)-8) (cp-8)) (h:=by exact Yl.G9 aL (i:=8) (j:=(aU l).1-4) rfl rfl rfl rfl om om)) fun a Z E HS=>?_)
    refine zc [7,11] kr rfl ?_
    refine all_cons ?_ ?_
    ·refine qq Z (i:=7) rfl rfl ?_
     refine rz Z [vB (Lb.getD 7 0),.slice (if cp=8 then some ⟨gA,oA,none⟩ else (some ⟨gA,oA,none⟩:Option Addr).map (·.add (8*1))) (((aU l).1-4)-8) (cp-8)] rfl rfl ((Fu (Lb.getD 7 0) hkd _ (((aU l).1-4)-8) (cp-8) ((Lb.take (Lb.length-4)).drop 8) B _ (hL.mem E hB) (E.le hB) (E.old (by rw [DK];exact r9.CJ (i:=8) (j:=(aU l).1-4) om om om)) om (by rw [List.length_drop,List.length_take];omega) om (qc4 (yQ uK _) _)).mono (fun _ _ h=>h.none hp)) ?_
     rintro _ Fw ⟨⟨cs,rfl,hs5,h1⟩,hbw⟩
     refine ⟨_,rfl,?_⟩
     replace E:=E.call hbw
     clear Z;intro a Z
     refine au (E.pk [0]) (fun HS=>?_)
     refine Vb Z E HS ((Vp [8]∘Vx 9∘Vx 10∘VA 11 .n #[vB 0,vB 0,vI 0,vI 0,vN]) fun w7 g7=>fun a Z E HS=>?_)
     refine s_on Z 12 rfl (iX Z E 0 rfl rfl rfl rfl rfl aP rfl hs5 (h1) ?_)
     clear E;intro kS E
     refine lG kr ?_
     refine ap Z (jk kr) [13] (bt 14 []) [(8,.bool false)] fun a Z=>?_
     refine qg kr ?_
     exact ⟨cs,g7,Z.sub kr,E.pk [0,1],hs5,h1⟩
    refine all_cons ?_ all_nil
    refine qq Z (i:=11) rfl rfl ?_
    refine xP Z E #[vB 0,vB 0,vI 0,vI 0,vN] ?_
    clear Z E;intro a w7 g7 Z E
    refine au (E.pk [1]) (fun HS=>?_)
    refine s_on Z 7 rfl ?_
    refine rz Z [vB (Lb.getD 7 0),.slice (if cp=8 then some ⟨gA,oA,none⟩ else (some ⟨gA,oA,none⟩:Option Addr).map (·.add (8*1))) (((aU l).1-4)-8) (cp-8)] rfl rfl ((Fu (Lb.getD 7 0) hkd _ (((aU l).1-4)-8) (cp-8) ((Lb.take (Lb.length-4)).drop 8) B _ (hL.mem E hB) (E.le hB) (E.old (by rw [DK];exact r9.CJ (i:=8) (j:=(aU l).1-4) om om om)) om (by rw [List.length_drop,List.length_take];omega) om (qc4 (yQ uK _) _)).mono (fun _ _ h=>h.none hp)) ?_
    rintro _ Fw ⟨⟨cs,rfl,hs5,h1⟩,hbw⟩
    refine ⟨_,rfl,?_⟩
    replace E:=E.call hbw
    clear Z;intro a Z
    refine au (E.pk [1]) (fun HS=>?_)
    refine Vb Z E HS ((Vp [8]∘Vx 9∘Vx 10) fun a Z E HS=>?_)
    refine s_on Z 12 rfl (iX Z E 0 rfl rfl rfl rfl rfl aP rfl hs5 (h1) ?_)
    clear E;intro kS E
    refine lG kr ?_
    refine ap Z (jk kr) [13] (bt 14 []) [(8,.bool false)] fun a Z=>?_
    refine qg kr ?_
    exact ⟨cs,g7,Z.sub kr,E.pk [0,1],hs5,h1⟩
   clear Z E;rintro a wP ⟨cs,g7,Z,E,hs5,h1⟩
   refine Jb Z E ((JQ∘JP∘Jp 2∘aT∘Jj∘JT∘JP∘Jy (v:= .agg #[vB 0,vB 0,vI 0,vI 0,vN]) (h:=by exact Yl.build (vs:=[]) rfl kr kr)∘JV aP gQ) fun NJ=>(Jp 2∘Jj∘JZ) fun a Z E=>?_)
   exact pJ rfl Z (.cellS (i:=1) Z E rfl rfl aP rfl) (.tmp Z rfl) (.tmp Z rfl) (Fq (Ic hl0 xY (by unfold fJ;rw [if_neg (by rw [hs];decide),if_neg (fun hh=>hh DL),if_neg om,if_neg om,hp])) E.below)
  ·
   refine Jb Z E (Ju (fun oq=>?_) fun oq=>?_)
   ·
    intro a Z E
    have rH:=bne_iff_ne.1 oq
    have hkd:Lb.getD 7 0≠1∧Lb.getD 7 0≠2:=by omega
    refine Jb Z E ((JT∘JP∘Jy (v:= .agg #[vB 0,vB 0,vI 0,vI 0,vN]) (h:=by exact Yl.build (vs:=[]) rfl kr kr)∘JV aP bg) fun NI=>(Jp 2∘Jj∘JZ) fun a Z E=>?_)
    exact pJ rfl Z (.cellS (i:=0) Z E rfl rfl aP rfl) (.tmp Z rfl) (.tmp Z rfl) (Fq (Ic hl0 xY (by unfold fJ;rw [if_neg (by rw [hs];decide),if_neg (fun hh=>hh DL),if_neg om,if_pos hkd])) E.below)
   intro a Z E
   have rH:=bne_eq_false_iff_eq.1 oq
   have hkd:Lb.getD 7 0=2:=by omega
   refine Jb Z E ((JF∘aG) fun a Z E=>?_)
   refine zn (fun aS wS=>∃(Ab:Option Addr) (cb:Nat) (g7:Nat),Fr aS 68 [] [(8,.bool true),(7,vP g7 0),(40,.bool false),(34,.bool false),(26,.bool false),(21,.bool false),(0,.slice (some ⟨gA,oA,none⟩) ((aU l).1) cp),(15,.bool false),(6,vI ((aU l).2)),(5,vI ((aU l).1)),(4,vI 0),(3,vI 0),(2,vP g2 0)]∧Mem w wS [.blk g7 (b.cells Ab cb) 85,.row (.slice Ab b.evs.length cb) b.evs.length (b.evs.flatMap eF) 73 11,.blk g2 #[vB 0,vB 0,vI 0,vI 0,vN] 85]∧(b.evs.length≤cb)) ?_ ?_
   ·
    refine Jb Z E ((Vs .n [12]) fun DN=>(Vp [0,3,4]∘Vy 1 (v:=vP gA (oA+7)) (h:=by exact Yl.indexAddr (ad:=⟨gA,oA,none⟩) (y:=7) (sz:=1) rfl rfl rfl om kr)∘VH (getD_lt uK (k:=7) (by first|omega|(simp;omega)))) fun amh=>(Vy 2 (h:=by exact Yl.o1 r9 7 0 (by first|omega|(simp;omega)) rfl rfl)∘K4 5 4∘Vy 6 (v:= .slice (if cp=8 then some ⟨gA,oA,none⟩ else (some ⟨gA,oA,none⟩:Option Addr).map (·.add (8*1))) (((aU l).1-4)-8) (cp-8)) (h:=by exact Yl.G9 aL (i:=8) (j:=(aU l).1-4) rfl rfl rfl rfl om om)) fun a Z E HS=>?_)
    refine zc [7,11] kr rfl ?_
    refine all_cons ?_ ?_
    ·refine qq Z (i:=7) rfl rfl ?_
     refine lQ Z E [vB (Lb.getD 7 0),.slice (if cp=8 then some ⟨gA,oA,none⟩ else (some ⟨gA,oA,none⟩:Option Addr).map (·.add (8*1))) (((aU l).1-4)-8) (cp-8)] ((Fu (Lb.getD 7 0) hkd _ (((aU l).1-4)-8) (cp-8) ((Lb.take (Lb.length-4)).drop 8) B _ (hL.mem E hB) (E.le hB) (E.old (by rw [DK];exact r9.CJ (i:=8) (j:=(aU l).1-4) om om om)) om (by rw [List.length_drop,List.length_take];omega) om (qc4 (yQ uK _) _)).mono (fun _ _ h=>h.some hp)) fun Ab cb Fw hcb E a Z=>?_
     refine au (E.pk [1]) (fun HS=>?_)
     refine Vb Z E HS ((Vp [8]∘Vx 9∘Vx 10∘VA 11 (.f .n) #[vB 0,vB 0,vI 0,vI 0,vN]) fun w7 g7=>fun a Z E HS=>?_)
     refine s_on Z 12 rfl (iX Z E 0 rfl rfl rfl rfl rfl aP rfl rfl (vg _ _ _) ?_)
     clear E;intro kS E
     refine lG kr ?_
     refine ap Z (jk kr) [13] (bt 14 []) [(8,.bool true)] fun a Z=>?_
     refine qg kr ?_
     exact ⟨Ab,cb,g7,Z.sub kr,E.pk [0,1,2],hcb⟩
    refine all_cons ?_ all_nil
    refine qq Z (i:=11) rfl rfl ?_
    refine xP Z E #[vB 0,vB 0,vI 0,vI 0,vN] ?_
    clear Z E;intro a w7 g7 Z E
    refine au (E.pk [1]) (fun HS=>?_)
    refine Vb Z E HS ((VK 7 (.f .n) (h:=by exact fun E=>(Fu (Lb.getD 7 0) hkd _ (((aU l).1-4)-8) (cp-8) ((Lb.take (Lb.length-4)).drop 8) B _ (hL.mem E hB) (E.le hB) (E.old (by rw [DK];exact r9.CJ (i:=8) (j:=(aU l).1-4) om om om)) om (by rw [List.length_drop,List.length_take];omega) om (qc4 (yQ uK _) _)).mono (fun _ _ h=>h.some hp))) fun Ab cb Fw hcb=>(Vp [8]∘Vx 9∘Vx 10) fun a Z E HS=>?_)
    refine s_on Z 12 rfl (iX Z E 1 rfl rfl rfl rfl rfl aP rfl rfl (vg _ _ _) ?_)
    clear E;intro kS E
    refine lG kr ?_
    refine ap Z (jk kr) [13] (bt 14 []) [(8,.bool true)] fun a Z=>?_
    refine qg kr ?_
    exact ⟨Ab,cb,g7,Z.sub kr,E.pk [1,0,2],hcb⟩
   clear Z E;rintro a wP ⟨Ab,cb,g7,Z,E,hcb⟩
   refine Jb Z E ((JQ∘JP∘Jp 2∘aT∘Jj∘JF∘aG∘JP∘Jy (v:= .agg (b.cells Ab cb)) (h:=by exact Yl.qf rfl rfl aP rfl (fun _ h=>qb (h.blk (i:=0) rfl)))∘Jp 1∘JV aP gH (h1:=by exact vg _ _ _)) fun Fx=>(Jp 2∘Jj∘JZ) fun a Z E=>?_)
   exact pJ rfl Z (.cellS (i:=2) Z E rfl rfl aP rfl) (.tmp Z rfl) (.tmp Z rfl) (qlc (qld (e:=0) hl0 xY (by unfold fJ;rw [if_neg (by rw [hs];decide),if_neg (fun hh=>hh DL),if_neg om,if_neg om,hp])) (E.own (i:=1) rfl) hcb E.below)
 intro a Z E
 have zO:=bne_eq_false_iff_eq.1 vE
 have hkd:Lb.getD 7 0=2:=by omega
 refine Jb Z E ((Jp 6∘aF∘Jq) fun a Z E=>?_)
 rcases hp:K9 (Lb.getD 7 0) ((Lb.take (Lb.length-4)).drop 8) with _|b
 ·
  refine Jb Z E ((JG∘JF∘aG) fun a Z E=>?_)
  refine zn (fun aS wS=>∃(cs:Array Value) (g7:Nat),Fr aS 68 [] [(8,.bool false),(7,vP g7 0),(40,.bool false),(34,.bool false),(26,.bool false),(21,.bool false),(0,.slice (some ⟨gA,oA,none⟩) ((aU l).1) cp),(15,.bool false),(6,vI ((aU l).2)),(5,vI ((aU l).1)),(4,vI 0),(3,vI 0),(2,vP g2 0)]∧Mem w wS [.blk g7 cs 85,.blk g2 #[vB 0,vB 0,vI 0,vI 0,vN] 85]∧(cs.size=5)∧(∀v∈cs.toList,v.oneCell'=true)) ?_ ?_
  ·
   refine Jb Z E ((Vs .n [12]) fun DN=>(Vp [0,3,4]∘Vy 1 (v:=vP gA (oA+7)) (h:=by exact Yl.indexAddr (ad:=⟨gA,oA,none⟩) (y:=7) (sz:=1) rfl rfl rfl om kr)∘VH (getD_lt uK (k:=7) (by first|omega|(simp;omega)))) fun hx16=>(Vy 2 (h:=by exact Yl.o1 r9 7 0 (by first|omega|(simp;omega)) rfl rfl)∘K4 5 4∘Vy 6 (v:= .slice (if cp=8 then some ⟨gA,oA,none⟩ else (some ⟨gA,oA,none⟩:Option Addr).map (·.add (8*1))) (((aU l).1-4)-8) (cp-8)) (h:=by exact Yl.G9 aL (i:=8) (j:=(aU l).1-4) rfl rfl rfl rfl om om)) fun a Z E HS=>?_)
   refine zc [7,11] kr rfl ?_
   refine all_cons ?_ ?_
   ·refine qq Z (i:=7) rfl rfl ?_
    refine rz Z [vB (Lb.getD 7 0),.slice (if cp=8 then some ⟨gA,oA,none⟩ else (some ⟨gA,oA,none⟩:Option Addr).map (·.add (8*1))) (((aU l).1-4)-8) (cp-8)] rfl rfl ((Fu (Lb.getD 7 0) hkd _ (((aU l).1-4)-8) (cp-8) ((Lb.take (Lb.length-4)).drop 8) B _ (hL.mem E hB) (E.le hB) (E.old (by rw [DK];exact r9.CJ (i:=8) (j:=(aU l).1-4) om om om)) om (by rw [List.length_drop,List.length_take];omega) om (qc4 (yQ uK _) _)).mono (fun _ _ h=>h.none hp)) ?_
    rintro _ Fw ⟨⟨cs,rfl,hs5,h1⟩,hbw⟩
    refine ⟨_,rfl,?_⟩
    replace E:=E.call hbw
    clear Z;intro a Z
    refine au (E.pk [0]) (fun HS=>?_)
    refine Vb Z E HS ((Vp [8]∘Vx 9∘Vx 10∘VA 11 .n #[vB 0,vB 0,vI 0,vI 0,vN]) fun w7 g7=>fun a Z E HS=>?_)
    refine s_on Z 12 rfl (iX Z E 0 rfl rfl rfl rfl rfl aP rfl hs5 (h1) ?_)
    clear E;intro kS E
    refine lG kr ?_
    refine ap Z (jk kr) [13] (bt 14 []) [(8,.bool false)] fun a Z=>?_
    refine qg kr ?_
    exact ⟨cs,g7,Z.sub kr,E.pk [0,1],hs5,h1⟩
   refine all_cons ?_ all_nil
   refine qq Z (i:=11) rfl rfl ?_
   refine xP Z E #[vB 0,vB 0,vI 0,vI 0,vN] ?_
   clear Z E;intro a w7 g7 Z E
   refine au (E.pk [1]) (fun HS=>?_)
   refine s_on Z 7 rfl ?_
   refine rz Z [vB (Lb.getD 7 0),.slice (if cp=8 then some ⟨gA,oA,none⟩ else (some ⟨gA,oA,none⟩:Option Addr).map (·.add (8*1))) (((aU l).1-4)-8) (cp-8)] rfl rfl ((Fu (Lb.getD 7 0) hkd _ (((aU l).1-4)-8) (cp-8) ((Lb.take (Lb.length-4)).drop 8) B _ (hL.mem E hB) (E.le hB) (E.old (by rw [DK];exact r9.CJ (i:=8) (j:=(aU l).1-4) om om om)) om (by rw [List.length_drop,List.length_take];omega) om (qc4 (yQ uK _) _)).mono (fun _ _ h=>h.none hp)) ?_
   rintro _ Fw ⟨⟨cs,rfl,hs5,h1⟩,hbw⟩
   refine ⟨_,rfl,?_⟩
   replace E:=E.call hbw
   clear Z;intro a Z
   refine au (E.pk [1]) (fun HS=>?_)
   refine Vb Z E HS ((Vp [8]∘Vx 9∘Vx 10) fun a Z E HS=>?_)
   refine s_on Z 12 rfl (iX Z E 0 rfl rfl rfl rfl rfl aP rfl hs5 (h1) ?_)
   clear E;intro kS E
   refine lG kr ?_
   refine ap Z (jk kr) [13] (bt 14 []) [(8,.bool false)] fun a Z=>?_
   refine qg kr ?_
   exact ⟨cs,g7,Z.sub kr,E.pk [0,1],hs5,h1⟩
  clear Z E;rintro a wP ⟨cs,g7,Z,E,hs5,h1⟩
  refine Jb Z E ((JQ∘JP∘Jp 2∘aT∘Jj∘JT∘JP∘Jy (v:= .agg #[vB 0,vB 0,vI 0,vI 0,vN]) (h:=by exact Yl.build (vs:=[]) rfl kr kr)∘JV aP gQ) fun NJ=>(Jp 2∘Jj∘JZ) fun a Z E=>?_)
  exact pJ rfl Z (.cellS (i:=1) Z E rfl rfl aP rfl) (.tmp Z rfl) (.tmp Z rfl) (Fq (Ic hl0 xY (by unfold fJ;rw [if_neg (by rw [hs];decide),if_neg (fun hh=>hh DL),if_neg om,if_neg om,hp])) E.below)
 ·
  refine Jb Z E ((JG∘JF∘aG) fun a Z E=>?_)
  refine zn (fun aS wS=>∃(Ab:Option Addr) (cb:Nat) (g7:Nat),Fr aS 68 [] [(8,.bool true),(7,vP g7 0),(40,.bool false),(34,.bool false),(26,.bool false),(21,.bool false),(0,.slice (some ⟨gA,oA,none⟩) ((aU l).1) cp),(15,.bool false),(6,vI ((aU l).2)),(5,vI ((aU l).1)),(4,vI 0),(3,vI 0),(2,vP g2 0)]∧Mem w wS [.blk g7 (b.cells Ab cb) 85,.row (.slice Ab b.evs.length cb) b.evs.length (b.evs.flatMap eF) 73 11,.blk g2 #[vB 0,vB 0,vI 0,vI 0,vN] 85]∧(b.evs.length≤cb)) ?_ ?_
  ·
   refine Jb Z E ((Vs .n [12]) fun DN=>(Vp [0,3,4]∘Vy 1 (v:=vP gA (oA+7)) (h:=by exact Yl.indexAddr (ad:=⟨gA,oA,none⟩) (y:=7) (sz:=1) rfl rfl rfl om kr)∘VH (getD_lt uK (k:=7) (by first|omega|(simp;omega)))) fun WE=>(Vy 2 (h:=by exact Yl.o1 r9 7 0 (by first|omega|(simp;omega)) rfl rfl)∘K4 5 4∘Vy 6 (v:= .slice (if cp=8 then some ⟨gA,oA,none⟩ else (some ⟨gA,oA,none⟩:Option Addr).map (·.add (8*1))) (((aU l).1-4)-8) (cp-8)) (h:=by exact Yl.G9 aL (i:=8) (j:=(aU l).1-4) rfl rfl rfl rfl om om)) fun a Z E HS=>?_)
   refine zc [7,11] kr rfl ?_
   refine all_cons ?_ ?_
   ·refine qq Z (i:=7) rfl rfl ?_
    refine lQ Z E [vB (Lb.getD 7 0),.slice (if cp=8 then some ⟨gA,oA,none⟩ else (some ⟨gA,oA,none⟩:Option Addr).map (·.add (8*1))) (((aU l).1-4)-8) (cp-8)] ((Fu (Lb.getD 7 0) hkd _ (((aU l).1-4)-8) (cp-8) ((Lb.take (Lb.length-4)).drop 8) B _ (hL.mem E hB) (E.le hB) (E.old (by rw [DK];exact r9.CJ (i:=8) (j:=(aU l).1-4) om om om)) om (by rw [List.length_drop,List.length_take];omega) om (qc4 (yQ uK _) _)).mono (fun _ _ h=>h.some hp)) fun Ab cb Fw hcb E a Z=>?_
    refine au (E.pk [1]) (fun HS=>?_)
    refine Vb Z E HS ((Vp [8]∘Vx 9∘Vx 10∘VA 11 (.f .n) #[vB 0,vB 0,vI 0,vI 0,vN]) fun w7 g7=>fun a Z E HS=>?_)
    refine s_on Z 12 rfl (iX Z E 0 rfl rfl rfl rfl rfl aP rfl rfl (vg _ _ _) ?_)
    clear E;intro kS E
    refine lG kr ?_
    refine ap Z (jk kr) [13] (bt 14 []) [(8,.bool true)] fun a Z=>?_
    refine qg kr ?_
    exact ⟨Ab,cb,g7,Z.sub kr,E.pk [0,1,2],hcb⟩
   refine all_cons ?_ all_nil
   refine qq Z (i:=11) rfl rfl ?_
   refine xP Z E #[vB 0,vB 0,vI 0,vI 0,vN] ?_
   clear Z E;intro a w7 g7 Z E
   refine au (E.pk [1]) (fun HS=>?_)
   refine Vb Z E HS ((VK 7 (.f .n) (h:=by exact fun E=>(Fu (Lb.getD 7 0) hkd _ (((aU l).1-4)-8) (cp-8) ((Lb.take (Lb.length-4)).drop 8) B _ (hL.mem E hB) (E.le hB) (E.old (by rw [DK];exact r9.CJ (i:=8) (j:=(aU l).1-4) om om om)) om (by rw [List.length_drop,List.length_take];omega) om (qc4 (yQ uK _) _)).mono (fun _ _ h=>h.some hp))) fun Ab cb Fw hcb=>(Vp [8]∘Vx 9∘Vx 10) fun a Z E HS=>?_)
   refine s_on Z 12 rfl (iX Z E 1 rfl rfl rfl rfl rfl aP rfl rfl (vg _ _ _) ?_)
   clear E;intro kS E
   refine lG kr ?_
   refine ap Z (jk kr) [13] (bt 14 []) [(8,.bool true)] fun a Z=>?_
   refine qg kr ?_
   exact ⟨Ab,cb,g7,Z.sub kr,E.pk [1,0,2],hcb⟩
  clear Z E;rintro a wP ⟨Ab,cb,g7,Z,E,hcb⟩
  refine Jb Z E ((JQ∘JP∘Jp 2∘aT∘Jj∘JF∘aG∘JP∘Jy (v:= .agg (b.cells Ab cb)) (h:=by exact Yl.qf rfl rfl aP rfl (fun _ h=>qb (h.blk (i:=0) rfl)))∘Jp 1∘JV aP gH (h1:=by exact vg _ _ _)) fun Fx=>(Jp 2∘Jj∘JZ) fun a Z E=>?_)
  exact pJ rfl Z (.cellS (i:=2) Z E rfl rfl aP rfl) (.tmp Z rfl) (.tmp Z rfl) (qlc (qld (e:=0) hl0 xY (by unfold fJ;rw [if_neg (by rw [hs];decide),if_neg (fun hh=>hh DL),if_neg om,if_neg om,hp])) (E.own (i:=1) rfl) hcb E.below)
theorem qx.as {w w':World} {er uJ:Nat} {R R':List Nat} {r:Ending} (h:qx w er R r w') (h1:er=uJ) (h2:R=R'):qx w uJ R' r w':=by subst h1;subst h2;exact h
theorem q0g (b:Bk) (hok:b.Ok) (A:Option Addr) (c B:Nat) (w:World) (hL:aO B w) (hB:B≤w.heap.size) (hr:Rd w w.heap.size 11 A b.evs.length (b.evs.flatMap eF)) (hn:b.evs.length≤1000000) {er:Nat} {R:List Nat} (h1:b.err=er) (h2:b.out=R):Calls Tryz.prog 106 #[.agg (b.cells A c)] w (qx w er R):=
 (qle b hok A c B w hL hB hr hn).mono fun _ _ h=>h.as h1 h2
theorem q59 (A:Option Addr) (n cp:Nat) (l:List Nat) (B:Nat) (w:World) (hL:aO B w) (hB:B≤w.heap.size) (hr:Rd w w.heap.size 1 A n (l.map B8)) (hc:n≤cp) (hln:l.length=n) (hn:n≤9223372036854775807) (hl:∀b∈l,b<256) (hk1:iT l) {b:Bk} {m er:Nat} (h:dA l=(b,m,er)):
  Calls Tryz.prog 134 #[.slice A n cp] w fun r w'=>(∃A c,r= .returned (.tuple #[.agg (b.cells A c),.int .i64 (m:Int),.int .i64 (er:Int)])∧w'.ownsRow w.heap.size 73 11 (.slice A b.evs.length c) b.evs.length (b.evs.flatMap eF)∧b.evs.length≤c)∧Below w.heap.size w w':=
 (q0d A n cp l B w hL hB hr hc hln hn hl hk1).mono fun _ _ hh=>by rw [h] at hh;exact hh
def Bk.sz (b:Bk) (k:Nat):Nat:=12+(aj b.cpu).length+(aj b.lost.toNat).length+(aj b.base.seq.toNat).length+(aj b.base.time.toNat).length+(recs b.base (b.evs.take k)).length
def Bk.big (b:Bk) (k:Nat):Bool:=decide (4096<b.sz k+(aj k).length)
def Bk.zfi (b:Bk):Nat:=((List.range b.evs.length).find? fun i=>b.big (i+1)).getD b.evs.length
def Bk.fill (b:Bk):Nat×Nat:=if b.fits=false then (0,107) else (b.zfi,0)
end Go.Proofs.YtekiimhdnigmcaaGreatDoor
namespace Go.Proofs.YtekiimhdnigmcaaGreatDoor
open Go.RowKit Go.ChangeShapes Go.WideShapes Go.ChangeAt
section
variable {H:Type} {enc:TypeId×Value→H} {W:World} {b0:Nat} {v:Value} {d:DataW H} {p:List MemPlace}
theorem OB:fieldAt Tryz.prog 85 0 0 5=true:=by kernel_rfl
theorem OC:fieldAt Tryz.prog 85 1 1 5=true:=by kernel_rfl
theorem OD:fieldAt Tryz.prog 85 2 2 3=true:=by kernel_rfl
theorem OE:fieldAt Tryz.prog 85 3 3 3=true:=by kernel_rfl
theorem OG:fieldAt Tryz.prog 85 4 4 83=true:=by kernel_rfl
theorem qu2:Tryz.prog.cellsOf 85=5:=by kernel_rfl
set_option maxRecDepth 100000 in
theorem q1v {cs:List Value} {a b c d e:Value} (hl:cs.length=5) (h0:cs[0]?=some a) (h1:cs[1]?=some b) (h2:cs[2]?=some c) (h3:cs[3]?=some d) (h4:cs[4]?=some e):cs=[a,b,c,d,e]:=by
 refine ET hl fun i hi=>?_
 have hi':i<5:=hi
 have hc:i=0∨i=1∨i=2∨i=3∨i=4:=by omega
 rcases hc with rfl|rfl|rfl|rfl|rfl<;>assumption
theorem q6q {A:Option Addr} {n:Nat} {l:List Ev} (h:Rd W W.heap.size 11 A n (l.flatMap eF)):l.length=n:=by
 have h1:=h.len
 rw [KN eF 11 zf] at h1
 omega
end
end Go.Proofs.YtekiimhdnigmcaaGreatDoor
namespace Go.Proofs.YtekiimhdnigmcaaGreatDoor
open Go.RowKit
theorem Y1 (s:bH) (hok:s.st.aD.Ok) (hf:aX s.st) (hc:fK s.st) (w:World) (hx:cB w s.st):
    Calls Tryz.prog 44 #[.agg s.cells] w (Is w (vI (bJ s:Int))):=by
 refine (bZ Tryz.func44 17) ?_
 refine (JP∘JE) fun w1 g1=>(Jp 1∘Jj∘JQ∘JB∘JP∘Jg 0 O0∘Jp 2) (Ji (fun hd7=>?_) fun hd7=>?_)
 ·
  exact (Jp 5∘aF∘Jj∘JT∘JP∘Jp 1∘Jj∘JZ∘aH) fun E=>by exact ⟨by rw [TG om];rfl,E.below⟩
 refine (Jg 0 O0∘Jp 3∘aF∘Jj) (Ji (fun hd3=>?_) fun hd3=>?_)
 ·
  exact (JT∘JP∘Jp 1∘Jj∘JZ∘aH) fun E=>by exact ⟨by rw [TG om];rfl,E.below⟩
 refine (JF∘JP∘Jf 1∘Jy (v:= .agg #[vI s.st.aB,vQ s.st.ak,.slice s.st.gA s.st.gs.length s.st.gc,.slice s.st.lA s.st.cl.length s.st.lc,.slice s.st.uA s.st.cu.length s.st.uc,.slice s.st.tA s.st.ts.length s.st.tc,.slice s.st.sA s.st.rs.length s.st.sc]) (h:=by exact Yl.qf rfl rfl dD rfl (fun _ h=>h.sub (i:=0) rfl 1 rfl))∘Jo (.agg s.st.cells) (by exact rfl)∘JI (h:=by exact fun E=>qsv s.st hok hf _ (hx.old E))) fun CO hbw=>(Jp 2∘eZ∘Jj) (Ju (fun dR=>?_) fun dR=>?_)
 ·
  exact (JT∘JP∘Jp 1∘Jj∘JZ∘aH) fun E=>by exact ⟨by rw [qpt om (by simpa using dR)];rfl,E.below⟩
 exact (JF∘aG∘JP∘Jp 1∘Jj∘JZ∘aH) fun E=>by exact ⟨by rw [qpu om (by simpa using dR)];rfl,E.below⟩
theorem qqj (s:bH) (hok:s.st.aD.Ok) (hf:aX s.st) (hc:fK s.st) (w:World) (hx:cB w s.st):
    Calls Tryz.prog 107 #[.agg s.cells] w (TI w (bJ s) (gU s)):=by
 refine V7 (vs:=[.agg s.cells]) Tryz.func107 rfl rfl kr (σ0:=[(0,.agg s.cells)]) rfl ?_
 intro a Z
 have E:=Mem.start w
 refine Jb Z E ((JP∘JE) fun w1 g1=>(Jp 2∘Jj∘JQ∘JP∘Jy (v:= .agg s.cells) (h:=by exact Yl.qf rfl rfl zr rfl (fun _ h=>qb (h.blk (i:=0) rfl)))∘JI (h:=by exact fun E=>Y1 s hok hf hc _ (hx.old E))) fun w9 hbw=>(Jp 1∘aT∘Jr∘Jp 2∘aQ∘Jj) (Ju (fun cK=>?_) fun cK=>?_))
 ·
  intro a Z E
  have gI:=bne_iff_ne.1 cK
  refine Jb Z E ((JT∘JP∘Jp 3∘Jj∘JZ) fun a Z E=>?_)
  refine q8l ?_
  exact sN rfl Z rfl rfl (qlv _ rfl (qut om) E.below)
 intro a Z E
 have gI:=bne_eq_false_iff_eq.1 cK
 have hk0:bJ s=0:=by omega
 have hsh:=IC hk0
 refine Jb Z E ((JF∘aG∘JP∘JA #[vN]) fun w5 g5=>(Jq) fun a Z E=>?_)
 replace E:=E.nil 41 1
 refine Jb Z E ((JG∘JQ∘JP∘Jy (v:= .agg s.cells) (h:=by exact Yl.qf rfl rfl zr rfl (fun _ h=>qb (h.blk (i:=2) rfl)))∘JL (h:=by exact fun E=>q2t s _)) ?_)
 rintro E _ Fj ⟨gv,gp,rfl,hm⟩
 refine ⟨_,rfl,_,E.join hm,?_⟩
 refine (aQ∘Jj∘JB) fun a Z E=>?_
 refine V6 Z E (fun F=>∃(q:List Nat) (Ao:Option Addr) (co:Nat),(q=eG 7 (aK s))∧(q.length≤co)∧F=[.row (.slice Ao q.length co) q.length (q.map aR) 41 1,.blk g5 #[.slice Ao q.length co] 117,.blk g1 s.cells 50]) (fun _ _=>False) rfl kr ?_ ?_ (fun _ _ _ _ _ h=>h.elim)
 ·
  clear Z E;intro lp B rec w1 hrec E
  have hy:qvi Tryz.prog w lp s (fun i F=>∃(q:List Nat) (Ao:Option Addr) (co:Nat),(q=eG i (aK s))∧(q.length≤co)∧F=(.obj lp (.loop (rec .ready none)):: .obj B (.deferred (some [])):: [.row (.slice Ao q.length co) q.length (q.map aR) 41 1,.blk g5 #[.slice Ao q.length co] 117,.blk g1 s.cells 50])):=by
   rintro i F fr w3 Ar cr ⟨q,Ao,co,hq,hco,rfl⟩ hi hcr E
   replace E:=E.pt (fs':=(.obj lp (.loop (rec .ready none)):: .row (.slice Ar ((aK s i).length) cr) ((aK s i).length) ((aK s i).map aR) 41 1:: .obj B (.deferred (some [])):: .row (.slice Ao q.length co) q.length (q.map aR) 41 1:: .blk g5 #[.slice Ao q.length co] 117:: .blk g1 s.cells 50::fr)) 6 [1,0,2,3,4,5]
   refine qib (v1:= .string (qa i)) (v2:= .slice Ar ((aK s i).length) cr) hrec E de de fun a Z=>?_
   refine Fa ?_
   refine Jb Z E ((Jp 1∘Jq) fun a Z E=>?_)
   have kF:q.length≤600000:=by rw [hq];exact qlt hsh om
   have hsl:=quq hsh hi
   refine ⟨(.row (.slice Ar ((aK s i).length) cr) ((aK s i).length) ((aK s i).map aR) 41 1:: .obj B (.deferred (some [])):: .row (.slice Ao q.length co) q.length (q.map aR) 41 1:: .blk g5 #[.slice Ao q.length co] 117:: .blk g1 s.cells 50::fr),E.pt (fs':=(.obj lp (.loop (rec .ready none)):: .row (.slice Ar ((aK s i).length) cr) ((aK s i).length) ((aK s i).map aR) 41 1:: .obj B (.deferred (some [])):: .row (.slice Ao q.length co) q.length (q.map aR) 41 1:: .blk g5 #[.slice Ao q.length co] 117:: .blk g1 s.cells 50::fr)) 6 [0,1,2,3,4,5],fun w4 E=>?_⟩
   refine wpIn_block ?_
   refine Fa ?_
   refine Jb Z E ((Jc O4∘Jp 1∘JD ((aK s i).map aR) 3 (fun _ _=>xR) qt (hr:=by exact fun E=>E.rd (i:=1) rfl) (h1:=by exact zm _)) fun FJ El c19 hc19=>(JW sO bg) fun Y0=>(Dr∘Jq) fun a Z E=>?_)
   have Bh:q.length+((aK s i).length)=(q++(aK s i)).length:=q0 rfl
   replace E:=E.aI (i:=3) (ys:=(q++(aK s i)).map aR) rfl Bh (List.map_append.symm)
   rw [Bh] at hc19
   rw [Bh] at E
   refine ⟨(.obj B (.deferred (some [])):: .row (.slice El ((q++(aK s i)).length) c19) ((q++(aK s i)).length) ((q++(aK s i)).map aR) 41 1:: .blk g5 #[.slice El ((q++(aK s i)).length) c19] 117:: .blk g1 s.cells 50::fr),E.pt (fs':=(.obj lp (.loop (rec .busy none)):: .obj B (.deferred (some [])):: .row (.slice El ((q++(aK s i)).length) c19) ((q++(aK s i)).length) ((q++(aK s i)).map aR) 41 1:: .blk g5 #[.slice El ((q++(aK s i)).length) c19] 117:: .blk g1 s.cells 50::fr)) 6 [0,2,3,4,5],fun w5 E=>?_⟩
   exact ⟨(.obj lp (.loop (rec .ready none)):: .obj B (.deferred (some [])):: .row (.slice El ((q++(aK s i)).length) c19) ((q++(aK s i)).length) ((q++(aK s i)).map aR) 41 1:: .blk g5 #[.slice El ((q++(aK s i)).length) c19] 117:: .blk g1 s.cells 50:: []),E,rfl,⟨(q++(aK s i)),El,c19,by rw [hq,qr],hc19,rfl⟩⟩
  refine (qxk w w1 gv gp lp s hok hf hx hc hsh _ _ hy ⟨[],none,0,rfl,Nat.le_refl _,rfl⟩ (E.pk [2,3,0,1,4,5,6])).mono ?_
  rintro r w2 ⟨v,rfl,F2,eX,⟨q,Ao,co,hq,hco,rfl⟩⟩
  exact ⟨v,rfl,.inl ⟨_,⟨q,Ao,co,hq,hco,rfl⟩,eX⟩⟩
 clear Z E;rintro B a w6 _ ⟨q,Ao,co,hq,hco,rfl⟩ Z E
 refine Jb Z E ((JG∘JP∘Jc O2∘Jp 2∘Jj∘JZ) fun a Z E=>?_)
 refine SH Z E (i:=0) rfl fun a w7 Z E=>?_
 exact sN rfl Z rfl rfl (qlu (uJ:=0) hk0.symm (by rw [DW hk0,hq];rfl) (E.own (i:=1) rfl) hco E.below)
theorem Uk:EI Tryz.prog 298 435 (.agg #[.string (ByteArray.mk #[]),vI 0,vI 0]) 3 32:=⟨by kernel_rfl,by kernel_rfl,rfl,by omega⟩
theorem qxl (s:bH) (hok:s.st.aD.Ok) (hf:aX s.st) (hc:fK s.st) (B:Nat) (w:World) (hL:aO B w) (hB:B≤w.heap.size) (hx:cB w s.st):
    Calls Tryz.prog 46 #[.agg s.cells] w (qx w (bJ s) (bT s)):=by
 refine (bZ Tryz.func46 22) ?_
 refine (JP∘JE) fun w1 g1=>(Jp 2∘Jr∘Jy (v:= .agg s.cells) (h:=by exact Yl.qf rfl rfl zr rfl (fun _ h=>qb (h.blk (i:=0) rfl)))∘JK (h:=by exact fun E=>qqj s hok hf hc _ (hx.old E))) fun A8 c8 w8 hc8=>(Jp 1∘Jx∘Jx∘Jp 2∘Jj∘JQ∘JP∘Jp 2∘aQ∘Jj) (Ju (fun dR=>?_) fun dR=>?_)
 ·
  intro a Z E
  have iR:=bne_iff_ne.1 dR
  exact Jb Z E ((JT∘JP∘Jp 3∘Jj∘JZ∘bW) fun E=>qlw _ rfl (TH om) E.below)
 intro a Z E
 have iR:=bne_eq_false_iff_eq.1 dR
 have hk0:bJ s=0:=by omega
 have hsh:=IC hk0
 have hnl:=TF hsh
 rw [←DW hk0] at hnl
 have hbf:=quu hsh
 have hpos:=q6j s
 rw [←DW hk0] at hpos
 have hfl:=q6 (gU s)
 refine Jb Z E ((JF∘aG∘JP∘JU aL #[vB 113,vB 115,vB 1]) fun Fj g14=>fun a Z E=>?_)
 refine fo Z 1 rfl rfl ?_
 refine q8y Z E 0 (e:=5) rfl rfl rfl kr kr rfl de ?_
 clear Z E;intro a CO Z E
 refine Jb Z E ((Jp 1∘JK (h:=by exact fun E=>SK A8 ((gU s).length) c8 (gU s) _ (E.rd (i:=1) rfl) (by rw [DW hk0];exact XP hok hf) (by have:=hnl;omega))) fun LY c17 DF hc17=>fun a Z E=>?_)
 refine fo Z 4 rfl rfl ?_
 refine VL Z E (xs:=([113,115,1]:List Nat).map B8) (news:=((gU s).flatMap aj).map B8) rfl aL rfl rfl (E.zW (i:=1) (size:=1) (n:=3) rfl rfl) (E.rd (i:=0) rfl) om om (fun h=>by cases h) om om rfl de ?_
 clear Z E;intro a K5 g18 c18 Z E hc18
 have iE:3+((gU s).flatMap aj).length=(dN s).length:=q80 hk0
 replace E:=E.aI (i:=0) (ys:=(dN s).map B8) rfl iE (qlx hk0)
 rw [iE] at hc18
 replace Z:=Z.sp 18 (vS g18 ((dN s).length) c18) rfl (by rw [iE])
 exact Jb Z E ((JK (h:=by exact fun E=>WA (some ⟨g18,0,none⟩) ((dN s).length) c18 (dN s) B _ (hL.mem E hB) (E.le hB) (E.rd (i:=0) rfl) rfl om (qur s))) fun El c19 FJ hc19=>(Jx∘Jx∘Jp 2∘Jj∘JZ∘bW) fun E=>qly (uJ:=0) hk0.symm (LB hk0).symm (E.own (i:=0) rfl) hc19 E.below)
theorem qwb (A:Option Addr) (c:Nat) (l:List Int) (D:Option Addr) (c2:Nat) (m:List Int) (w:World) (hr:Rd w w.heap.size 1 A l.length (l.map bC)) (hr2:Rd w w.heap.size 1 D m.length (m.map bC)) (hn:l.length≤1000000) (hn2:m.length≤1000000):
    Calls Tryz.prog 184 #[.slice A l.length c,.slice D m.length c2] w (Is w (.bool (decide (l=m)))):=by
 refine (jw Tryz.func184 26) ?_
 refine (JP∘Jp 1∘Jj∘JQ∘JP∘Jp 1∘Jl∘Jp 1∘Jl∘Jp 1∘eZ∘Jj) (Ju (fun fO=>?_) fun fO=>?_)
 ·
  intro a Z E
  have fM:=bne_iff_ne.1 fO
  exact Jb Z E ((JT∘JP∘Jp 1∘Jj∘JZ∘aH) fun E=>bX (fun e=>by rw [e] at fM;exact fM rfl) E.below)
 intro a Z E
 have fM:=bne_eq_false_iff_eq.1 fO
 have hlm:l.length=m.length:=by omega
 refine Jb Z E ((JF∘aG∘JQ∘JP∘Jp 1∘Jj∘JB) fun a Z E=>?_)
 refine qc (fun mS aS wS=>∃(k:Nat),(k≤l.length)∧(∀i,i<k→l.getD i 0=m.getD i 0)∧mS=l.length-k∧Fr aS 26 [] [(5,vI k),(10,.bool false),(4,.bool false),(0,.slice A l.length c),(1,.slice D m.length c2)]∧Mem w wS []) (m:=l.length-0) ⟨0,Nat.zero_le _,Oa,rfl,Z.sub kr,E.pk []⟩ ?_
 clear Z E;rintro mS a w_ ⟨k,hk,hu,rfl,Z,E⟩
 refine Jb Z E ((JQ∘JP∘Jp 2∘Jl∘Jp 1∘bQ∘Jj) (Ju (fun fZ=>?_) fun fZ=>?_))
 ·
  intro a Z E
  have kV:=of_decide_eq_true fZ
  have hk1:k<l.length:=by omega
  have hk2:k<m.length:=by omega
  revert E;revert a;repeat (first|clear Z|clear E)
  intro a Z E
  obtain ⟨gA,oA,rfl,_⟩:=hr.qd (Nat.lt_of_le_of_lt (Nat.zero_le _) (show k<l.length from hk1)) de
  revert E;revert a;repeat (first|clear Z|clear E)
  intro a Z E
  obtain ⟨gD,oD,rfl,_⟩:=hr2.qd (Nat.lt_of_le_of_lt (Nat.zero_le _) (show k<m.length from hk2)) de
  refine Jb Z E ((JT∘aG∘JQ∘JB) fun a Z E=>?_)
  refine wp_seq ?_
  refine Jb Z E ((Vs .n []) fun Ta=>(Vp [0,1,4,5]∘Vy 2 (h:=by exact Yl.ix gA oA k 1 rfl rfl rfl)∘Vy 3 (h:=by exact Yl.o1 hr k 0 hk1 rfl rfl)∘Vy 6 (h:=by exact Yl.ix gD oD k 1 rfl rfl rfl)∘Vy 7 (h:=by exact Yl.o1 hr2 k 0 hk2 rfl rfl)∘Vp [8]∘Vd∘aF) (Jh (fun hd25=>?_) fun hd25=>?_))
  ·
   exact (JT∘JP∘Jp 1∘Jj∘JZ∘aH) fun E=>bX (fun e=>hd25 (by rw [e])) E.below
  refine (JF∘aG∘JR∘Jp 1∘bn 1∘Jp 1∘aT∘Jq) fun a Z E=>?_
  exact ⟨_,om,k+1,by omega,Ob hu (hd25),rfl,Z.sub kr,E.pk []⟩
 intro a Z E
 have kV:=of_decide_eq_false fZ
 exact Jb Z E ((JF∘JX∘JG∘JP∘Jp 1∘Jj∘JZ∘aH) fun E=>Lr (N9 0 hlm (fun i hi=>hu i om)) E.below)
theorem q4d (s z:bH) (w:World) (hx:cB w s.st) (hz:cB w z.st) (hf:aX s.st) (hg:aX z.st):
    Calls Tryz.prog 136 #[.agg s.cells,.agg z.cells] w (Is w (.bool (decide (bM s z)))):=by
 have Ph:=hf.s;have auq:=hf.g;have aur:=hf.t
 refine (jw Tryz.func136 169) ?_
 refine (JP∘JE) fun w2 g2=>(JE) fun w3 g3=>(Jp 1∘Jj) fun a Z E=>?_
 refine zn (fun aS wS=>∃(g5:Nat) (g6:Nat),Fr aS 169 [] [(6,vP g6 0),(5,vP g5 0),(4,.bool false),(3,vP g3 0),(2,vP g2 0)]∧Mem w wS [.blk g6 z.st.cells 48,.blk g5 s.st.cells 48,.blk g3 z.cells 180,.blk g2 s.cells 180]) ?_ ?_
 ·
  refine Jb Z E ((Vs .n [7]) fun Tc=>(Vf 0 1∘Vf 2 1∘Vy 1 (v:= .agg #[vI s.st.aB,vQ s.st.ak,.slice s.st.gA s.st.gs.length s.st.gc,.slice s.st.lA s.st.cl.length s.st.lc,.slice s.st.uA s.st.cu.length s.st.uc,.slice s.st.tA s.st.ts.length s.st.tc,.slice s.st.sA s.st.rs.length s.st.sc]) (h:=by exact Yl.qf rfl rfl dD rfl (fun _ h=>h.sub (i:=1) rfl 1 rfl))∘Vo (.agg s.st.cells) (by exact rfl)∘Vy 3 (v:= .agg #[vI z.st.aB,vQ z.st.ak,.slice z.st.gA z.st.gs.length z.st.gc,.slice z.st.lA z.st.cl.length z.st.lc,.slice z.st.uA z.st.cu.length z.st.uc,.slice z.st.tA z.st.ts.length z.st.tc,.slice z.st.sA z.st.rs.length z.st.sc]) (h:=by exact Yl.qf rfl rfl dD rfl (fun _ h=>h.sub (i:=0) rfl 1 rfl))∘Vo (.agg z.st.cells) (by exact rfl)) fun a Z E HS=>?_)
  refine zc [4,5] kr rfl ?_
  refine all_cons ?_ ?_
  ·refine qq Z (i:=4) rfl rfl ?_
   refine xP Z E #[vI 0,vQ 0,vN,vN,vN,vN,vN] ?_
   clear Z E;intro a w5 g5 Z E
   refine au (E.pk [1,2]) (fun HS=>?_)
   refine Vb Z E HS ((VA 5 (.f .n) #[vI 0,vQ 0,vN,vN,vN,vN,vN]) fun w6 g6=>fun a Z E HS=>?_)
   refine s_on Z 6 rfl (iX Z E 1 rfl rfl rfl rfl rfl dD rfl rfl (NM s.st) ?_)
   clear E;intro Q5 E
   refine au (E.pk [2,3]) (fun HS=>?_)
   refine s_on Z 7 rfl (iX Z E 0 rfl rfl rfl rfl rfl dD rfl rfl (NM z.st) ?_)
   clear E;intro Q6 E
   refine lG kr ?_
   refine qg kr ?_
   exact ⟨g5,g6,Z.sub kr,E.pk [0,1,2,3]⟩
  refine all_cons ?_ all_nil
  refine qq Z (i:=5) rfl rfl ?_
  refine xP Z E #[vI 0,vQ 0,vN,vN,vN,vN,vN] ?_
  clear Z E;intro a w6 g6 Z E
  refine au (E.pk [1,2]) (fun HS=>?_)
  refine Vb Z E HS ((VA 4 (.f .n) #[vI 0,vQ 0,vN,vN,vN,vN,vN]) fun w5 g5=>fun a Z E HS=>?_)
  refine s_on Z 6 rfl (iX Z E 0 rfl rfl rfl rfl rfl dD rfl rfl (NM s.st) ?_)
  clear E;intro Q5 E
  refine au (E.pk [2,3]) (fun HS=>?_)
  refine s_on Z 7 rfl (iX Z E 1 rfl rfl rfl rfl rfl dD rfl rfl (NM z.st) ?_)
  clear E;intro Q6 E
  refine lG kr ?_
  refine qg kr ?_
  exact ⟨g5,g6,Z.sub kr,E.pk [1,0,2,3]⟩
 clear Z E;rintro a w1 ⟨g5,g6,Z,E⟩
 refine Jb Z E ((JQ∘JP∘Jg 0 O3∘Jg 0 O2∘Jp 2) (Ju (fun fB=>?_) fun fB=>?_))
 ·
  intro a Z E
  have iA:=bne_iff_ne.1 fB
  exact Jb Z E ((Jv 62 [(82,.bool true)]∘eZ∘Jj∘JT∘JP∘Jp 1∘Jj∘JZ∘aH) fun E=>bX (p:=bM s z) (fun e=>iA e.1) E.below)
 intro a Z E
 have iA:=bne_eq_false_iff_eq.1 fB
 refine Jb Z E ((Jf 0∘Jg 0 O1∘Jf 0∘Jg 0 O0∘Jp 3) (Jh (fun hd29=>?_) fun hd29=>?_))
 ·
  exact (Jv 53 [(82,.bool true)]∘aF∘Jj∘JT∘JP∘Jp 1∘Jj∘JZ∘aH) fun E=>bX (p:=bM s z) (fun e=>hd29 e.2.1) E.below
 refine (Jf 0∘Jg 1 O1∘Jf 0∘Jg 1 O0∘Jp 3) (Jh (fun hd38=>?_) fun hd38=>?_)
 ·
  exact (Jv 44 [(82,.bool true)]∘aF∘Jj∘JT∘JP∘Jp 1∘Jj∘JZ∘aH) fun E=>bX (p:=bM s z) (fun e=>hd38 (by rw [e.2.2.1])) E.below
 refine (Jf 0∘Jg 2 O1∘Jl∘Jf 0∘Jg 2 O0∘Jl∘Jp 3) (Jh (fun EA=>?_) fun EA=>?_)
 ·
  exact (Jv 33 [(82,.bool true)]∘aF∘Jj∘JT∘JP∘Jp 1∘Jj∘JZ∘aH) fun E=>bX (p:=bM s z) (fun e=>EA (by rw [e.2.2.2.1])) E.below
 refine (Jg 5 O1∘Jl∘Jg 5 O0∘Jl∘Jp 3) (Jh (fun oV=>?_) fun oV=>?_)
 ·
  exact (Jv 24 [(82,.bool true)]∘aF∘Jj∘JT∘JP∘Jp 1∘Jj∘JZ∘aH) fun E=>bX (p:=bM s z) (fun e=>oV (by rw [e.2.2.2.2.2.2.1])) E.below
 refine (Jg 6 O1∘Jl∘Jg 6 O0∘Jl∘Jp 3) (Jh (fun yC=>?_) fun yC=>?_)
 ·
  exact (Jv 15 [(82,.bool true)]∘aF∘Jj∘JT∘JP∘Jp 1∘Jj∘JZ∘aH) fun E=>bX (p:=bM s z) (fun e=>yC (by rw [XW e.2.2.2.2.2.2.2])) E.below
 refine (Jg 3 O1∘Jg 3 O0∘JL (h:=by exact fun E=>qwb s.st.lA s.st.lc s.st.cl z.st.lA z.st.lc z.st.cl _ (E.old hx.l) (E.old hz.l) hf.l hg.l)) ?_
 rintro E _ w72 ⟨rfl,hbw⟩
 refine ⟨_,rfl,_,E.call hbw,?_⟩
 refine (Jp 3) (Ju (fun Cm=>?_) fun Cm=>?_)
 ·
  intro a Z E
  have Ky:=of_decide_eq_false ((Bool.not_eq_true' _).mp Cm)
  refine Jb Z E ((Jp 7∘aF∘Jq) fun a Z E=>?_)
  replace Z:=Z.to [(82,.bool true),(6,vP g6 0),(5,vP g5 0),(4,.bool false),(3,vP g3 0),(2,vP g2 0)]
  exact Jb Z E ((JG∘JT∘JP∘Jp 1∘Jj∘JZ∘aH) fun E=>bX (p:=bM s z) (fun e=>by simp [e.2.2.2.2.1] at Cm) E.below)
 intro a Z E
 have Ky:=of_decide_eq_true ((Bool.not_eq_false' _).mp Cm)
 refine Jb Z E ((Jg 4 O1∘Jg 4 O0∘JL (h:=by exact fun E=>qwb s.st.uA s.st.uc s.st.cu z.st.uA z.st.uc z.st.cu _ (E.old hx.u) (E.old hz.u) hf.u hg.u)) ?_)
 rintro E _ w80 ⟨rfl,hbw⟩
 refine ⟨_,rfl,_,E.call hbw,?_⟩
 refine (Jp 2∘aF∘Jq) fun a Z E=>?_
 replace Z:=Z.to [(82,.bool (!(decide (s.st.cu=z.st.cu)))),(6,vP g6 0),(5,vP g5 0),(4,.bool false),(3,vP g3 0),(2,vP g2 0)]
 refine Jb Z E (Ju (fun jJ=>?_) fun jJ=>?_)
 ·
  intro a Z E
  have BM:=of_decide_eq_false ((Bool.not_eq_true' _).mp jJ)
  exact Jb Z E ((JT∘JP∘Jp 1∘Jj∘JZ∘aH) fun E=>bX (p:=bM s z) (fun e=>by simp [e.2.2.2.2.2.1] at jJ) E.below)
 intro a Z E
 have BM:=of_decide_eq_true ((Bool.not_eq_false' _).mp jJ)
 have hcl:s.st.cl=z.st.cl:=by simpa using Cm
 have IB:s.st.cu=z.st.cu:=by simpa using jJ
 refine Jb Z E ((JF∘aG∘JQ∘JP∘Jp 1∘Jj∘JB) fun a Z E=>?_)
 refine qc (fun mS aS wS=>∃(i:Nat),(i≤s.st.gs.length)∧(∀n,n<i→s.st.gs.getD n Gr.zero=z.st.gs.getD n Gr.zero)∧mS=s.st.gs.length-i∧Fr aS 169 [] [(7,vI i),(82,.bool false),(6,vP g6 0),(5,vP g5 0),(4,.bool false),(3,vP g3 0),(2,vP g2 0)]∧Mem w wS [.blk g6 z.st.cells 48,.blk g5 s.st.cells 48,.blk g3 z.cells 180,.blk g2 s.cells 180]) (m:=s.st.gs.length-0) ⟨0,Nat.zero_le _,Oa,rfl,Z.sub kr,E.pk [0,1,2,3]⟩ ?_
 clear Z E;rintro mS a w_ ⟨i,hk,hu,rfl,Z,E⟩
 refine Jb Z E ((JQ∘JP∘Jp 1∘Jf 0∘Jg 2 O1∘Jl∘Jp 1∘eZ∘Jj) (Ju (fun Kz=>?_) fun Kz=>?_))
 ·
  intro a Z E
  have aaw:=of_decide_eq_true Kz
  have hk1:i<s.st.gs.length:=by omega
  have hk2:i<z.st.gs.length:=by omega
  obtain ⟨dU,dV,hq1,_⟩:=Rd.qd hx.g (Nat.lt_of_le_of_lt (Nat.zero_le _) (show i<s.st.gs.length from hk1)) de
  have aZ:=hx.g;rw [hq1] at aZ
  obtain ⟨mW,mX,hq2,_⟩:=Rd.qd hz.g (Nat.lt_of_le_of_lt (Nat.zero_le _) (show i<z.st.gs.length from hk2)) de
  have iq:=hz.g;rw [hq2] at iq
  refine Jb Z E ((JT∘aG∘JQ∘JB) fun a Z E=>?_)
  refine wp_seq ?_
  refine Jb Z E ((Vs .n []) fun SS=>(Vf 0 0∘Vf 1 2∘Vp [3]∘Vf 6 0∘Vf 7 2∘Vp [9]∘Vc 2 O1) fun a Z E HS=>?_)
  replace Z:=Z.sp 93 (.slice (some ⟨dU,dV,none⟩) s.st.gs.length s.st.gc) rfl (by rw [hq1];try rfl)
  refine Vb Z E HS ((Vy 4 (h:=by exact Yl.ix dU dV i 2 rfl rfl rfl)∘Vy 5 (v:= .agg ((s.st.gs.getD i Gr.zero).cells)) (h:=by exact Yl.qf rfl rfl nC rfl (fun _ h=>(h.old aZ).qm zx ((getD_at Gr.zero hk1))))∘Vc 8 O0) fun a Z E HS=>?_)
  replace Z:=Z.sp 99 (.slice (some ⟨mW,mX,none⟩) z.st.gs.length z.st.gc) rfl (by rw [hq2];try rfl)
  refine Vb Z E HS ((Vy 10 (h:=by exact Yl.ix mW mX i 2 rfl rfl rfl)∘Vy 11 (v:= .agg ((z.st.gs.getD i Gr.zero).cells)) (h:=by exact Yl.qf rfl rfl nC rfl (fun _ h=>(h.old iq).qm zx ((getD_at Gr.zero hk2))))∘Vy 12 (v:= .bool (!(decide ((s.st.gs.getD i Gr.zero)=(z.st.gs.getD i Gr.zero))))) (h:=by exact Yl.MU rfl rfl rfl (qug (s.st.gs.getD i Gr.zero) (z.st.gs.getD i Gr.zero)))∘Vd∘aF) (VX (fun Cn=>?_) fun Cn=>?_))
  ·
   exact (JT∘JP∘Jp 1∘Jj∘JZ∘aH) fun E=>bX (p:=bM s z) (fun e=>Cn (by rw [e.2.2.2.1])) E.below
  refine (JF∘aG∘JR∘Jp 1∘bn 1∘Jp 1∘aT∘Jq) fun a Z E=>?_
  exact ⟨_,om,i+1,by omega,Ob hu Cn,rfl,Z.sub kr,E.pk [0,1,2,3]⟩
 intro a Z E
 have aaw:=of_decide_eq_false Kz
 have hgs:s.st.gs=z.st.gs:=N9 Gr.zero om (fun n hn=>hu n om)
 refine Jb Z E ((JF∘JX∘JG∘JQ∘JP∘Jp 1∘Jj∘JB) fun a Z E=>?_)
 refine qc (fun mS aS wS=>∃(j:Nat),(j≤s.st.ts.length)∧(∀n,n<j→s.st.ts.getD n Tk.zero=z.st.ts.getD n Tk.zero)∧mS=s.st.ts.length-j∧Fr aS 169 [] [(8,vI j),(88,.bool false),(7,vI i),(82,.bool false),(6,vP g6 0),(5,vP g5 0),(4,.bool false),(3,vP g3 0),(2,vP g2 0)]∧Mem w wS [.blk g6 z.st.cells 48,.blk g5 s.st.cells 48,.blk g3 z.cells 180,.blk g2 s.cells 180]) (m:=s.st.ts.length-0) ⟨0,Nat.zero_le _,Oa,rfl,Z.sub kr,E.pk [0,1,2,3]⟩ ?_
 clear Z E;rintro mS a w_ ⟨j,hk,hu,rfl,Z,E⟩
 refine Jb Z E ((JQ∘JP∘Jp 1∘Jg 5 O1∘Jl∘Jp 1∘bQ∘Jj) (Ju (fun Co=>?_) fun Co=>?_))
 ·
  intro a Z E
  have Q7:=of_decide_eq_true Co
  have hk1:j<s.st.ts.length:=by omega
  have hk2:j<z.st.ts.length:=by omega
  obtain ⟨lK,lM,hq3,_⟩:=Rd.qd hx.t (Nat.lt_of_le_of_lt (Nat.zero_le _) (show j<s.st.ts.length from hk1)) de
  have gB:=hx.t;rw [hq3] at gB
  obtain ⟨lX,lY,hq4,_⟩:=Rd.qd hz.t (Nat.lt_of_le_of_lt (Nat.zero_le _) (show j<z.st.ts.length from hk2)) de
  have gP:=hz.t;rw [hq4] at gP
  refine Jb Z E ((JT∘aG∘JQ∘JB) fun a Z E=>?_)
  refine wp_seq ?_
  refine Jb Z E ((Vs .n []) fun aaf=>(Vf 0 5∘Vp [2]∘Vf 5 5∘Vp [7]∘Vc 1 O1) fun a Z E HS=>?_)
  replace Z:=Z.sp 112 (.slice (some ⟨lK,lM,none⟩) s.st.ts.length s.st.tc) rfl (by rw [hq3];try rfl)
  refine Vb Z E HS ((Vy 3 (h:=by exact Yl.ix lK lM j 8 rfl rfl rfl)∘Vy 4 (v:= .agg ((s.st.ts.getD j Tk.zero).cells)) (h:=by exact Yl.qf rfl rfl eU rfl (fun _ h=>(h.old gB).qm sw ((getD_at Tk.zero hk1))))∘Vc 6 O0) fun a Z E HS=>?_)
  replace Z:=Z.sp 117 (.slice (some ⟨lX,lY,none⟩) z.st.ts.length z.st.tc) rfl (by rw [hq4];try rfl)
  refine Vb Z E HS ((Vy 8 (h:=by exact Yl.ix lX lY j 8 rfl rfl rfl)∘Vy 9 (v:= .agg ((z.st.ts.getD j Tk.zero).cells)) (h:=by exact Yl.qf rfl rfl eU rfl (fun _ h=>(h.old gP).qm sw ((getD_at Tk.zero hk2))))∘Vy 10 (v:= .bool (!(decide ((s.st.ts.getD j Tk.zero)=(z.st.ts.getD j Tk.zero))))) (h:=by exact Yl.MU rfl rfl rfl (q6k (s.st.ts.getD j Tk.zero) (z.st.ts.getD j Tk.zero)))∘Vd∘aF) (Ju (fun oH=>?_) fun oH=>?_))
  ·
   intro a Z E
   have Cq:=of_decide_eq_false ((Bool.not_eq_true' _).mp oH)
   exact Jb Z E ((JT∘JP∘Jp 1∘Jj∘JZ∘aH) fun E=>bX (p:=bM s z) (fun e=>Cq (by rw [e.2.2.2.2.2.2.1])) E.below)
  intro a Z E
  have Cq:=of_decide_eq_true ((Bool.not_eq_false' _).mp oH)
  refine Jb Z E ((JF∘aG∘JR∘Jp 1∘bn 1∘Jp 1∘aT∘Jq) fun a Z E=>?_)
  exact ⟨_,om,j+1,by omega,Ob hu Cq,rfl,Z.sub kr,E.pk [0,1,2,3]⟩
 intro a Z E
 have Q7:=of_decide_eq_false Co
 have hts:s.st.ts=z.st.ts:=N9 Tk.zero om (fun n hn=>hu n om)
 refine Jb Z E ((JF∘JX∘JG∘JQ∘JP∘Jp 1∘Jj∘JB) fun a Z E=>?_)
 refine qc (fun mS aS wS=>∃(k:Nat),(k≤s.st.rs.length)∧(∀i,i<k→(s.st.rs.getD i Rw.zero).l=(z.st.rs.getD i Rw.zero).l)∧mS=s.st.rs.length-k∧Fr aS 169 [] [(9,vI k),(108,.bool false),(8,vI j),(88,.bool false),(7,vI i),(82,.bool false),(6,vP g6 0),(5,vP g5 0),(4,.bool false),(3,vP g3 0),(2,vP g2 0)]∧Mem w wS [.blk g6 z.st.cells 48,.blk g5 s.st.cells 48,.blk g3 z.cells 180,.blk g2 s.cells 180]) (m:=s.st.rs.length-0) ⟨0,Nat.zero_le _,Oa,rfl,Z.sub kr,E.pk [0,1,2,3]⟩ ?_
 clear Z E;rintro mS a w_ ⟨k,hk,hu,rfl,Z,E⟩
 refine Jb Z E ((JQ∘JP∘Jp 1∘Jg 6 O1∘Jl∘Jp 1∘bQ∘Jj) (Ju (fun Cr=>?_) fun Cr=>?_))
 ·
  intro a Z E
  have Q8:=of_decide_eq_true Cr
  have hk1:k<s.st.rs.length:=by omega
  have hk2:k<z.st.rs.length:=by omega
  obtain ⟨qV,qW,xG,_⟩:=Rd.qd hx.s (Nat.lt_of_le_of_lt (Nat.zero_le _) (show k<s.st.rs.length from hk1)) de
  have mF:=hx.s;rw [xG] at mF
  obtain ⟨uQ,uR,zA,_⟩:=Rd.qd hz.s (Nat.lt_of_le_of_lt (Nat.zero_le _) (show k<z.st.rs.length from hk2)) de
  have nW:=hz.s;rw [zA] at nW
  obtain ⟨x,Gw⟩:∃q,(s.st.rs.getD k Rw.zero)=q:=⟨_,rfl⟩
  obtain ⟨y,KA⟩:∃q,(z.st.rs.getD k Rw.zero)=q:=⟨_,rfl⟩
  have C8:Rd w w.heap.size 3 x.A x.l.length (x.l.flatMap jy):=by rw [←Gw];exact hx.row hk1
  have jG:Rd w w.heap.size 3 y.A y.l.length (y.l.flatMap jy):=by rw [←KA];exact hz.row hk2
  have hxl:x.l.length≤1000000:=by rw [←Gw];exact hf.r _ (qi Rw.zero hk1)
  have hyl:y.l.length≤1000000:=by rw [←KA];exact hg.r _ (qi Rw.zero hk2)
  refine Jb Z E ((JT∘aG∘JQ∘JB∘JQ) fun a Z E=>?_)
  refine wp_seq ?_
  refine Jb Z E ((Vs .n []) fun Z6=>(Vf 0 6∘Vp [2]∘Vf 6 6∘Vp [8]∘Vc 1 O1) fun a Z E HS=>?_)
  replace Z:=Z.sp 130 (.slice (some ⟨qV,qW,none⟩) s.st.rs.length s.st.sc) rfl (by rw [xG];try rfl)
  refine Vb Z E HS ((Vy 3 (h:=by exact Yl.ix qV qW k 1 rfl rfl rfl)∘Vy 4 (v:= .slice ((s.st.rs.getD k Rw.zero).A) ((s.st.rs.getD k Rw.zero).l.length) ((s.st.rs.getD k Rw.zero).c)) (h:=by exact Yl.o1 mF k Rw.zero hk1 rfl rfl)∘Vo (.slice x.A x.l.length x.c) (by rw [Gw])∘Vl 5∘Vc 7 O0) fun a Z E HS=>?_)
  replace Z:=Z.sp 136 (.slice (some ⟨uQ,uR,none⟩) z.st.rs.length z.st.sc) rfl (by rw [zA];try rfl)
  refine Vb Z E HS ((Vy 9 (h:=by exact Yl.ix uQ uR k 1 rfl rfl rfl)∘Vy 10 (v:= .slice ((z.st.rs.getD k Rw.zero).A) ((z.st.rs.getD k Rw.zero).l.length) ((z.st.rs.getD k Rw.zero).c)) (h:=by exact Yl.o1 nW k Rw.zero hk2 rfl rfl)∘Vo (.slice y.A y.l.length y.c) (by rw [KA])∘Vl 11∘Vp [12]∘Vd∘aF) (Jh (fun Q9=>?_) fun Q9=>?_))
  ·
   exact (JT∘JP∘Jp 1∘Jj∘JZ∘aH) fun E=>bX (p:=bM s z) (fun e=>qpw hk1 hk2 (by rw [Gw,KA];exact zdx om) e.2.2.2.2.2.2.2) E.below
  refine (JF∘aG∘JP∘Jp 1∘Jj∘JB) fun a Z E=>?_
  refine qc (fun mS aS wS=>∃(c:Nat),(c≤x.l.length)∧(∀i,i<c→x.l.getD i Sp.zero=y.l.getD i Sp.zero)∧mS=x.l.length-c∧Fr aS 169 [] [(10,vI c),(141,.bool false),(126,.bool true),(9,vI k),(108,.bool false),(8,vI j),(88,.bool false),(7,vI i),(82,.bool false),(6,vP g6 0),(5,vP g5 0),(4,.bool false),(3,vP g3 0),(2,vP g2 0)]∧Mem w wS [.blk g6 z.st.cells 48,.blk g5 s.st.cells 48,.blk g3 z.cells 180,.blk g2 s.cells 180]) (m:=x.l.length-0) ⟨0,Nat.zero_le _,Oa,rfl,Z.sub kr,E.pk [0,1,2,3]⟩ ?_
  clear Z E;rintro mS a w_ ⟨c,hc,hu2,rfl,Z,E⟩
  refine Jb Z E ((JQ∘JP∘Jp 1∘Jg 6 O1∘Jp 1) fun a Z E=>?_)
  replace Z:=Z.sp 144 (.slice (some ⟨qV,qW,none⟩) s.st.rs.length s.st.sc) rfl (by rw [xG];try rfl)
  refine Jb Z E ((Jy (h:=by exact Yl.ix qV qW k 1 rfl rfl rfl)∘Jy (v:= .slice ((s.st.rs.getD k Rw.zero).A) ((s.st.rs.getD k Rw.zero).l.length) ((s.st.rs.getD k Rw.zero).c)) (h:=by exact Yl.o1 mF k Rw.zero hk1 rfl rfl)∘Jo (.slice x.A x.l.length x.c) (by rw [Gw])∘Jl∘Jp 1∘aF∘Jj) (Ju (fun Ct=>?_) fun Ct=>?_))
  ·
   intro a Z E
   have Ra:=of_decide_eq_true Ct
   have hc1:c<x.l.length:=by omega
   have hc2:c<y.l.length:=by omega
   obtain ⟨gq7,oq7,hq7,_⟩:=Rd.qd C8 (Nat.lt_of_le_of_lt (Nat.zero_le _) (show c<x.l.length from hc1)) de
   have Rb:=C8;rw [hq7] at Rb
   obtain ⟨gq8,oq8,hq8,_⟩:=Rd.qd jG (Nat.lt_of_le_of_lt (Nat.zero_le _) (show c<y.l.length from hc2)) de
   have Rf:=jG;rw [hq8] at Rf
   refine Jb Z E ((JT∘aG∘JQ∘JB) fun a Z E=>?_)
   refine wp_seq ?_
   refine Jb Z E ((Vs .n []) fun aus=>(Vf 0 6∘Vp [2,5]∘Vf 8 6∘Vp [10,13]∘Vc 1 O1) fun a Z E HS=>?_)
   replace Z:=Z.sp 153 (.slice (some ⟨qV,qW,none⟩) s.st.rs.length s.st.sc) rfl (by rw [xG];try rfl)
   refine Vb Z E HS ((Vy 3 (h:=by exact Yl.ix qV qW k 1 rfl rfl rfl)∘Vy 4 (v:= .slice ((s.st.rs.getD k Rw.zero).A) ((s.st.rs.getD k Rw.zero).l.length) ((s.st.rs.getD k Rw.zero).c)) (h:=by exact Yl.o1 mF k Rw.zero hk1 rfl rfl)∘Vo (.slice x.A x.l.length x.c) (by rw [Gw])) fun a Z E HS=>?_)
   replace Z:=Z.sp 156 (.slice (some ⟨gq7,oq7,none⟩) x.l.length x.c) rfl (by rw [hq7];try rfl)
   refine Vb Z E HS ((Vy 6 (h:=by exact Yl.ix gq7 oq7 c 3 rfl rfl rfl)∘Vy 7 (v:= .agg ((x.l.getD c Sp.zero).cells)) (h:=by exact Yl.qf rfl rfl kD rfl (fun _ h=>(h.old Rb).qm vF ((getD_at Sp.zero hc1))))∘Vc 9 O0) fun a Z E HS=>?_)
   replace Z:=Z.sp 161 (.slice (some ⟨uQ,uR,none⟩) z.st.rs.length z.st.sc) rfl (by rw [zA];try rfl)
   refine Vb Z E HS ((Vy 11 (h:=by exact Yl.ix uQ uR k 1 rfl rfl rfl)∘Vy 12 (v:= .slice ((z.st.rs.getD k Rw.zero).A) ((z.st.rs.getD k Rw.zero).l.length) ((z.st.rs.getD k Rw.zero).c)) (h:=by exact Yl.o1 nW k Rw.zero hk2 rfl rfl)∘Vo (.slice y.A y.l.length y.c) (by rw [KA])) fun a Z E HS=>?_)
   replace Z:=Z.sp 164 (.slice (some ⟨gq8,oq8,none⟩) y.l.length y.c) rfl (by rw [hq8];try rfl)
   refine Vb Z E HS ((Vy 14 (h:=by exact Yl.ix gq8 oq8 c 3 rfl rfl rfl)∘Vy 15 (v:= .agg ((y.l.getD c Sp.zero).cells)) (h:=by exact Yl.qf rfl rfl kD rfl (fun _ h=>(h.old Rf).qm vF ((getD_at Sp.zero hc2))))∘Vy 16 (v:= .bool (!(decide ((x.l.getD c Sp.zero)=(y.l.getD c Sp.zero))))) (h:=by exact Yl.MU rfl rfl rfl (q6l (x.l.getD c Sp.zero) (y.l.getD c Sp.zero)))∘Vd∘jq) (VX (fun hd168=>?_) fun hd168=>?_))
   ·
    exact (JT∘JP∘Jp 1∘Jj∘JZ∘aH) fun E=>bX (p:=bM s z) (fun e=>qpw hk1 hk2 (by rw [Gw,KA];exact fun h=>hd168 (by rw [h])) e.2.2.2.2.2.2.2) E.below
   refine (JF∘aG∘JR∘Jp 1∘bn 1∘Jp 1∘aT∘Jq) fun a Z E=>?_
   exact ⟨_,om,c+1,by omega,Ob hu2 hd168,rfl,Z.sub kr,E.pk [0,1,2,3]⟩
  intro a Z E
  have Ra:=of_decide_eq_false Ct
  have hxy:x.l=y.l:=N9 Sp.zero om (fun i hi=>hu2 i om)
  refine Jb Z E ((JF∘JX∘JG∘JR∘Jp 1∘bn 1∘Jp 1∘aT∘Jq) fun a Z E=>?_)
  exact ⟨_,om,k+1,by omega,Ob (f:=fun i=>(s.st.rs.getD i Rw.zero).l) (g:=fun i=>(z.st.rs.getD i Rw.zero).l) hu (by rw [Gw,KA];exact hxy),rfl,Z.sub kr,E.pk [0,1,2,3]⟩
 intro a Z E
 have Q8:=of_decide_eq_false Cr
 exact Jb Z E ((JF∘JX∘JG∘JP∘Jp 1∘Jj∘JZ∘aH) fun E=>by exact Lr (p:=bM s z) ⟨iA,hd29,by omega,hgs,hcl,IB,hts,q1j om (fun i hi=>hu i om)⟩ E.below)
end Go.Proofs.YtekiimhdnigmcaaGreatDoor
