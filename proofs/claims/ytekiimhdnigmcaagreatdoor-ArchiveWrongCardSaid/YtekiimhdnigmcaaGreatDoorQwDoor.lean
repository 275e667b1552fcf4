/- A part of the proof. -/
import Derived.Test.YtekiimhdnigmcaaGreatDoorQwConv
import Derived.Test.YtekiimhdnigmcaaGreatDoorQwCodS
import Derived.ProofKit
import Derived.Below
import Derived.Carry
import Derived.LaidMore
import Derived.Lib.LaidU8
import Derived.Lib.SmallJoins
namespace Go.Proofs.YtekiimhdnigmcaaGreatDoor
open Go.RowKit Go.ChangeShapes Go.WideShapes
section
variable {H:Type} {enc:TypeId×Value→H} {P:Program}
theorem UN (g:laidOutB P=true) {W w:World} (hb:Below W.heap.size W w):∀{ts:List TypeId} {c:List Value} {e:List (DataW H)} {ps:List MemPlace},
  (ts.all λt=>P.readableRec t&&decide (t<P.types.size))=true→DataW.TrodAll enc P W 0 (λ_=>true) true ts c e ps→(∀x∈ps,x.block<W.heap.size)→
  DataW.TrodAll enc P w 0 (λb=>decide (b<W.heap.size)) true ts c e ps
 |[],c,e,ps,_,h,_=>by
  obtain ⟨rfl,rfl,rfl⟩:=trodAll_nil h
  rfl
 |t::ts,c,e,ps,ht,h,a=>by
  obtain ⟨v,i,d,j,p,q,rfl,rfl,rfl,h1,h2⟩:=trodAll_cons h
  simp only [List.all_cons,Bool.and_eq_true,decide_eq_true_eq] at ht
  exact ⟨p,q,Below.trod g ht.1.1 ht.1.2 h1 hb (λx f=>a x (List.mem_append_left _ f)),UN g hb (by simpa using ht.2) h2 (λx f=>a x (List.mem_append_right _ f)),rfl⟩
theorem q1b {f:Func} {s:ChangeSpec} {W w:World} {args:Array Value} {ds gs:List (DataW H)} {before:List MemPlace} {tb:TypeId}
  (l:laidOutB P=true) (a:(f.params.toList.all λt=>P.readableRec t&&decide (t<P.types.size))=true)
  (hr:f.resultTypes= #[tb]) (b:P.underlying tb=some .bool) (j:s.vars=[])
  (c:DataW.Whole enc P f.params.toList s.vars false W args.toList ds gs before) (hs:s.fn H ds={results:=[.lit (.bool true)],args:=ds}) (hb:Below W.heap.size W w):
  s.post enc P f false true false false W args (.bool true) w:=by
 have g:∀x∈before,x.block<W.heap.size:=λp m=>c.lt p m
 have i:=c
 obtain ⟨p,q,n,k,e,o,r⟩:=c
 rw [j] at k
 obtain ⟨rfl,rfl⟩:=trodVars_none k
 rw [List.append_nil] at e
 subst e
 refine ⟨ds,[],before,[],before,[],i,?_,?_,?_,hb.frame _,λh=>by cases h⟩
 ·rw [List.append_nil,hs,hr]
  exact trodAll_mk1 (shut_bool b _)
 ·rw [List.append_nil,hs]
  exact UN l hb a n g
 ·rw [List.append_nil,hs,j]
  rfl
end
theorem zeb:Tryz.prog.underlying 3=some (.int .i64):=by kernel_rfl
theorem C8:Tryz.prog.underlying 5=some (.int .u8):=by kernel_rfl
theorem q7y:Tryz.prog.cellsOf 5=1:=by kernel_rfl
theorem qx5:Tryz.prog.cellsOf 110=2:=by kernel_rfl
section
variable {H:Type} {enc:TypeId×Value→H} {W:World} {b0:Nat} {v:Value} {d:DataW H} {p:List MemPlace}
theorem Nl {a:Int} (h:(Lit.int .i64 a).wf=true):aQ a:=by
 simpa [Lit.wf,IntKind.min,IntKind.max,IntKind.signed,IntKind.bits,aQ] using h
theorem iC {a:Int} (h:(Lit.int .u8 a).wf=true):0≤a∧a≤255:=by
 simpa [Lit.wf,IntKind.min,IntKind.max,IntKind.signed,IntKind.bits] using h
set_option maxRecDepth 100000 in
theorem zec (a:Value.okWide Tryz.prog W .any b0 3 v) (h:DataW.Trod enc Tryz.prog W 0 (λ_=>true) true 3 v d p):∃m:Int,v= .int .i64 m∧aQ m:=by
 obtain ⟨m,rfl,_,_,wf⟩:=open_int zeb a h
 exact ⟨m,rfl,Nl wf⟩
set_option maxRecDepth 100000 in
theorem zig (a:Value.okWide Tryz.prog W .any b0 5 v) (h:DataW.Trod enc Tryz.prog W 0 (λ_=>true) true 5 v d p):∃m:Nat,v= .int .u8 (m:Int)∧m<256:=by
 obtain ⟨m,rfl,_,_,wf⟩:=open_int C8 a h
 have:=iC wf
 exact ⟨m.toNat,by rw [Int.toNat_of_nonneg this.1],by omega⟩
end
end Go.Proofs.YtekiimhdnigmcaaGreatDoor
