/- A part of the proof. -/
import Derived.Test.YtekiimhdnigmcaaGreatDoorQtDoor
import Derived.Test.YtekiimhdnigmcaaGreatDoorQtCodV
namespace Go.Proofs.YtekiimhdnigmcaaGreatDoor
open Go.RowKit Go.ChangeShapes Go.WideShapes Go.ChangeAt
def ES (P:Program) (t:TypeId) (ks:List Go.IntKind):Bool:=match P.underlying t with
 |some (.struct fs)=>decide (fs.size=ks.length)&&decide (P.cellsOf t=ks.length)&& (List.range ks.length).all fun i=>match fs[i]?,ks[i]? with
  |some f,some k=>decide (f.offset=i)&&decide (P.cellsOf f.type=1)&& (match P.underlying f.type with|some (TypeDesc.int k')=>decide (k'=k)|_=>false)
  |_,_=>false
 |_=>false
section
variable {H:Type} {enc:TypeId×Value→H} {P:Program} {W:World} {b0:Nat} {sp:Nat→Bool} {held:Bool}
theorem Vm {t:TypeId} {ks:List Go.IntKind} (hf:ES P t ks=true) {fuel:Nat} {cs:List Value} {x:DataW H×List MemPlace} (h:DataW.trod enc P W b0 sp held fuel t cs=some x):
  cs.length=ks.length∧∀(i:Nat) (k:Go.IntKind),ks[i]?=some k→∃z:Int,cs[i]?=some (Value.int k z)∧(Lit.int k z).wf=true:=by
 unfold ES at hf
 split at hf
 ·rename_i fs hu
  simp only [Bool.and_eq_true,decide_eq_true_eq,List.all_eq_true,List.mem_range] at hf
  obtain ⟨⟨h1,h2⟩,h3⟩:=hf
  obtain ⟨xs,n,_,_,hl,hx,he⟩:=DataW.trod_struct hu h
  refine ⟨by omega,fun i k hk=>?_⟩
  have hi:i<ks.length:=(List.getElem?_eq_some_iff.1 hk).1
  have h4:=h3 i hi
  rw [hk] at h4
  split at h4
  ·rename_i f k' hfi hk'
   cases hk'
   simp only [Bool.and_eq_true,decide_eq_true_eq] at h4
   obtain ⟨⟨ho,hc⟩,hty⟩:=h4
   split at hty
   ·rename_i k'' hu'
    simp only [decide_eq_true_eq] at hty
    subst hty
    have h5:=he i f hfi
    rw [ho,hc] at h5
    have hxi:i<xs.length:=by omega
    rw [List.getElem?_eq_getElem hxi] at h5
    obtain ⟨z,hz,_,hw⟩:=DataW.trod_int hu' h5
    refine ⟨z,?_,hw⟩
    have:=congrArg (·[0]?) hz
    simpa [List.getElem?_take,List.getElem?_drop] using this
   ·cases hty
  ·cases h4
 ·cases hf
theorem qi8 {t:TypeId} {ks:List Go.IntKind} (hf:ES P t ks=true):P.cellsOf t=ks.length:=by
 unfold ES at hf
 split at hf
 ·simp only [Bool.and_eq_true,decide_eq_true_eq] at hf
  exact hf.1.2
 ·cases hf
theorem qmu {t e:TypeId} {ks:List Go.IntKind} (ht:P.underlying t=some (.slice e)) (hf:ES P e ks=true) (hk:0<ks.length) {fuel:Nat} {cs:List Value} {x:DataW H×List MemPlace}
  (h:DataW.trod enc P W 0 sp held fuel t cs=some x):
  ∃(A:Option Addr) (n c:Nat) (css:List (List Value)),cs=[.slice A n c]∧n≤c∧c≤maxLen∧css.length=n∧
   (∀l∈css,l.length=ks.length∧∀(i:Nat) (k:Go.IntKind),ks[i]?=some k→∃z:Int,l[i]?=some (Value.int k z)∧(Lit.int k z).wf=true)∧Rd W W.heap.size ks.length A n (css.flatMap id):=by
 have hsz:=qi8 hf
 rcases DataW.trod_slice ht h with ⟨hc,_⟩|⟨a,len,cap,elems,rest,m,_,hc,_,_,hl,hm,hlen,hel,_⟩
 ·exact ⟨none,0,0,[],hc,Nat.le_refl _,by unfold maxLen;omega,rfl,by simp,Rd.nil⟩
 ·have hall:∀i,i<len→∃l:List Value,W.cells? 0 (a.add (i*ks.length)) ks.length=some l∧∃y,DataW.trod enc P W 0 sp held m e l=some y:=by
   intro i hi
   have h1:=hel i hi
   rw [hsz,List.getElem?_eq_getElem (by omega:i<elems.length)] at h1
   obtain ⟨l,h2,h3⟩:=Option.bind_eq_some_iff.1 h1
   exact ⟨l,h2,_,h3⟩
  have key:∀k,k≤len→∃css:List (List Value),css.length=k∧(∀i (hi:i<css.length),W.cells? 0 (a.add (i*ks.length)) ks.length=some css[i]∧∃y,DataW.trod enc P W 0 sp held m e css[i]=some y):=by
   intro k
   induction k with
   |zero=>intro _;exact ⟨[],rfl,fun i hi=>by simp at hi⟩
   | succ k ih =>
    intro hk
    obtain ⟨css,h1,h2⟩:=ih om
    obtain ⟨l,h3,h4⟩:=hall k om
    refine ⟨css++[l],by simp [h1],fun i hi=>?_⟩
    by_cases hik:i<css.length
    ·rw [List.getElem_append_left hik];exact h2 i hik
    ·obtain rfl:i=css.length:=by simp at hi;omega
     rw [List.getElem_append_right (Nat.le_refl _)]
     simp only [Nat.sub_self,List.getElem_cons_zero,h1]
     exact ⟨h3,h4⟩
  obtain ⟨css,h1,h2⟩:=key len (Nat.le_refl _)
  have hin:∀l∈css,l.length=ks.length∧∀(i:Nat) (k:Go.IntKind),ks[i]?=some k→∃z:Int,l[i]?=some (Value.int k z)∧(Lit.int k z).wf=true:=by
   intro l hl'
   obtain ⟨i,hi,rfl⟩:=List.getElem_of_mem hl'
   obtain ⟨_,y,hy⟩:=h2 i hi
   exact Vm hf hy
  have hat:∀i (hi:i<css.length) j,j<ks.length→W.cell? (a.add (i*ks.length+j))=css[i][j]?:=by
   intro i hi j hj
   have:=(World.cells?_some (h2 i hi).1).2.2 j hj
   rwa [UQ] at this
  have MG:∀(css:List (List Value)),(∀l∈css,l.length=ks.length)→(css.flatMap id).length=css.length*ks.length:=by
   intro css
   induction css with
   |nil=>simp
   |cons l r ih=>intro h;rw [List.flatMap_cons,List.length_append,ih (fun y hy=>h y (by simp [hy])),List.length_cons,Nat.succ_mul];have:=h l (by simp);simp only [id];omega
  have hget:∀(css:List (List Value)),(∀l∈css,l.length=ks.length)→∀p u,(css.flatMap id)[p]?=some u→∃i j,∃hi:i<css.length,j<ks.length∧p=i*ks.length+j∧css[i][j]?=some u:=by
   intro css
   induction css with
   |nil=>intro _ p u h;simp at h
   | cons l r ih =>
    intro h p u hu
    have hll:=h l (by simp)
    rw [List.flatMap_cons] at hu
    by_cases hp:p<ks.length
    ·rw [List.getElem?_append_left (by simp only [id];omega)] at hu
     exact ⟨0,p,by simp,hp,by omega,hu⟩
    ·rw [List.getElem?_append_right (by simp only [id];omega)] at hu
     simp only [id] at hu
     rw [hll] at hu
     obtain ⟨i,j,hi,hj,hpj,hu'⟩:=ih (fun y hy=>h y (by simp [hy])) _ u hu
     exact ⟨i+1,j,by simp;omega,hj,by rw [Nat.succ_mul];omega,by simpa using hu'⟩
  have hll:∀l∈css,l.length=ks.length:=fun l hl'=>(hin l hl').1
  refine ⟨some a,len,cap,css,hc,hl,hm,h1,hin,⟨by rw [MG css hll,h1],fun hn=>⟨a,rfl,?_,?_⟩⟩⟩
  ·have h0:0<css.length:=by omega
   have h3:=hat 0 h0 0 hk
   have h4:=hll _ (List.getElem_mem h0)
   rw [List.getElem?_eq_getElem om] at h3
   have:=World.block_lt_of_cell? W _ h3
   simpa [Addr.add] using this
  ·intro p u hu
   obtain ⟨i,j,hi,hj,rfl,hu'⟩:=hget css hll p u hu
   rw [hat i hi j hj,hu']
end
theorem q8g {a:Int} (h:(Lit.int .u32 a).wf=true):0≤a∧a≤4294967295:=by
 simpa [Lit.wf,IntKind.min,IntKind.max,IntKind.signed,IntKind.bits] using h
theorem KR {a:Int} (h:(Lit.int .u64 a).wf=true):0≤a∧a≤18446744073709551615:=by
 simpa [Lit.wf,IntKind.min,IntKind.max,IntKind.signed,IntKind.bits] using h
theorem ET {α:Type} {l m:List α} (h1:l.length=m.length) (h:∀i,i<m.length→l[i]?=m[i]?):l=m:=by
 refine List.ext_getElem? fun i=>?_
 by_cases hi:i<m.length
 ·exact h i hi
 ·rw [List.getElem?_eq_none om,List.getElem?_eq_none om]
section
variable {H:Type} {enc:TypeId×Value→H} {W:World} {b0:Nat} {v:Value} {d:DataW H} {p:List MemPlace}
end
section
variable {H:Type} {enc:TypeId×Value→H} {P:Program} {w:World} {base:Nat} {spare:Nat→Bool} {held:Bool}
end
section
variable {H:Type} {enc:TypeId×Value→H} {W:World} {b0:Nat} {v:Value} {d:DataW H} {p:List MemPlace}
end
def MH:List Go.IntKind:=[.i64,.i64,.u8,.u8,.i64,.i64,.i64,.i64,.i64,.u64,.i64]
theorem qyx {cs:List Value} (hl:cs.length=MH.length) (h:∀(i:Nat) (k:Go.IntKind),MH[i]?=some k→∃z:Int,cs[i]?=some (Value.int k z)∧(Lit.int k z).wf=true):∃x:Ev,eF x=cs∧x.Ok:=by
 obtain ⟨z0,h0,w0⟩:=h 0 .i64 rfl
 have w0:=qZ w0
 obtain ⟨z1,h1,w1⟩:=h 1 .i64 rfl
 have w1:=qZ w1
 obtain ⟨z2,h2,w2⟩:=h 2 .u8 rfl
 have w2:=wI w2
 obtain ⟨z3,h3,w3⟩:=h 3 .u8 rfl
 have w3:=wI w3
 obtain ⟨z4,h4,w4⟩:=h 4 .i64 rfl
 have w4:=qZ w4
 obtain ⟨z5,h5,w5⟩:=h 5 .i64 rfl
 have w5:=qZ w5
 obtain ⟨z6,h6,w6⟩:=h 6 .i64 rfl
 have w6:=qZ w6
 obtain ⟨z7,h7,w7⟩:=h 7 .i64 rfl
 have w7:=qZ w7
 obtain ⟨z8,h8,w8⟩:=h 8 .i64 rfl
 have w8:=qZ w8
 obtain ⟨z9,h9,w9⟩:=h 9 .u64 rfl
 have w9:=KR w9
 obtain ⟨z10,h10,ru⟩:=h 10 .i64 rfl
 have ru:=qZ ru
 refine ⟨⟨z0,z1,z2.toNat,z3.toNat,z4,z5,z6,z7,z8,z9.toNat,z10⟩,?_,⟨w0,w1,(by show z2.toNat<_;omega),(by show z3.toNat<_;omega),w4,w5,w6,w7,w8,(by show z9.toNat<_;omega),ru⟩⟩
 refine ET (by rw [hl];rfl) fun i hi=>?_
 have hi':i<11:=by rw [hl] at hi;exact hi
 have hc:i=0∨i=1∨i=2∨i=3∨i=4∨i=5∨i=6∨i=7∨i=8∨i=9∨i=10:=by omega
 rcases hc with rfl|rfl|rfl|rfl|rfl|rfl|rfl|rfl|rfl|rfl|rfl
 ·rw [h0];rfl
 ·rw [h1];rfl
 ·rw [h2];show some (Value.int .u8 ((z2.toNat:Nat):Int))=_;rw [Int.toNat_of_nonneg w2.1]
 ·rw [h3];show some (Value.int .u8 ((z3.toNat:Nat):Int))=_;rw [Int.toNat_of_nonneg w3.1]
 ·rw [h4];rfl
 ·rw [h5];rfl
 ·rw [h6];rfl
 ·rw [h7];rfl
 ·rw [h8];rfl
 ·rw [h9];show some (Value.int .u64 ((z9.toNat:Nat):Int))=_;rw [Int.toNat_of_nonneg w9.1]
 ·rw [h10];rfl
theorem qyy:ES Tryz.prog 73 MH=true:=by kernel_rfl
theorem qk0:∀(css:List (List Value)),(∀l∈css,l.length=MH.length∧∀(i:Nat) (k:Go.IntKind),MH[i]?=some k→∃z:Int,l[i]?=some (Value.int k z)∧(Lit.int k z).wf=true)→∃l:List Ev,l.flatMap eF=css.flatMap id∧∀x∈l,x.Ok
 |[],_=>⟨[],rfl,by simp⟩
 |c::r,h=>by
  obtain ⟨l,h1,h2⟩:=qk0 r (fun y hy=>h y (by simp [hy]))
  obtain ⟨x,h3,h4⟩:=qyx (h c (by simp)).1 (h c (by simp)).2
  refine ⟨x::l,by rw [List.flatMap_cons,List.flatMap_cons,h1,h3];rfl,fun y hy=>?_⟩
  rcases List.mem_cons.1 hy with rfl|hy
  ·exact h4
  ·exact h2 y hy
section
variable {H:Type} {enc:TypeId×Value→H} {W:World} {b0:Nat} {v:Value} {d:DataW H} {p:List MemPlace}
end
def fieldAt (P:Program) (t:TypeId) (i off:Nat) (u:TypeId):Bool:=match P.underlying t with
 |some (.struct fs)=>match fs[i]? with
  |some f=>decide (f.offset=off)&&decide (f.type=u)
  |none=>false
 |_=>false
section
variable {H:Type} {enc:TypeId×Value→H} {P:Program} {W:World} {b0:Nat} {sp:Nat→Bool} {held:Bool}
theorem qo {t u:TypeId} {i off:Nat} (hf:fieldAt P t i off u=true) {fuel:Nat} {cs:List Value} {x:DataW H×List MemPlace} (h:DataW.trod enc P W b0 sp held fuel t cs=some x):
  cs.length=P.cellsOf t∧∃n y,DataW.trod enc P W b0 sp held n u ((cs.drop off).take (P.cellsOf u))=some y:=by
 unfold fieldAt at hf
 split at hf
 ·rename_i fs hu
  split at hf
  ·rename_i f hfi
   simp only [Bool.and_eq_true,decide_eq_true_eq] at hf
   obtain ⟨xs,n,_,_,hl,hx,he⟩:=DataW.trod_struct hu h
   refine ⟨hl,n,?_⟩
   have h5:=he i f hfi
   have hi:i<fs.size:=(Array.getElem?_eq_some_iff.1 hfi).1
   rw [List.getElem?_eq_getElem om,hf.1,hf.2] at h5
   exact ⟨_,h5⟩
  ·cases hf
 ·cases hf
end
section
variable {H:Type} {enc:TypeId×Value→H} {W:World} {b0:Nat} {v:Value} {d:DataW H} {p:List MemPlace}
theorem qwn:Tryz.prog.underlying 83=some (.slice 73):=by kernel_rfl
set_option maxRecDepth 100000 in
theorem qrl {fuel:Nat} {cs:List Value} {x:DataW H×List MemPlace} (hf:DataW.trod enc Tryz.prog W 0 (fun _=>true) true fuel 83 cs=some x):
  ∃(A:Option Addr) (n c:Nat) (l:List Ev),cs=[.slice A n c]∧n≤c∧c≤maxLen∧(∀x∈l,x.Ok)∧Rd W W.heap.size 11 A n (l.flatMap eF):=by
 obtain ⟨A,n,c,css,hcs,h1,h2,_,h3,h4⟩:=qmu qwn qyy de hf
 obtain ⟨l,h5,h6⟩:=qk0 css h3
 exact ⟨A,n,c,l,hcs,h1,h2,h6,by rw [h5];exact h4⟩
theorem qv {cs:List Value} {off:Nat} {u:Value} (h:(cs.drop off).take 1=[u]):cs[off]?=some u:=by
 have:=congrArg (·[0]?) h
 simpa [List.getElem?_take,List.getElem?_drop] using this
theorem qyz:Tryz.prog.cellsOf 83=1:=by kernel_rfl
theorem KS:Tryz.prog.cellsOf 3=1:=by kernel_rfl
end
end Go.Proofs.YtekiimhdnigmcaaGreatDoor
