/- A part of the proof. -/
import Derived.Test.YtcajpeiobkcliaaGreatDoorQiRnd1
namespace Go.Proofs.YtcajpeiobkcliaaGreatDoor
open Go.RowKit
section
variable {P:Program} {ops:Array Oper} {Q:Exit→Act→World→Prop} {a:Act} {w W:World} {n i:Nat} {K:Act→World→Prop} {md:Region.Mode}
def allB:Nat→List (List Bool)
 |0=>[[]]
 |n+1=>(allB n).flatMap fun l=>[true::l,false::l]
theorem qps:∀(l:List Bool),l∈allB l.length
 |[]=>by simp [allB]
 |b::l=>by
  rw [List.length_cons,allB,List.mem_flatMap]
  exact ⟨l,qps l,by cases b<;>simp⟩
def qke (md:Region.Mode) (ops:Array Oper) (l:List Bool):Bool:=(List.range l.length).all fun k=> !l.getD k false||((ops[k]?).map (·.after.all fun e=> !Region.binds md e||l.getD e.on false)).getD false
def preOk (md:Region.Mode) (ops:Array Oper) (i:Nat):Bool:=
 ((allB i).all fun l=> !qke md ops l||(((Region.ready md (ops.toList.take i).toArray l.toArray).all fun j=>qke md ops (l.set j true))&& (((Region.ready md (ops.toList.take i).toArray l.toArray).isEmpty==l.all id)&& (l.all id||(Region.ready md ops (l++List.replicate (ops.size-i) false).toArray==Region.ready md (ops.toList.take i).toArray l.toArray)))))
 && (qke md ops (List.replicate i false)&& (((List.range (ops.size-i)).all fun j=>Region.ready md ops (List.replicate (i+j) true++List.replicate (ops.size-i-j) false).toArray==[i+j])
 && ((Region.ready md ops (List.replicate ops.size true).toArray).isEmpty&& (decide (i≤ops.size)&& ((ops.toList.take i).all fun o=>o.guard.isNone)))))
theorem q3i (j d:Nat):(List.replicate j true++List.replicate (d+1) false).toArray.setIfInBounds j true=(List.replicate (j+1) true++List.replicate d false).toArray:=by
 rw [List.setIfInBounds_toArray]
 congr 1
 rw [List.set_append_right _ _ (by simp),List.length_replicate,Nat.sub_self,List.replicate_succ,List.set_cons_zero,List.replicate_succ',List.append_assoc]
 rfl
theorem qzg {F:Fence} (h1:∀j,i≤j→j<ops.size→Region.ready md ops (List.replicate j true++List.replicate (ops.size-j) false).toArray=[j]) (h2:Region.ready md ops (List.replicate ops.size true).toArray=[]):
  ∀(d j:Nat),j+d=ops.size→i≤j→∀a w,wpListIn F n P ops Q (ops.toList.drop j) a w→wpAnyIn F n P md ops Q d (List.replicate j true++List.replicate d false).toArray a w
 |0,j,hj,_,a,w,h=>by
  obtain rfl:j=ops.size:=by omega
  rw [List.drop_of_length_le (by simp)] at h
  refine ⟨?_,h⟩
  rw [List.replicate_zero,List.append_nil]
  exact h2
 | d + 1, j, hj, hi, a, w, h => by
  have hlt:j<ops.size:=by omega
  have hr:=h1 j hi hlt
  rw [show ops.size-j=d+1 by omega] at hr
  refine ⟨fun h0=>(by rw [hr] at h0;cases h0),fun q hq=>?_⟩
  rw [hr,List.mem_singleton] at hq
  subst hq
  rw [List.drop_eq_getElem_cons (by simpa using hlt)] at h
  have hk:=qzg (F:=F) h1 h2 d (q+1) om om
  rw [q3i]
  unfold wpOpIn
  rw [Array.getElem?_eq_getElem hlt]
  unfold wpListIn at h
  simp only [Array.getElem_toList] at h⊢
  split at h
  ·rename_i hw
   rw [if_pos hw]
   exact Oper.wpIn_mono hk h
  ·rename_i hw
   rw [if_neg hw]
   exact ⟨h.1,hk _ _ h.2⟩
theorem ql7:∀{l:List Bool} {j:Nat},l[j]?=some false→(l.set j true).count false+1=l.count false
 |[],_,h=>by simp at h
 |b::l,0,h=>by
  simp at h
  subst h
  simp
 |b::l,j+1,h=>by
  have:=ql7 (l:=l) (j:=j) (by simpa using h)
  rw [List.set_cons_succ,List.count_cons,List.count_cons]
  omega
theorem ql8 {l:List Bool}:l.count false=0↔l.all id=true:=by
 rw [List.count_eq_zero,List.all_eq_true]
 constructor
 ·intro h x hx
  cases x with
  |true=>rfl
  |false=>exact absurd hx h
 ·intro h hx
  have:=h _ hx
  cases this
theorem q3j (hp:preOk md ops i=true) (hQ:¬LetsOut Q) (hK:∀a w,K a w→wpListIn Fence.wide 0 P ops Q (ops.toList.drop i) a w):
  ∀(fuel:Nat) (l:List Bool),l.length=i→l.count false=fuel→qke md ops l=true→∀a w,wpAny P md (ops.toList.take i).toArray (Exit.then K Q) fuel l.toArray a w→wpAnyIn Fence.wide 0 P md ops Q (fuel+(ops.size-i)) (l++List.replicate (ops.size-i) false).toArray a w:=by
 unfold preOk at hp
 simp only [Bool.and_eq_true,decide_eq_true_eq] at hp
 obtain ⟨hA,_,hB,hC,hi,hg⟩:=hp
 have hlen:(ops.toList.take i).length=i:=by rw [List.length_take];simp;omega
 have hT:=qzg (P:=P) (Q:=Q) (F:=Fence.wide) (n:=0) (md:=md) (ops:=ops) (i:=i) (fun j h1 h2=>by
  have h3:=List.all_eq_true.1 hB (j-i) (List.mem_range.2 om)
  rw [show i+(j-i)=j by omega,show ops.size-i- (j-i)=ops.size-j by omega] at h3
  exact eq_of_beq h3) (List.isEmpty_iff.1 hC)
 intro fuel
 induction fuel with
 |zero=>
  intro l hl hc hcl a w h
  have ha:=ql8.1 hc
  have he:l=List.replicate i true:=List.eq_replicate_iff.2 ⟨hl,fun b hb=>List.all_eq_true.1 ha b hb⟩
  subst he
  rw [Nat.zero_add]
  exact hT _ _ om (Nat.le_refl _) _ _ (hK _ _ h.2)
 | succ fuel ih =>
  intro l hl hc hcl a w h
  have h3:=List.all_eq_true.1 hA l (by rw [←hl];exact qps l)
  rw [hcl,Bool.not_true,Bool.false_or,Bool.and_eq_true] at h3
  have hcj:=h3.1
  replace h3:=h3.2
  have hna:l.all id=false:=by
   cases hx:l.all id with
   |false=>rfl
   |true=>rw [ql8.2 hx] at hc;omega
  rw [hna,Bool.false_or,Bool.and_eq_true] at h3
  have hr:=eq_of_beq h3.2
  have hne:=eq_of_beq h3.1
  rw [Nat.succ_add]
  refine ⟨fun h0=>(by rw [hr] at h0;rw [h0] at hne;cases hne),fun j hj=>?_⟩
  rw [hr] at hj
  have h4:=h.2 j hj
  have hcj:=List.all_eq_true.1 hcj j hj
  obtain ⟨hjf,o,ho,_⟩:=mem_ready.1 hj
  have hjl:j<i:=by
   have:=(Array.getElem?_eq_some_iff.1 ho).1
   simpa [hlen] using this
  have hlj:l[j]?=some false:=by
   have:l.toArray.getD j true=false:=hjf
   rw [Array.getD_eq_getD_getElem?,List.getElem?_toArray,List.getElem?_eq_getElem om] at this
   rw [List.getElem?_eq_getElem om]
   exact congrArg some this
  have ho2:ops[j]?=some o:=by
   rw [List.getElem?_toArray,List.getElem?_take,if_pos hjl,Array.getElem?_toList] at ho
   exact ho
  have hgo:o.guard=none:=by
   have hm:o∈ops.toList.take i:=by
    rw [List.getElem?_toArray] at ho
    exact List.mem_of_getElem? ho
   have:=List.all_eq_true.1 hg o hm
   simpa using this
  have e1:l.toArray.setIfInBounds j true=(l.set j true).toArray:=List.setIfInBounds_toArray ..
  have e2:(l++List.replicate (ops.size-i) false).toArray.setIfInBounds j true=(l.set j true++List.replicate (ops.size-i) false).toArray:=by
   rw [List.setIfInBounds_toArray,List.set_append_left _ _ om]
  rw [e1] at h4
  rw [e2]
  have hk:=ih (l.set j true) (by rw [List.length_set];exact hl) (by have:=ql7 hlj;omega) hcj
  have hw:∀x,Region.wanted o x=true:=fun x=>by unfold Region.wanted;rw [hgo]
  unfold wpOp at h4
  rw [ho] at h4
  simp only [hw,if_true] at h4
  unfold wpOpIn
  rw [ho2]
  simp only [hw,if_true]
  have h5:=qjd (Q:=Exit.then K Q) (fun ⟨a,w,h⟩=>hQ ⟨a,w,h⟩) hk h4
  refine ⟨h5.1,?_⟩
  have h3:=h5.2
  generalize (o.semAt Fence.wide.round a.eval).run P w=r at h3
  cases r with
  | ok x w' =>
   cases x with
   |enter f args=>
    refine ⟨h3.1,h3.2.mono ?_⟩
    intro e w'' he
    cases e with
    |returned v=>exact he
    |panicked c=>exact he
    |outgrown=>exact he
   |round l f tmps assign body=>
    refine ⟨h3.1,h3.2.mono ?_⟩
    intro e w'' he
    cases e with
    |returned v=>exact he
    |panicked c=>exact he
    |outgrown=>exact he
   |_=>exact h3
  |halt hh w'=>
   cases hh with
   |panic v=>exact h3
   |_=>exact h3
def qnz (P:Program) (ops:Array Oper) (Q:Exit→Act→World→Prop) (i:Nat) (a:Act) (w:World):Prop:=∃o,ops[i]?=some o∧o.guard=none∧o.wpIn Fence.wide 0 P a w (wpListIn Fence.wide 0 P ops Q (ops.toList.drop (i+1))) Q
theorem qvm {id:Nat} (i:Nat) (S:World→Prop) (ex:List Nat) (h:qh P .any (ops.toList.take i).toArray (Exit.then (qnz P ops Q i) Q) S ex i (Array.replicate i false) a w.drew)
  (hm:P.follows .mixedOrders=true:=by kernel_rfl) (hp:preOk .any ops i=true:=by kernel_rfl) (hQ:¬LetsOut Q:=by intro ⟨_,_,h⟩;obtain ⟨_,h,_⟩:=h;cases h):(Code.region id ops true).wp P Q a w:=by
 refine wpIn_wide.1 (wpIn_region_any (n:=0) hm ?_)
 have h1:=q3j (P:=P) (Q:=Q) (K:=qnz P ops Q i) hp hQ (fun a w ⟨o,ho,hn,h⟩=>by
  obtain ⟨hl,he⟩:=Array.getElem?_eq_some_iff.1 ho
  rw [List.drop_eq_getElem_cons (by simpa using hl),Array.getElem_toList,he]
  unfold wpListIn
  rw [if_pos (by unfold Region.wanted;rw [hn])]
  exact h) i (List.replicate i false) (by simp) (by simp) (by unfold preOk at hp;simp only [Bool.and_eq_true] at hp;exact hp.2.1) a w.drew (qa9 _ _ _ _ (by rw [List.toArray_replicate];exact h))
 unfold preOk at hp
 simp only [Bool.and_eq_true,decide_eq_true_eq] at hp
 obtain ⟨_,_,_,_,hi,_⟩:=hp
 rw [show i+(ops.size-i)=ops.size by omega,List.replicate_append_replicate,show i+(ops.size-i)=ops.size by omega,List.toArray_replicate] at h1
 exact h1
theorem qcy {id:Nat} (i:Nat) {fs:List Fact} (I:Mem W w fs) (fs':List Fact) (m:Nat) (is ex:List Nat) (h:Mem W w.drew fs→Mem W w.drew fs'→qh P .any (ops.toList.take i).toArray (Exit.then (qnz P ops Q i) Q) (fun wS=>Mem W wS fs') ex i (Array.replicate i false) a w.drew)
  (hn:is.Nodup:=by decide) (hlt:(is.all (· <m))=true:=by decide) (he:picks fs is++fs.drop m=fs':=by rfl) (hm:P.follows .mixedOrders=true:=by kernel_rfl) (hp:preOk .any ops i=true:=by kernel_rfl) (hQ:¬LetsOut Q:=by intro ⟨_,_,h⟩;obtain ⟨_,h,_⟩:=h;cases h):(Code.region id ops true).wp P Q a w:=
 qvm i _ ex (h I.drew (I.drew.qv2 m is hn hlt he)) hm hp hQ
end
end Go.Proofs.YtcajpeiobkcliaaGreatDoor
