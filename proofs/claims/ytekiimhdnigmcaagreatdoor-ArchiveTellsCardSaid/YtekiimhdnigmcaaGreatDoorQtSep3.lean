/- A part of the proof. -/
import Derived.Test.YtekiimhdnigmcaaGreatDoorQtSep2
namespace Go.Proofs.YtekiimhdnigmcaaGreatDoor
open Go.RowKit
def qk (P:Program) (ops:Array Oper) (Q:Exit→Act→World→Prop) (i:Nat) (a:Act) (w:World):Prop:=wpList P ops Q (ops.toList.drop i) a w
def Yl (P:Program) (S:World→Prop) (σ:List (Nat×Value)) (o:Oper) (v:Value):Prop:=∀(a:Act) (n:Nat) (D:List Deferred),Fr a n D σ→∀w,S w→(execOp a.eval o).run P w= .ok (.value v) w
section
variable {P:Program} {ops:Array Oper} {Q:Exit→Act→World→Prop} {a:Act} {w:World} {n i j d fuel:Nat} {D:List Deferred} {σ σ':List (Nat×Value)} {o:Oper} {v:Value} {md:Region.Mode} {S:World→Prop} {K:Act→World→Prop} {listed:Array Bool}
theorem zg {id:Nat} (h:qk P ops Q 0 a w):(Code.region id ops false).wp P Q a w:=wp_region_list (by simpa [qk] using h)
theorem Dh (hi:ops.size=i) (h:Q .normal a w):qk P ops Q i a w:=by
 unfold qk
 rw [List.drop_of_length_le (by simp [hi])]
 exact h
theorem MI (Z:Fr a n D σ) (ho:ops[i]?=some o) (hw:dL ops σ o=some true) (h:o.wp P a w (qk P ops Q (i+1)) Q):qk P ops Q i a w:=by
 obtain ⟨hl,he⟩:=Array.getElem?_eq_some_iff.1 ho
 unfold qk
 rw [List.drop_eq_getElem_cons (by simpa using hl),Array.getElem_toList,he]
 unfold wpList
 rw [if_pos (qc6 Z hw)]
 exact .inl h
theorem qy0 (Z:Fr a n D σ) (ho:ops[i]?=some o) (hw:dL ops σ o=some false) (hd:o.dst=some d) (hdn:d<n) (k:∀a',Fr a' n D ((d,undef)::σ)→qk P ops Q (i+1) a' w):qk P ops Q i a w:=by
 obtain ⟨hl,he⟩:=Array.getElem?_eq_some_iff.1 ho
 unfold qk
 rw [List.drop_eq_getElem_cons (by simpa using hl),Array.getElem_toList,he]
 unfold wpList
 rw [if_neg (by rw [qc6 Z hw];simp),hd]
 exact k _ (Z.put hdn _)
theorem Yl.wp (hy:Yl P S σ o v) (Z:Fr a n D σ) (hS:S w) (hd:o.dst=some d) (hdn:d<n) (k:∀a',Fr a' n D ((d,v)::σ)→K a' w):o.wp P a w K Q:=by
 unfold Oper.wp
 rw [hy a n D Z w hS,Oper.upon_value,hd]
 exact k _ (Z.put hdn _)
theorem Sm (Z:Fr a n D σ) (hS:S w) (ho:ops[i]?=some o) (hw:dL ops σ o=some true) (hd:o.dst=some d) (hdn:d<n) (hy:Yl P S σ o v) (k:∀a',Fr a' n D ((d,v)::σ)→qk P ops Q (i+1) a' w):qk P ops Q i a w:=
 MI Z ho hw (hy.wp Z hS hd hdn k)
theorem Yl.pure (h:xM P σ o.op=some v):Yl P S σ o v:=fun _ _ _ Z w _=>qi5 Z h w
def EU (P:Program) (ops:Array Oper) (n i:Nat) (σ:List (Nat×Value)):Option (List (Nat×Value)):=
 match ops[i]? with
 |none=>none
 | some o => match dL ops σ o, o.dst with
  |some true,some d=>if d<n then match xM P σ o.op with
   |some v=>some ((d,v)::σ)
   |none=>none else none
  |some false,some d=>if d<n then some ((d,undef)::σ) else none
  |_,_=>none
def CF (P:Program) (ops:Array Oper) (n:Nat):Nat→Nat→List (Nat×Value)→Option (List (Nat×Value))
 |0,_,σ=>some σ
 |m+1,i,σ=>match EU P ops n i σ with
  |none=>none
  |some σ'=>CF P ops n m (i+1) σ'
theorem Vr:∀(m i:Nat) {j:Nat} {a:Act} {σ:List (Nat×Value)},Fr a n D σ→CF P ops n m i σ=some σ'→i+m=j→(∀a',Fr a' n D σ'→qk P ops Q j a' w)→qk P ops Q i a w
 |0,i,j,a,σ,Z,h,hj,k=>by
  injection h with h
  subst h
  have e:i=j:=hj
  subst e
  exact k a Z
 | m + 1, i, j, a, σ, Z, h, hj, k => by
  unfold CF at h
  split at h
  ·cases h
  ·rename_i σ1 h1
   have rest:=fun a' zB=>Vr m (i+1) (a:=a') (σ:=σ1) zB h om k
   unfold EU at h1
   split at h1
   ·cases h1
   ·rename_i o ho
    split at h1
    ·rename_i d hw hd
     split at h1
     ·rename_i hdn
      split at h1
      ·rename_i v hv
       injection h1 with h1
       subst h1
       exact Sm (S:=fun _=>True) Z trivial ho hw hd hdn (Yl.pure hv) rest
      ·cases h1
     ·cases h1
    ·rename_i d hw hd
     split at h1
     ·rename_i hdn
      injection h1 with h1
      subst h1
      exact qy0 Z ho hw hd hdn rest
     ·cases h1
    ·cases h1
theorem Fr.sp {v:Value} (h:Fr a n D σ) (t:Nat) (u:Value) (hl:σ.lookup t=some v) (e:v=u):Fr a n D ((t,u)::σ):=by
 subst e
 refine ⟨h.size,h.defers,fun s x hx=>?_⟩
 rw [List.lookup_cons] at hx
 split at hx
 ·rename_i hs
  rw [beq_iff_eq] at hs
  subst hs
  injection hx with hx
  subst hx
  exact h.slot _ _ hl
 ·exact h.slot _ _ hx
theorem Fr.to (h:Fr a n D σ) (σ':List (Nat×Value)) (hs:σ'.map (fun p=>σ.lookup p.1)=σ'.map (fun p=>some p.2):=by kernel_rfl):Fr a n D σ':=h.sub hs
theorem Fr.on {b c:Bool} (h:Fr a n D σ) (t:Nat) (hb:b=c) (hl:σ.lookup t=some (.bool b):=by rfl):Fr a n D ((t,.bool c)::σ):=by
 subst hb
 refine ⟨h.size,h.defers,fun s x hx=>?_⟩
 rw [List.lookup_cons] at hx
 split at hx
 ·rename_i hs
  rw [beq_iff_eq] at hs
  subst hs
  injection hx with hx
  subst hx
  exact h.slot _ _ hl
 ·exact h.slot _ _ hx
theorem Fr.tf {b:Bool} (h:Fr a n D σ) (t:Nat) (hl:σ.lookup t=some (.bool b)):(b=true∧Fr a n D ((t,.bool true)::σ))∨(b=false∧Fr a n D ((t,.bool false)::σ)):=by
 cases b
 ·exact .inr ⟨rfl,h.on t rfl hl⟩
 ·exact .inl ⟨rfl,h.on t rfl hl⟩
theorem qh4 {i:Nat} {s:List (Nat×Value)} (h:EU P ops n i σ=some s):∃p,s=p::σ:=by
 unfold EU at h
 split at h
 ·cases h
 ·split at h
  ·split at h
   ·split at h
    ·injection h with h;exact ⟨_,h.symm⟩
    ·cases h
   ·cases h
  ·split at h
   ·injection h with h;exact ⟨_,h.symm⟩
   ·cases h
  ·cases h
theorem qf0:∀(m i:Nat) {σ s:List (Nat×Value)},CF P ops n m i σ=some s→∃full,s=full++σ
 |0,_,σ,s,h=>by injection h with h;exact ⟨[],h.symm⟩
 | m + 1, i, σ, s, h => by
  cases h1:EU P ops n i σ with
  |none=>rw [CF,h1] at h;cases h
  |some s1=>
   rw [CF,h1] at h
   obtain ⟨p,rfl⟩:=qh4 h1
   obtain ⟨full,hf⟩:=qf0 m (i+1) h
   exact ⟨full++[p],by rw [hf];simp⟩
def thin (s σ new:List (Nat×Value)):Bool:=(s.take (s.length-σ.length)).all fun p=>(new.any fun q=>q.1==p.1)|| !(σ.any fun q=>q.1==p.1)
theorem MJ {t:Nat}:∀{l m:List (Nat×Value)},(l++m).lookup t=match l.lookup t with|some v=>some v|none=>m.lookup t
 |[],m=>rfl
 |q::l,m=>by
  rw [List.cons_append,List.lookup_cons,List.lookup_cons]
  split
  ·rfl
  ·exact MJ
theorem MK {t:Nat} {v:Value}:∀{l:List (Nat×Value)},l.lookup t=some v→(l.any fun q=>q.1==t)=true
 |[],h=>by cases h
 | q :: l, h => by
  rw [List.lookup_cons] at h
  split at h
  ·rename_i hb
   rw [beq_iff_eq] at hb
   simp [hb]
  ·simp only [List.any_cons,Bool.or_eq_true]
   exact .inr (MK h)
theorem Sn {t:Nat} {l:List (Nat×Value)} (h:(l.any fun q=>q.1==t)=true):∃p∈l,p.1=t:=by
 rw [List.any_eq_true] at h
 obtain ⟨p,h1,h2⟩:=h
 exact ⟨p,h1,by simpa using h2⟩
theorem Fr.thin {s full new:List (Nat×Value)} (h:Fr a n D s) (hs:s=full++σ) (ht:Go.Proofs.YtekiimhdnigmcaaGreatDoor.thin s σ new=true) (hn:new.map (fun p=>s.lookup p.1)=new.map (fun p=>some p.2)):Fr a n D (new++σ):=by
 have h1:=h.sub hn
 refine ⟨h.size,h.defers,fun t v hv=>?_⟩
 rw [MJ] at hv
 cases hl:new.lookup t with
 |some u=>
  rw [hl] at hv
  injection hv with hv
  subst hv
  exact h1.slot t u hl
 | none =>
  rw [hl] at hv
  have hv:σ.lookup t=some v:=hv
  refine h.slot t v ?_
  rw [hs,MJ]
  cases hf:full.lookup t with
  |none=>exact hv
  | some u =>
   exfalso
   unfold Go.Proofs.YtekiimhdnigmcaaGreatDoor.thin at ht
   have hlen:s.take (s.length-σ.length)=full:=by rw [hs,List.length_append,Nat.add_sub_cancel];exact List.take_left
   rw [hlen,List.all_eq_true] at ht
   obtain ⟨p,hp1,hp2⟩:=Sn (MK hf)
   have:=ht p hp1
   rw [hp2,MK hv] at this
   simp only [Bool.not_true,Bool.or_false] at this
   obtain ⟨q,hq1,hq2⟩:=Sn this
   have h3:new.lookup t≠none:=by
    intro h4
    have h5:∀(l:List (Nat×Value)),q∈l→l.lookup t≠none:=by
     intro l
     induction l with
     |nil=>intro h6;cases h6
     | cons r l ih =>
      intro h6
      rw [List.lookup_cons]
      split
      ·simp
      ·rename_i hb
       rcases List.mem_cons.1 h6 with rfl|h6
       ·exfalso;rw [hq2] at hb;simp at hb
       ·exact ih h6
    exact h5 new hq1 h4
   exact h3 hl
theorem fp (Z:Fr a n D σ) (m i:Nat) (new:List (Nat×Value)) (k:∀a',Fr a' n D (new++σ)→qk P ops Q (i+m) a' w) (h:(CF P ops n m i σ).map (fun s=>(thin s σ new,new.map fun p=>s.lookup p.1))=some (true,new.map fun p=>some p.2):=by kernel_rfl):qk P ops Q i a w:=by
 cases hs:CF P ops n m i σ with
 |none=>rw [hs] at h;cases h
 |some s=>
  rw [hs] at h
  injection h with h
  injection h with h1 h2
  obtain ⟨full,hf⟩:=qf0 m i hs
  exact Vr m i Z hs rfl fun a' zB=>k a' (zB.thin hf h1 h2)
theorem fo (Z:Fr a n D σ) (i:Nat) (ho:ops[i]?=some o) (hw:dL ops σ o=some true) (h:o.wp P a w (qk P ops Q (i+1)) Q):qk P ops Q i a w:=MI Z ho hw h
theorem fy {W:World} {fs:List Fact} (Z:Fr a n D σ) (E:Mem W w fs) (i:Nat) (ho:ops[i]?=some o) (hw:dL ops σ o=some true) (hd:o.dst=some d) (hy:Yl P (fun wS=>Mem W wS fs) σ o v) (k:∀a',Fr a' n D ((d,v)::σ)→qk P ops Q (i+1) a' w) (hdn:d<n:=by decide):qk P ops Q i a w:=
 Sm (S:=fun wS=>Mem W wS fs) Z E ho hw hd hdn hy k
def dM (ex:List Nat) (listed:Array Bool):Bool:=ex.any fun j=>listed.getD j false
def qp (P:Program) (md:Region.Mode) (ops:Array Oper) (Q:Exit→Act→World→Prop) (S:World→Prop) (ex:List Nat):Nat→Array Bool→Act→World→Prop
 |0,listed,a,w=>Region.ready md ops listed=[]∧Q .normal a w
 |fuel+1,listed,a,w=>
  (Region.ready md ops listed=[]→Q .normal a w)∧
  ∀i∈Region.ready md ops listed,wpOp P ops Q i (fun a' w'=>(dM ex (listed.setIfInBounds i true)=false→S w')∧qp P md ops Q S ex fuel (listed.setIfInBounds i true) a' w') a w
theorem Vt {ex:List Nat}:∀(fuel:Nat) (listed:Array Bool) (a:Act) (w:World),qp P md ops Q S ex fuel listed a w→wpAny P md ops Q fuel listed a w
 |0,_,_,_,h=>h
 |fuel+1,_,_,_,h=>⟨h.1,fun i hi=>wpOp_mono (fun a' w' h'=>Vt fuel _ a' w' h'.2) (h.2 i hi)⟩
def GZ (md:Region.Mode) (ops:Array Oper) (ex:List Nat) (i:Nat):Bool:=ex.all fun j=>match ops[j]? with
 |some o=>o.after.any fun e=>Region.binds md e&&e.on==i
 |none=>true
theorem qot {ex:List Nat} {l:Array Bool} {i:Nat} (h:ex.contains i=false):dM ex (l.setIfInBounds i true)=dM ex l:=by
 unfold dM
 rw [Bool.eq_iff_iff,List.any_eq_true,List.any_eq_true]
 have hne:∀j∈ex,i≠j:=fun j hj e=>by
  subst e
  have:ex.contains i=true:=by simpa using hj
  rw [h] at this;cases this
 constructor
 ·rintro ⟨j,hj,hl⟩;exact ⟨j,hj,by rwa [getD_set_ne false (hne j hj)] at hl⟩
 ·rintro ⟨j,hj,hl⟩;exact ⟨j,hj,by rwa [getD_set_ne false (hne j hj)]⟩
theorem Vv {ex:List Nat} {l:Array Bool} {i:Nat} (h:dM ex (l.setIfInBounds i true)=false):dM ex l=false:=by
 cases hp:dM ex l with
 |false=>rfl
 |true=>
  unfold dM at h hp
  obtain ⟨j,hj,hl⟩:=List.any_eq_true.1 hp
  rw [List.any_eq_false] at h
  exact absurd (getD_set_true (i:=i) hl) (h j hj)
theorem Vz {ex:List Nat} {oi:Oper} {T:World→Prop} (hi:ops[i]?=some oi) (hsel:∀(j:Nat) (o:Oper) cs b,ops[j]?=some o→o.op≠ .select cs b)
  (hQ:∀c (a:Act) w,Q (.panic c) (a.put oi.dst v) w→Q (.panic c) a w) (VB:ex.contains i=false):
  ∀(fuel:Nat) (listed:Array Bool) (a:Act) (w:World),((∀w,T w)∨(T=S∧GZ md ops ex i=true∧dM ex listed=false))→
   (∀j oj,ops[j]?=some oj→j≠i→listed.getD j true=false→(∀e∈oj.after,Region.binds md e=true→e.on≠i)→oi.apart ops oj=true)→
   i∈Region.ready md ops listed→YieldsIf P ops T oi v a→(dM ex listed=false→S w)→
   qp P md ops Q S ex fuel (listed.setIfInBounds i true) (a.put oi.dst v) w→qp P md ops Q S ex (fuel+1) listed a w:=by
 intro fuel
 induction fuel with
 | zero =>
  intro listed a w hx _ hr hy hS H
  have hT:T w:=by rcases hx with h|⟨h,_,hp⟩<;>first|exact h w|(rw [h];exact hS hp)
  refine ⟨fun h=>(by rw [h] at hr;cases hr),fun j hj=>?_⟩
  by_cases hji:j=i
  ·subst hji;exact hy.wpOp hi hT ⟨fun hp=>hS (Vv hp),H⟩
  ·have:=ready_mono hj hji
   rw [H.1] at this
   cases this
 | succ fuel ih =>
  intro listed a w hx hfree hr hy hS H
  have hT:T w:=by rcases hx with h|⟨h,_,hp⟩<;>first|exact h w|(rw [h];exact hS hp)
  refine ⟨fun h=>(by rw [h] at hr;cases hr),fun j hj=>?_⟩
  by_cases hji:j=i
  ·subst hji;exact hy.wpOp hi hT ⟨fun hp=>hS (Vv hp),H⟩
  ·have h1:=H.2 j (ready_mono hj hji)
   obtain ⟨hjun,oj,hoj,hall⟩:=mem_ready.1 hj
   have hnot:∀e∈oj.after,Region.binds md e=true→e.on≠i:=fun e he hb heq=>by
    have h1:=hall e he hb
    have h0:=(mem_ready.1 hr).1
    rw [heq] at h1
    rcases Nat.lt_or_ge i listed.size with h'|h'
    ·simp [h'] at h0 h1;rw [h0] at h1;cases h1
    ·simp [Array.getElem?_eq_none h'] at h1
   have hx':(∀w,T w)∨(T=S∧GZ md ops ex i=true∧dM ex (listed.setIfInBounds j true)=false):=by
    rcases hx with h|⟨h,h2,h3⟩
    ·exact .inl h
    ·refine .inr ⟨h,h2,?_⟩
     rw [qot ?_]
     ·exact h3
     ·cases hc:ex.contains j with
      |false=>rfl
      |true=>
       have hm:j∈ex:=by simpa using hc
       have h2:=List.all_eq_true.1 h2 j hm
       rw [hoj] at h2
       obtain ⟨e,he,hb⟩:=Array.any_eq_true'.1 h2
       rw [Bool.and_eq_true,beq_iff_eq] at hb
       exact absurd hb.2 (hnot e he hb.1)
   have h2:=wpOp_putIf hoj (hfree j oj hoj hji hjun hnot) (fun cs b=>hsel i oi cs b hi) (fun cs b=>hsel j oj cs b hoj) hQ hy h1
   have hfree':∀k ok,ops[k]?=some ok→k≠i→(listed.setIfInBounds j true).getD k true=false→
     (∀e∈ok.after,Region.binds md e=true→e.on≠i)→oi.apart ops ok=true:=fun k ok hk hki hun hno=>by
    refine hfree k ok hk hki ?_ hno
    by_cases hjk:j=k
    ·subst hjk;exact hjun
    ·rw [getD_set_ne true hjk] at hun;exact hun
   refine wpOp_mono (fun a' w' h3=>?_) h2
   have hS':dM ex (listed.setIfInBounds j true)=false→S w':=fun hp=>h3.2.1 (by rw [Array.setIfInBounds_comm _ _ (Ne.symm hji),qot VB];exact hp)
   refine ⟨hS',ih (listed.setIfInBounds j true) a' w' hx' hfree' (ready_mono hr (Ne.symm hji)) h3.1 hS' ?_⟩
   rw [Array.setIfInBounds_comm _ _ hji]
   exact h3.2.2
section
variable {ex:List Nat}
theorem qou {id:Nat} (hm:P.follows .mixedOrders=true) (S:World→Prop) (ex:List Nat) (h:qp P .any ops Q S ex ops.size (Array.replicate ops.size false) a w.drew):(Code.region id ops true).wp P Q a w:=
 wp_region_any hm (Vt _ _ _ _ h)
theorem zdb {id:Nat} {W:World} {fs:List Fact} (E:Mem W w fs) (fs':List Fact) (is ex:List Nat) (h:Mem W w.drew fs→Mem W w.drew fs'→qp P .any ops Q (fun wS=>Mem W wS fs') ex ops.size (Array.replicate ops.size false) a w.drew)
  (hm:P.follows .mixedOrders=true:=by kernel_rfl) (hn:is.Nodup:=by decide) (he:picks fs is=fs':=by rfl):(Code.region id ops true).wp P Q a w:=
 qou hm _ ex (h E.drew (E.drew.picks is hn he))
def Di (md:Region.Mode) (ops:Array Oper) (ex:List Nat) (listed:Array Bool) (i:Nat):Bool:=
 Region.noSelect ops&& (Region.free md ops listed i&& ((Region.ready md ops listed).contains i&& (!ex.contains i&& (GZ md ops ex i&& !dM ex listed))))
def sK (md:Region.Mode) (ops:Array Oper) (ex:List Nat) (listed:Array Bool) (i:Nat):Bool:=
 Region.noSelect ops&& (Region.free md ops listed i&& ((Region.ready md ops listed).contains i&& !ex.contains i))
theorem KT (Z:Fr a n D σ) (hS:S w) (ho:ops[i]?=some o) (hw:dL ops σ o=some true) (hd:o.dst=some d) (hdn:d<n) (hok:Di md ops ex listed i=true) (hQ:∀c (a:Act) w,Q (.panic c) (a.put o.dst v) w→Q (.panic c) a w) (hy:Yl P S σ o v)
  (k:∀a',Fr a' n D ((d,v)::σ)→qp P md ops Q S ex fuel (listed.setIfInBounds i true) a' w):qp P md ops Q S ex (fuel+1) listed a w:=by
 simp only [Di,Bool.and_eq_true,Bool.not_eq_true'] at hok
 obtain ⟨h1,h2,h3,h4,h5,h6⟩:=hok
 exact Vz (T:=S) ho (Region.noSelect_spec h1) hQ h4 fuel listed a w (.inr ⟨rfl,h5,h6⟩) (Region.free_spec ho h2) (by simpa using h3) (.inl ⟨qc6 Z hw,fun w hw=>hy a n D Z w hw⟩) (fun _=>hS) (by rw [hd];exact k _ (Z.put hdn _))
theorem yM (Z:Fr a n D σ) (hS:dM ex listed=false→S w) (ho:ops[i]?=some o) (hw:dL ops σ o=some true) (hd:o.dst=some d) (hdn:d<n) (hok:sK md ops ex listed i=true) (hQ:∀c (a:Act) w,Q (.panic c) (a.put o.dst v) w→Q (.panic c) a w) (hy:∀S',Yl P S' σ o v)
  (k:∀a',Fr a' n D ((d,v)::σ)→qp P md ops Q S ex fuel (listed.setIfInBounds i true) a' w):qp P md ops Q S ex (fuel+1) listed a w:=by
 simp only [sK,Bool.and_eq_true,Bool.not_eq_true'] at hok
 obtain ⟨h1,h2,h3,h4⟩:=hok
 exact Vz (T:=fun _=>True) ho (Region.noSelect_spec h1) hQ h4 fuel listed a w (.inl fun _=>trivial) (Region.free_spec ho h2) (by simpa using h3) (.inl ⟨qc6 Z hw,fun w _=>hy (fun _=>True) a n D Z w trivial⟩) hS (by rw [hd];exact k _ (Z.put hdn _))
theorem q42 (Z:Fr a n D σ) (hS:dM ex listed=false→S w) (ho:ops[i]?=some o) (hw:dL ops σ o=some false) (hd:o.dst=some d) (hdn:d<n) (hok:sK md ops ex listed i=true) (hQ:∀c (a:Act) w,Q (.panic c) (a.put o.dst undef) w→Q (.panic c) a w)
  (k:∀a',Fr a' n D ((d,undef)::σ)→qp P md ops Q S ex fuel (listed.setIfInBounds i true) a' w):qp P md ops Q S ex (fuel+1) listed a w:=by
 simp only [sK,Bool.and_eq_true,Bool.not_eq_true'] at hok
 obtain ⟨h1,h2,h3,h4⟩:=hok
 exact Vz (T:=fun _=>True) ho (Region.noSelect_spec h1) hQ h4 fuel listed a w (.inl fun _=>trivial) (Region.free_spec ho h2) (by simpa using h3) (.inr ⟨qc6 Z hw,rfl⟩) hS (by rw [hd];exact k _ (Z.put hdn _))
def Dj (P:Program) (md:Region.Mode) (ops:Array Oper) (n:Nat) (ex:List Nat):List Nat→Array Bool→List (Nat×Value)→Option (Array Bool×List (Nat×Value))
 |[],l,σ=>some (l,σ)
 | i :: is, l, σ => if sK md ops ex l i then match EU P ops n i σ with
   |some σ'=>Dj P md ops n ex is (l.setIfInBounds i true) σ'
   |none=>none
  else none
theorem Sq {listed' : Array Bool} (hQ : ∀ c (a : Act) d v w, Q (.panic c) (a.put d v) w → Q (.panic c) a w) :
  ∀(is:List Nat) {a:Act} {σ:List (Nat×Value)} {listed:Array Bool},Fr a n D σ→(dM ex listed=false→S w)→Dj P md ops n ex is listed σ=some (listed',σ')→(∀a',Fr a' n D σ'→qp P md ops Q S ex fuel listed' a' w)→qp P md ops Q S ex (fuel+is.length) listed a w
 |[],a,σ,listed,Z,_,h,k=>by
  injection h with h
  injection h with h1 h2
  subst h1;subst h2
  exact k a Z
 | i :: is, a, σ, listed, Z, hS, h, k => by
  unfold Dj at h
  split at h
  ·rename_i hc
   split at h
   ·rename_i σ1 h1
    have rest:=fun a' zB=>Sq hQ is (a:=a') (σ:=σ1) zB (fun hp=>hS (Vv hp)) h k
    unfold EU at h1
    split at h1
    ·cases h1
    ·rename_i o ho
     split at h1
     ·rename_i d hw hd
      split at h1
      ·rename_i hdn
       split at h1
       ·rename_i v hv
        injection h1 with h1
        subst h1
        exact yM Z hS ho hw hd hdn hc (fun c a w=>hQ c a _ _ w) (fun _=>Yl.pure hv) rest
       ·cases h1
      ·cases h1
     ·rename_i d hw hd
      split at h1
      ·rename_i hdn
       injection h1 with h1
       subst h1
       exact q42 Z hS ho hw hd hdn hc (fun c a w=>hQ c a _ _ w) rest
      ·cases h1
     ·cases h1
   ·cases h
  ·cases h
theorem VD:∀(is:List Nat) {l l':Array Bool} {σ s:List (Nat×Value)},Dj P md ops n ex is l σ=some (l',s)→∃full,s=full++σ
 |[],_,_,σ,s,h=>by injection h with h;injection h with _ h;exact ⟨[],h.symm⟩
 | i :: is, l, l', σ, s, h => by
  unfold Dj at h
  split at h
  ·split at h
   ·rename_i s1 h1
    obtain ⟨p,rfl⟩:=qh4 h1
    obtain ⟨full,hf⟩:=VD is h
    exact ⟨full++[p],by rw [hf];simp⟩
   ·cases h
  ·cases h
theorem ap (Z:Fr a n D σ) (hS:dM ex listed=false→S w) (is:List Nat) (listed':Array Bool) (new:List (Nat×Value)) (k:∀a',Fr a' n D (new++σ)→qp P md ops Q S ex fuel listed' a' w)
  (hQ:∀c (a:Act) d v w,Q (.panic c) (a.put d v) w→Q (.panic c) a w:=by intro _ _ d _ _ h;cases d<;>exact h) (h:(Dj P md ops n ex is listed σ).map (fun r=>(r.1,thin r.2 σ new,new.map fun p=>r.2.lookup p.1))=some (listed',true,new.map fun p=>some p.2):=by kernel_rfl):qp P md ops Q S ex (fuel+is.length) listed a w:=by
 cases hs:Dj P md ops n ex is listed σ with
 |none=>rw [hs] at h;cases h
 |some r=>
  obtain ⟨l2,s⟩:=r
  rw [hs] at h
  injection h with h
  injection h with h0 h1
  injection h1 with h1 h2
  simp only at h0
  subst h0
  obtain ⟨full,hf⟩:=VD is hs
  exact Sq hQ is Z hS hs fun a' zB=>k a' (zB.thin hf h1 h2)
theorem qg (hr:Region.ready md ops listed=[]) (h:Q .normal a w):qp P md ops Q S ex fuel listed a w:=by
 cases fuel with
 |zero=>exact ⟨hr,h⟩
 |succ f=>exact ⟨fun _=>h,by rw [hr];simp⟩
theorem all_nil {X:Nat→Prop}:∀i∈([]:List Nat),X i:=fun _ h=>by cases h
theorem all_cons {X:Nat→Prop} {r:List Nat} (h:X i) (t:∀i∈r,X i):∀j∈i::r,X j:=fun j hj=>by
 rcases List.mem_cons.1 hj with rfl|hj
 ·exact h
 ·exact t j hj
theorem zc (rs:List Nat) (hr:Region.ready md ops listed=rs) (hne:rs.isEmpty=false) (h:∀i∈rs,wpOp P ops Q i (fun a' w'=>(dM ex (listed.setIfInBounds i true)=false→S w')∧qp P md ops Q S ex fuel (listed.setIfInBounds i true) a' w') a w):qp P md ops Q S ex (fuel+1) listed a w:=
 ⟨fun e=>(by rw [hr] at e;subst e;cases hne),hr▸h⟩
theorem ze {f:Nat} {l:Array Bool} (J:Act→World→Prop) (h:∀a w,J a w→qp P md ops Q S ex f l a w) (k:(∀a w,J a w→qp P md ops Q S ex f l a w)→qp P md ops Q S ex fuel listed a w):qp P md ops Q S ex fuel listed a w:=k h
theorem jk {p:Prop} {l:Array Bool} (h:dM ex l=true):dM ex l=false→p:=fun e=>by rw [h] at e;cases e
theorem au {c p X:Prop} (h:p) (k:p→X):(c→p)∧X:=⟨fun _=>h,k h⟩
theorem lG {p X:Prop} {l:Array Bool} (h:dM ex l=true) (k:X):(dM ex l=false→p)∧X:=⟨fun e=>(by rw [h] at e;cases e),k⟩
theorem qq (Z:Fr a n D σ) (ho:ops[i]?=some o) (hw:dL ops σ o=some true) (h:o.wp P a w K Q):wpOp P ops Q i K a w:=by
 unfold wpOp
 rw [ho]
 simp only [qc6 Z hw,if_true]
 exact .inl h
end
def jl (P:Program) (t:TypeId):Bool:=match P.underlying t with
 |some (.struct _)=>false
 |some (.array _ _)=>false
 |some _=>true
 |none=>false
def Sr (P:Program) (t:TypeId):Option Nat:=match P.underlying t with
 |some (.slice e)=>(P.info? e).map (·.size)
 |_=>none
theorem Sv {t:TypeId} (h:jl P t=true) (w:World):(isAgg t).run P w= .ok false w:=by
 unfold jl at h
 cases hu:P.underlying t with
 |none=>rw [hu] at h;cases h
 |some d=>rw [hu] at h;simp only [isAgg,Sem.run_bind,run_underlying hu,Result.andThen_ok];cases d<;>first|rfl|cases h
theorem Yl.qj {t:TypeId} {x:Operand} {p:Addr} (hop:o.op= .load t x) (hx:look σ x=some (.pointer (some p))) (ht:jl P t=true) (hc:∀w,S w→w.cell? p=some v):Yl P S σ o v:=fun a n D Z w hS=>by
 unfold execOp
 simp [hop,Z.eval hx,Instr.loadAt,Instr.sureAddr,loadVar,Sv ht,load,Sem.run,hc w hS]
theorem Yl.qf {t:TypeId} {x:Operand} {b off m:Nat} {cs:Array Value} (hop:o.op= .load t x) (hx:look σ x=some (.pointer (some ⟨b,off,none⟩))) (si:SI P t m) (hm:cs.size=m) (hc:∀w,S w→w.rangeAt b off cs.toList):Yl P S σ o (.agg cs):=fun a n D Z w hS=>by
 obtain ⟨ds,hu,hd⟩:=si.desc
 have hl:=run_loadVar_mid (P:=P) w b off t cs.toList ds (hc w hS) hu hd (by rw [si.size,←hm];simp)
 unfold execOp
 simp [hop,Z.eval hx,Instr.loadAt,Instr.sureAddr,hl]
theorem Yl.indexAddr {t:TypeId} {x ix:Operand} {ad:Addr} {m c y sz:Nat} {k:IntKind} (hop:o.op= .indexAddr t x ix) (hx:look σ x=some (.slice (some ad) m c)) (hi:look σ ix=some (.int k (y:Int))) (hy:y<m) (he:Sr P t=some sz):Yl P S σ o (.pointer (some (ad.add (y*sz)))):=fun a n D Z w hS=>by
 unfold Sr at he
 split at he
 ·rename_i e hu
  obtain ⟨i,hi',rfl⟩:=Option.map_eq_some_iff.1 he
  unfold execOp
  have h1:¬m≤y:=by omega
  simp [hop,Z.eval hx,Z.eval hi,Instr.indexAt,asIntOf,run_underlying hu,hy,sizeOf,typeInfo,hi']
 ·cases he
def uU (P:Program) (t:TypeId):Bool:=match P.underlying t with
 |some (.slice _)=>true
 |_=>false
theorem Yl.len {x:Operand} {t:TypeId} {A:Option Addr} {m c:Nat} (hop:o.op= .call {callee:= .builtin .len,args:= #[x],argTypes:= #[t]}) (hx:look σ x=some (.slice A m c)) (ht:uU P t=true):Yl P S σ o (.int .i64 (m:Int)):=fun a n D Z w hS=>by
 unfold uU at ht
 split at ht
 ·rename_i e hu
  unfold execOp
  simp [hop,resolve,invoke,builtin,Z.eval hx,Builtin.len_,run_underlying hu,goInt]
 ·cases ht
theorem Yl.min {x y:Operand} {ts:Array TypeId} {k:IntKind} {p q:Int} (hop:o.op= .call {callee:= .builtin .min,args:= #[x,y],argTypes:=ts}) (hx:look σ x=some (.int k p)) (hy:look σ y=some (.int k q)):Yl P S σ o (.int k (if q<p then q else p)):=fun a n D Z w hS=>by
 unfold execOp
 simp [hop,resolve,invoke,builtin,Z.eval hx,Z.eval hy,Builtin.min_,Builtin.min2]
theorem Yl.max {x y:Operand} {ts:Array TypeId} {k:IntKind} {p q:Int} (hop:o.op= .call {callee:= .builtin .max,args:= #[x,y],argTypes:=ts}) (hx:look σ x=some (.int k p)) (hy:look σ y=some (.int k q)):Yl P S σ o (.int k (if q>p then q else p)):=fun a n D Z w hS=>by
 unfold execOp
 simp [hop,resolve,invoke,builtin,Z.eval hx,Z.eval hy,Builtin.max_,Builtin.max2]
theorem Yl.as {u:Value} (h:Yl P S σ o v) (e:v=u):Yl P S σ o u:=e▸h
theorem Yl.ix {t:TypeId} {x ix:Operand} (g of y sz:Nat) {m c:Nat} {k:IntKind} (hop:o.op= .indexAddr t x ix) (hx:look σ x=some (.slice (some ⟨g,of,none⟩) m c)) (hi:look σ ix=some (.int k (y:Int))) (hy:y<m:=by omega) (he:Sr P t=some sz:=by kernel_rfl):Yl P S σ o (.pointer (some ⟨g,of+y*sz,none⟩)):=
 (Yl.indexAddr (ad:=⟨g,of,none⟩) hop hx hi hy he).as (by rw [Addr.add_mid])
theorem Yl.uV {t:TypeId} {x ix:Operand} (g y sz:Nat) {m c:Nat} {k:IntKind} (hop:o.op= .indexAddr t x ix) (hx:look σ x=some (.slice (some ⟨g,0,none⟩) m c)) (hi:look σ ix=some (.int k (y:Int))) (hy:y<m:=by omega) (he:Sr P t=some sz:=by kernel_rfl):Yl P S σ o (.pointer (some ⟨g,y*sz,none⟩)):=
 (Yl.indexAddr (ad:=⟨g,0,none⟩) hop hx hi hy he).as (by rw [Addr.add_mid,Nat.zero_add])
end
end Go.Proofs.YtekiimhdnigmcaaGreatDoor
