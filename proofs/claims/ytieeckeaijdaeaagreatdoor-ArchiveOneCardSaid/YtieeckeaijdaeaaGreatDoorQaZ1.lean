/- Parts. -/
import Derived.Test.YtieeckeaijdaeaaGreatDoorQaSep2
import Derived.Deep.DeepAppendWide
import Derived.Deep.Upon
import Derived.MapKept
import Derived.IntWalk
import Derived.Maps.RangeRun
import Derived.Test.YtieeckeaijdaeaaGreatDoorQaRnd
import Derived.RangeFuncLeaves
import Derived.Recover
import Derived.Test.YtieeckeaijdaeaaGreatDoorQaConv
import Derived.Lib.AppendZeros
import Derived.Test.YtieeckeaijdaeaaGreatDoorQaVarint
import Derived.Test.YtieeckeaijdaeaaGreatDoorQaCrcP
import Derived.Test.YtieeckeaijdaeaaGreatDoorQaNum
import Derived.Test.YtieeckeaijdaeaaGreatDoorQaOneWay
import Derived.Test.YtieeckeaijdaeaaGreatDoorQaBack
import Derived.ChangeKeysEq
import Derived.Laws.StructEq
import Derived.Laws.Slices
import Derived.Test.YtieeckeaijdaeaaGreatDoorQaSta
import Derived.Deep.AppendSrc
set_option linter.all false
set_option maxRecDepth 100000
set_option maxHeartbeats 1000000
namespace Go.Proofs.YtieeckeaijdaeaaGreatDoor
open Go.RowKit
def qf (P:Program) (ops:Array Oper) (Q:Exit→Act→World→Prop) (i:Nat) (a:Act) (w:World):Prop:=wpList P ops Q (ops.toList.drop i) a w
def Yl (P:Program) (S:World→Prop) (σ:List (Nat×Value)) (o:Oper) (v:Value):Prop:=∀(a:Act) (n:Nat) (D:List Deferred),Fr a n D σ→∀w,S w→(execOp a.eval o).run P w= .ok (.value v) w
section
variable {P:Program} {ops:Array Oper} {Q:Exit→Act→World→Prop} {a:Act} {w:World} {n i j d fuel:Nat} {D:List Deferred} {σ σ':List (Nat×Value)} {o:Oper} {v:Value} {md:Region.Mode} {S:World→Prop} {K:Act→World→Prop} {listed:Array Bool}
theorem zq {id:Nat} (h:qf P ops Q 0 a w):(Code.region id ops false).wp P Q a w:=wp_region_list (by simpa [qf] using h)
theorem yo (hi:ops.size=i) (h:Q .normal a w):qf P ops Q i a w:=by
 unfold qf
 rw [List.drop_of_length_le (by simp [hi])]
 exact h
theorem GK (Z:Fr a n D σ) (ho:ops[i]?=some o) (hw:bV ops σ o=some true) (h:o.wp P a w (qf P ops Q (i+1)) Q):qf P ops Q i a w:=by
 obtain ⟨hl,he⟩:=Array.getElem?_eq_some_iff.1 ho
 unfold qf
 rw [List.drop_eq_getElem_cons (by simpa using hl),Array.getElem_toList,he]
 unfold wpList
 rw [if_pos (EB Z hw)]
 exact .inl h
theorem quz (Z:Fr a n D σ) (ho:ops[i]?=some o) (hw:bV ops σ o=some false) (hd:o.dst=some d) (hdn:d<n) (k:∀a',Fr a' n D ((d,undef)::σ)→qf P ops Q (i+1) a' w):qf P ops Q i a w:=by
 obtain ⟨hl,he⟩:=Array.getElem?_eq_some_iff.1 ho
 unfold qf
 rw [List.drop_eq_getElem_cons (by simpa using hl),Array.getElem_toList,he]
 unfold wpList
 rw [if_neg (by rw [EB Z hw];simp),hd]
 exact k _ (Z.put hdn _)
theorem Yl.wp (hy:Yl P S σ o v) (Z:Fr a n D σ) (hS:S w) (hd:o.dst=some d) (hdn:d<n) (k:∀a',Fr a' n D ((d,v)::σ)→K a' w):o.wp P a w K Q:=by
 unfold Oper.wp
 rw [hy a n D Z w hS,Oper.upon_value,hd]
 exact k _ (Z.put hdn _)
theorem Me (Z:Fr a n D σ) (hS:S w) (ho:ops[i]?=some o) (hw:bV ops σ o=some true) (hd:o.dst=some d) (hdn:d<n) (hy:Yl P S σ o v) (k:∀a',Fr a' n D ((d,v)::σ)→qf P ops Q (i+1) a' w):qf P ops Q i a w:=
 GK Z ho hw (hy.wp Z hS hd hdn k)
theorem Yl.pure (h:rP P σ o.op=some v):Yl P S σ o v:=fun _ _ _ Z w _=>V9 Z h w
def Ah (P:Program) (ops:Array Oper) (n i:Nat) (σ:List (Nat×Value)):Option (List (Nat×Value)):=
 match ops[i]? with
 |none=>none
 | some o => match bV ops σ o, o.dst with
  |some true,some d=>if d<n then match rP P σ o.op with
   |some v=>some ((d,v)::σ)
   |none=>none else none
  |some false,some d=>if d<n then some ((d,undef)::σ) else none
  |_,_=>none
def xm (P:Program) (ops:Array Oper) (n:Nat):Nat→Nat→List (Nat×Value)→Option (List (Nat×Value))
 |0,_,σ=>some σ
 |m+1,i,σ=>match Ah P ops n i σ with
  |none=>none
  |some σ'=>xm P ops n m (i+1) σ'
theorem PP:∀(m i:Nat) {j:Nat} {a:Act} {σ:List (Nat×Value)},Fr a n D σ→xm P ops n m i σ=some σ'→i+m=j→(∀a',Fr a' n D σ'→qf P ops Q j a' w)→qf P ops Q i a w
 |0,i,j,a,σ,Z,h,hj,k=>by
  injection h with h
  subst h
  have e:i=j:=hj
  subst e
  exact k a Z
 | m + 1, i, j, a, σ, Z, h, hj, k => by
  unfold xm at h
  split at h
  ·cases h
  ·rename_i σ1 h1
   have rest:=fun a' uu=>PP m (i+1) (a:=a') (σ:=σ1) uu h om k
   unfold Ah at h1
   split at h1
   ·cases h1
   ·rename_i o ho
    split at h1
    ·rename_i d hw hd
     split at h1
     ·rename_i hdn
      split at h1
      ·rename_i v hv
       injection h1 with h1
       subst h1
       exact Me (S:=fun _=>True) Z trivial ho hw hd hdn (Yl.pure hv) rest
      ·cases h1
     ·cases h1
    ·rename_i d hw hd
     split at h1
     ·rename_i hdn
      injection h1 with h1
      subst h1
      exact quz Z ho hw hd hdn rest
     ·cases h1
    ·cases h1
theorem Fr.sp {v:Value} (h:Fr a n D σ) (t:Nat) (u:Value) (hl:σ.lookup t=some v) (e:v=u):Fr a n D ((t,u)::σ):=by
 subst e
 refine ⟨h.size,h.defers,fun s x hx=>?_⟩
 rw [List.lookup_cons] at hx
 split at hx
 ·rename_i hs
  rw [beq_iff_eq] at hs
  subst hs
  injection hx with hx
  subst hx
  exact h.slot _ _ hl
 ·exact h.slot _ _ hx
theorem Fr.to (h:Fr a n D σ) (σ':List (Nat×Value)) (hs:σ'.map (fun p=>σ.lookup p.1)=σ'.map (fun p=>some p.2):=by kernel_rfl):Fr a n D σ':=h.sub hs
theorem Fr.on {b c:Bool} (h:Fr a n D σ) (t:Nat) (hb:b=c) (hl:σ.lookup t=some (.bool b):=by rfl):Fr a n D ((t,.bool c)::σ):=by
 subst hb
 refine ⟨h.size,h.defers,fun s x hx=>?_⟩
 rw [List.lookup_cons] at hx
 split at hx
 ·rename_i hs
  rw [beq_iff_eq] at hs
  subst hs
  injection hx with hx
  subst hx
  exact h.slot _ _ hl
 ·exact h.slot _ _ hx
theorem Fr.tf {b:Bool} (h:Fr a n D σ) (t:Nat) (hl:σ.lookup t=some (.bool b)):(b=true∧Fr a n D ((t,.bool true)::σ))∨(b=false∧Fr a n D ((t,.bool false)::σ)):=by
 cases b
 ·exact .inr ⟨rfl,h.on t rfl hl⟩
 ·exact .inl ⟨rfl,h.on t rfl hl⟩
theorem Wd {i:Nat} {s:List (Nat×Value)} (h:Ah P ops n i σ=some s):∃p,s=p::σ:=by
 unfold Ah at h
 split at h
 ·cases h
 ·split at h
  ·split at h
   ·split at h
    ·injection h with h;exact ⟨_,h.symm⟩
    ·cases h
   ·cases h
  ·split at h
   ·injection h with h;exact ⟨_,h.symm⟩
   ·cases h
  ·cases h
theorem We:∀(m i:Nat) {σ s:List (Nat×Value)},xm P ops n m i σ=some s→∃full,s=full++σ
 |0,_,σ,s,h=>by injection h with h;exact ⟨[],h.symm⟩
 | m + 1, i, σ, s, h => by
  cases h1:Ah P ops n i σ with
  |none=>rw [xm,h1] at h;cases h
  |some s1=>
   rw [xm,h1] at h
   obtain ⟨p,rfl⟩:=Wd h1
   obtain ⟨full,hf⟩:=We m (i+1) h
   exact ⟨full++[p],by rw [hf];simp⟩
def thin (s σ new:List (Nat×Value)):Bool:=(s.take (s.length-σ.length)).all fun p=>(new.any fun q=>q.1==p.1)|| !(σ.any fun q=>q.1==p.1)
theorem GL {t:Nat}:∀{l m:List (Nat×Value)},(l++m).lookup t=match l.lookup t with|some v=>some v|none=>m.lookup t
 |[],m=>rfl
 |q::l,m=>by
  rw [List.cons_append,List.lookup_cons,List.lookup_cons]
  split
  ·rfl
  ·exact GL
theorem GM {t:Nat} {v:Value}:∀{l:List (Nat×Value)},l.lookup t=some v→(l.any fun q=>q.1==t)=true
 |[],h=>by cases h
 | q :: l, h => by
  rw [List.lookup_cons] at h
  split at h
  ·rename_i hb
   rw [beq_iff_eq] at hb
   simp [hb]
  ·simp only [List.any_cons,Bool.or_eq_true]
   exact .inr (GM h)
theorem Mf {t:Nat} {l:List (Nat×Value)} (h:(l.any fun q=>q.1==t)=true):∃p∈l,p.1=t:=by
 rw [List.any_eq_true] at h
 obtain ⟨p,h1,h2⟩:=h
 exact ⟨p,h1,by simpa using h2⟩
theorem Fr.thin {s full new:List (Nat×Value)} (h:Fr a n D s) (hs:s=full++σ) (ht:Go.Proofs.YtieeckeaijdaeaaGreatDoor.thin s σ new=true) (hn:new.map (fun p=>s.lookup p.1)=new.map (fun p=>some p.2)):Fr a n D (new++σ):=by
 have h1:=h.sub hn
 refine ⟨h.size,h.defers,fun t v hv=>?_⟩
 rw [GL] at hv
 cases hl:new.lookup t with
 |some u=>
  rw [hl] at hv
  injection hv with hv
  subst hv
  exact h1.slot t u hl
 | none =>
  rw [hl] at hv
  have hv:σ.lookup t=some v:=hv
  refine h.slot t v ?_
  rw [hs,GL]
  cases hf:full.lookup t with
  |none=>exact hv
  | some u =>
   exfalso
   unfold Go.Proofs.YtieeckeaijdaeaaGreatDoor.thin at ht
   have hlen:s.take (s.length-σ.length)=full:=by rw [hs,List.length_append,Nat.add_sub_cancel];exact List.take_left
   rw [hlen,List.all_eq_true] at ht
   obtain ⟨p,hp1,hp2⟩:=Mf (GM hf)
   have:=ht p hp1
   rw [hp2,GM hv] at this
   simp only [Bool.not_true,Bool.or_false] at this
   obtain ⟨q,hq1,hq2⟩:=Mf this
   have h3:new.lookup t≠none:=by
    intro h4
    have h5:∀(l:List (Nat×Value)),q∈l→l.lookup t≠none:=by
     intro l
     induction l with
     |nil=>intro h6;cases h6
     | cons r l ih =>
      intro h6
      rw [List.lookup_cons]
      split
      ·simp
      ·rename_i hb
       rcases List.mem_cons.1 h6 with rfl|h6
       ·exfalso;rw [hq2] at hb;simp at hb
       ·exact ih h6
    exact h5 new hq1 h4
   exact h3 hl
theorem fp (Z:Fr a n D σ) (m i:Nat) (new:List (Nat×Value)) (k:∀a',Fr a' n D (new++σ)→qf P ops Q (i+m) a' w) (h:(xm P ops n m i σ).map (fun s=>(thin s σ new,new.map fun p=>s.lookup p.1))=some (true,new.map fun p=>some p.2):=by kernel_rfl):qf P ops Q i a w:=by
 cases hs:xm P ops n m i σ with
 |none=>rw [hs] at h;cases h
 |some s=>
  rw [hs] at h
  injection h with h
  injection h with h1 h2
  obtain ⟨full,hf⟩:=We m i hs
  exact PP m i Z hs rfl fun a' uu=>k a' (uu.thin hf h1 h2)
theorem fo (Z:Fr a n D σ) (i:Nat) (ho:ops[i]?=some o) (hw:bV ops σ o=some true) (h:o.wp P a w (qf P ops Q (i+1)) Q):qf P ops Q i a w:=GK Z ho hw h
theorem fy {W:World} {fs:List ag} (Z:Fr a n D σ) (HM:Mem W w fs) (i:Nat) (ho:ops[i]?=some o) (hw:bV ops σ o=some true) (hd:o.dst=some d) (hy:Yl P (fun wS=>Mem W wS fs) σ o v) (k:∀a',Fr a' n D ((d,v)::σ)→qf P ops Q (i+1) a' w) (hdn:d<n:=by decide):qf P ops Q i a w:=
 Me (S:=fun wS=>Mem W wS fs) Z HM ho hw hd hdn hy k
def bW (ex:List Nat) (listed:Array Bool):Bool:=ex.any fun j=>listed.getD j false
def qi (P:Program) (md:Region.Mode) (ops:Array Oper) (Q:Exit→Act→World→Prop) (S:World→Prop) (ex:List Nat):Nat→Array Bool→Act→World→Prop
 |0,listed,a,w=>Region.ready md ops listed=[]∧Q .normal a w
 |fuel+1,listed,a,w=>
  (Region.ready md ops listed=[]→Q .normal a w)∧
  ∀i∈Region.ready md ops listed,wpOp P ops Q i (fun a' w'=>(bW ex (listed.setIfInBounds i true)=false→S w')∧qi P md ops Q S ex fuel (listed.setIfInBounds i true) a' w') a w
theorem Mg {ex:List Nat}:∀(fuel:Nat) (listed:Array Bool) (a:Act) (w:World),qi P md ops Q S ex fuel listed a w→wpAny P md ops Q fuel listed a w
 |0,_,_,_,h=>h
 |fuel+1,_,_,_,h=>⟨h.1,fun i hi=>wpOp_mono (fun a' w' h'=>Mg fuel _ a' w' h'.2) (h.2 i hi)⟩
def Ck (md:Region.Mode) (ops:Array Oper) (ex:List Nat) (i:Nat):Bool:=ex.all fun j=>match ops[j]? with
 |some o=>o.after.any fun e=>Region.binds md e&&e.on==i
 |none=>true
theorem Wh {ex:List Nat} {l:Array Bool} {i:Nat} (h:ex.contains i=false):bW ex (l.setIfInBounds i true)=bW ex l:=by
 unfold bW
 rw [Bool.eq_iff_iff,List.any_eq_true,List.any_eq_true]
 have hne:∀j∈ex,i≠j:=fun j hj e=>by
  subst e
  have:ex.contains i=true:=by simpa using hj
  rw [h] at this;cases this
 constructor
 ·rintro ⟨j,hj,hl⟩;exact ⟨j,hj,by rwa [getD_set_ne false (hne j hj)] at hl⟩
 ·rintro ⟨j,hj,hl⟩;exact ⟨j,hj,by rwa [getD_set_ne false (hne j hj)]⟩
theorem PQ {ex:List Nat} {l:Array Bool} {i:Nat} (h:bW ex (l.setIfInBounds i true)=false):bW ex l=false:=by
 cases hp:bW ex l with
 |false=>rfl
 |true=>
  unfold bW at h hp
  obtain ⟨j,hj,hl⟩:=List.any_eq_true.1 hp
  rw [List.any_eq_false] at h
  exact absurd (getD_set_true (i:=i) hl) (h j hj)
theorem PR {ex:List Nat} {oi:Oper} {T:World→Prop} (hi:ops[i]?=some oi) (hsel:∀(j:Nat) (o:Oper) cs b,ops[j]?=some o→o.op≠ .select cs b)
  (hQ:∀c (a:Act) w,Q (.panic c) (a.put oi.dst v) w→Q (.panic c) a w) (PS:ex.contains i=false):
  ∀(fuel:Nat) (listed:Array Bool) (a:Act) (w:World),((∀w,T w)∨(T=S∧Ck md ops ex i=true∧bW ex listed=false))→
   (∀j oj,ops[j]?=some oj→j≠i→listed.getD j true=false→(∀e∈oj.after,Region.binds md e=true→e.on≠i)→oi.apart ops oj=true)→
   i∈Region.ready md ops listed→YieldsIf P ops T oi v a→(bW ex listed=false→S w)→
   qi P md ops Q S ex fuel (listed.setIfInBounds i true) (a.put oi.dst v) w→qi P md ops Q S ex (fuel+1) listed a w:=by
 intro fuel
 induction fuel with
 | zero =>
  intro listed a w hx _ hr hy hS H
  have hT:T w:=by rcases hx with h|⟨h,_,hp⟩<;>first|exact h w|(rw [h];exact hS hp)
  refine ⟨fun h=>(by rw [h] at hr;cases hr),fun j hj=>?_⟩
  by_cases hji:j=i
  ·subst hji;exact hy.wpOp hi hT ⟨fun hp=>hS (PQ hp),H⟩
  ·have:=ready_mono hj hji
   rw [H.1] at this
   cases this
 | succ fuel ih =>
  intro listed a w hx hfree hr hy hS H
  have hT:T w:=by rcases hx with h|⟨h,_,hp⟩<;>first|exact h w|(rw [h];exact hS hp)
  refine ⟨fun h=>(by rw [h] at hr;cases hr),fun j hj=>?_⟩
  by_cases hji:j=i
  ·subst hji;exact hy.wpOp hi hT ⟨fun hp=>hS (PQ hp),H⟩
  ·have h1:=H.2 j (ready_mono hj hji)
   obtain ⟨hjun,oj,hoj,hall⟩:=mem_ready.1 hj
   have hnot:∀e∈oj.after,Region.binds md e=true→e.on≠i:=fun e he hb heq=>by
    have h1:=hall e he hb
    have h0:=(mem_ready.1 hr).1
    rw [heq] at h1
    rcases Nat.lt_or_ge i listed.size with h'|h'
    ·simp [h'] at h0 h1;rw [h0] at h1;cases h1
    ·simp [Array.getElem?_eq_none h'] at h1
   have hx':(∀w,T w)∨(T=S∧Ck md ops ex i=true∧bW ex (listed.setIfInBounds j true)=false):=by
    rcases hx with h|⟨h,h2,h3⟩
    ·exact .inl h
    ·refine .inr ⟨h,h2,?_⟩
     rw [Wh ?_]
     ·exact h3
     ·cases hc:ex.contains j with
      |false=>rfl
      |true=>
       have hm:j∈ex:=by simpa using hc
       have h2:=List.all_eq_true.1 h2 j hm
       rw [hoj] at h2
       obtain ⟨e,he,hb⟩:=Array.any_eq_true'.1 h2
       rw [Bool.and_eq_true,beq_iff_eq] at hb
       exact absurd hb.2 (hnot e he hb.1)
   have h2:=wpOp_putIf hoj (hfree j oj hoj hji hjun hnot) (fun cs b=>hsel i oi cs b hi) (fun cs b=>hsel j oj cs b hoj) hQ hy h1
   have hfree':∀k ok,ops[k]?=some ok→k≠i→(listed.setIfInBounds j true).getD k true=false→
     (∀e∈ok.after,Region.binds md e=true→e.on≠i)→oi.apart ops ok=true:=fun k ok hk hki hun hno=>by
    refine hfree k ok hk hki ?_ hno
    by_cases hjk:j=k
    ·subst hjk;exact hjun
    ·rw [getD_set_ne true hjk] at hun;exact hun
   refine wpOp_mono (fun a' w' h3=>?_) h2
   have hS':bW ex (listed.setIfInBounds j true)=false→S w':=fun hp=>h3.2.1 (by rw [Array.setIfInBounds_comm _ _ (Ne.symm hji),Wh PS];exact hp)
   refine ⟨hS',ih (listed.setIfInBounds j true) a' w' hx' hfree' (ready_mono hr (Ne.symm hji)) h3.1 hS' ?_⟩
   rw [Array.setIfInBounds_comm _ _ hji]
   exact h3.2.2
section
variable {ex:List Nat}
theorem Wi {id:Nat} (hm:P.follows .mixedOrders=true) (S:World→Prop) (ex:List Nat) (h:qi P .any ops Q S ex ops.size (Array.replicate ops.size false) a w.drew):(Code.region id ops true).wp P Q a w:=
 wp_region_any hm (Mg _ _ _ _ h)
theorem q6l {id:Nat} {W:World} {fs:List ag} (HM:Mem W w fs) (fs':List ag) (is ex:List Nat) (h:Mem W w.drew fs→Mem W w.drew fs'→qi P .any ops Q (fun wS=>Mem W wS fs') ex ops.size (Array.replicate ops.size false) a w.drew)
  (hm:P.follows .mixedOrders=true:=by kernel_rfl) (hn:is.Nodup:=by decide) (he:picks fs is=fs':=by rfl):(Code.region id ops true).wp P Q a w:=
 Wi hm _ ex (h HM.drew (HM.drew.picks is hn he))
def yt (md:Region.Mode) (ops:Array Oper) (ex:List Nat) (listed:Array Bool) (i:Nat):Bool:=
 Region.noSelect ops&& (Region.free md ops listed i&& ((Region.ready md ops listed).contains i&& (!ex.contains i&& (Ck md ops ex i&& !bW ex listed))))
def nA (md:Region.Mode) (ops:Array Oper) (ex:List Nat) (listed:Array Bool) (i:Nat):Bool:=
 Region.noSelect ops&& (Region.free md ops listed i&& ((Region.ready md ops listed).contains i&& !ex.contains i))
theorem EE (Z:Fr a n D σ) (hS:S w) (ho:ops[i]?=some o) (hw:bV ops σ o=some true) (hd:o.dst=some d) (hdn:d<n) (hok:yt md ops ex listed i=true) (hQ:∀c (a:Act) w,Q (.panic c) (a.put o.dst v) w→Q (.panic c) a w) (hy:Yl P S σ o v)
  (k:∀a',Fr a' n D ((d,v)::σ)→qi P md ops Q S ex fuel (listed.setIfInBounds i true) a' w):qi P md ops Q S ex (fuel+1) listed a w:=by
 simp only [yt,Bool.and_eq_true,Bool.not_eq_true'] at hok
 obtain ⟨h1,h2,h3,h4,h5,h6⟩:=hok
 exact PR (T:=S) ho (Region.noSelect_spec h1) hQ h4 fuel listed a w (.inr ⟨rfl,h5,h6⟩) (Region.free_spec ho h2) (by simpa using h3) (.inl ⟨EB Z hw,fun w hw=>hy a n D Z w hw⟩) (fun _=>hS) (by rw [hd];exact k _ (Z.put hdn _))
theorem PT (Z:Fr a n D σ) (hS:bW ex listed=false→S w) (ho:ops[i]?=some o) (hw:bV ops σ o=some true) (hd:o.dst=some d) (hdn:d<n) (hok:nA md ops ex listed i=true) (hQ:∀c (a:Act) w,Q (.panic c) (a.put o.dst v) w→Q (.panic c) a w) (hy:∀S',Yl P S' σ o v)
  (k:∀a',Fr a' n D ((d,v)::σ)→qi P md ops Q S ex fuel (listed.setIfInBounds i true) a' w):qi P md ops Q S ex (fuel+1) listed a w:=by
 simp only [nA,Bool.and_eq_true,Bool.not_eq_true'] at hok
 obtain ⟨h1,h2,h3,h4⟩:=hok
 exact PR (T:=fun _=>True) ho (Region.noSelect_spec h1) hQ h4 fuel listed a w (.inl fun _=>trivial) (Region.free_spec ho h2) (by simpa using h3) (.inl ⟨EB Z hw,fun w _=>hy (fun _=>True) a n D Z w trivial⟩) hS (by rw [hd];exact k _ (Z.put hdn _))
theorem qzd (Z:Fr a n D σ) (hS:bW ex listed=false→S w) (ho:ops[i]?=some o) (hw:bV ops σ o=some false) (hd:o.dst=some d) (hdn:d<n) (hok:nA md ops ex listed i=true) (hQ:∀c (a:Act) w,Q (.panic c) (a.put o.dst undef) w→Q (.panic c) a w)
  (k:∀a',Fr a' n D ((d,undef)::σ)→qi P md ops Q S ex fuel (listed.setIfInBounds i true) a' w):qi P md ops Q S ex (fuel+1) listed a w:=by
 simp only [nA,Bool.and_eq_true,Bool.not_eq_true'] at hok
 obtain ⟨h1,h2,h3,h4⟩:=hok
 exact PR (T:=fun _=>True) ho (Region.noSelect_spec h1) hQ h4 fuel listed a w (.inl fun _=>trivial) (Region.free_spec ho h2) (by simpa using h3) (.inr ⟨EB Z hw,rfl⟩) hS (by rw [hd];exact k _ (Z.put hdn _))
def yu (P:Program) (md:Region.Mode) (ops:Array Oper) (n:Nat) (ex:List Nat):List Nat→Array Bool→List (Nat×Value)→Option (Array Bool×List (Nat×Value))
 |[],l,σ=>some (l,σ)
 | i :: is, l, σ => if nA md ops ex l i then match Ah P ops n i σ with
   |some σ'=>yu P md ops n ex is (l.setIfInBounds i true) σ'
   |none=>none
  else none
theorem Mh {listed' : Array Bool} (hQ : ∀ c (a : Act) d v w, Q (.panic c) (a.put d v) w → Q (.panic c) a w) :
  ∀(is:List Nat) {a:Act} {σ:List (Nat×Value)} {listed:Array Bool},Fr a n D σ→(bW ex listed=false→S w)→yu P md ops n ex is listed σ=some (listed',σ')→(∀a',Fr a' n D σ'→qi P md ops Q S ex fuel listed' a' w)→qi P md ops Q S ex (fuel+is.length) listed a w
 |[],a,σ,listed,Z,_,h,k=>by
  injection h with h
  injection h with h1 h2
  subst h1;subst h2
  exact k a Z
 | i :: is, a, σ, listed, Z, hS, h, k => by
  unfold yu at h
  split at h
  ·rename_i hc
   split at h
   ·rename_i σ1 h1
    have rest:=fun a' uu=>Mh hQ is (a:=a') (σ:=σ1) uu (fun hp=>hS (PQ hp)) h k
    unfold Ah at h1
    split at h1
    ·cases h1
    ·rename_i o ho
     split at h1
     ·rename_i d hw hd
      split at h1
      ·rename_i hdn
       split at h1
       ·rename_i v hv
        injection h1 with h1
        subst h1
        exact PT Z hS ho hw hd hdn hc (fun c a w=>hQ c a _ _ w) (fun _=>Yl.pure hv) rest
       ·cases h1
      ·cases h1
     ·rename_i d hw hd
      split at h1
      ·rename_i hdn
       injection h1 with h1
       subst h1
       exact qzd Z hS ho hw hd hdn hc (fun c a w=>hQ c a _ _ w) rest
      ·cases h1
     ·cases h1
   ·cases h
  ·cases h
theorem PU:∀(is:List Nat) {l l':Array Bool} {σ s:List (Nat×Value)},yu P md ops n ex is l σ=some (l',s)→∃full,s=full++σ
 |[],_,_,σ,s,h=>by injection h with h;injection h with _ h;exact ⟨[],h.symm⟩
 | i :: is, l, l', σ, s, h => by
  unfold yu at h
  split at h
  ·split at h
   ·rename_i s1 h1
    obtain ⟨p,rfl⟩:=Wd h1
    obtain ⟨full,hf⟩:=PU is h
    exact ⟨full++[p],by rw [hf];simp⟩
   ·cases h
  ·cases h
theorem ap (Z:Fr a n D σ) (hS:bW ex listed=false→S w) (is:List Nat) (listed':Array Bool) (new:List (Nat×Value)) (k:∀a',Fr a' n D (new++σ)→qi P md ops Q S ex fuel listed' a' w)
  (hQ:∀c (a:Act) d v w,Q (.panic c) (a.put d v) w→Q (.panic c) a w:=by intro _ _ d _ _ h;cases d<;>exact h) (h:(yu P md ops n ex is listed σ).map (fun r=>(r.1,thin r.2 σ new,new.map fun p=>r.2.lookup p.1))=some (listed',true,new.map fun p=>some p.2):=by kernel_rfl):qi P md ops Q S ex (fuel+is.length) listed a w:=by
 cases hs:yu P md ops n ex is listed σ with
 |none=>rw [hs] at h;cases h
 |some r=>
  obtain ⟨l2,s⟩:=r
  rw [hs] at h
  injection h with h
  injection h with h0 h1
  injection h1 with h1 h2
  simp only at h0
  subst h0
  obtain ⟨full,hf⟩:=PU is hs
  exact Mh hQ is Z hS hs fun a' uu=>k a' (uu.thin hf h1 h2)
theorem qh (hr:Region.ready md ops listed=[]) (h:Q .normal a w):qi P md ops Q S ex fuel listed a w:=by
 cases fuel with
 |zero=>exact ⟨hr,h⟩
 |succ f=>exact ⟨fun _=>h,by rw [hr];simp⟩
theorem all_nil {X:Nat→Prop}:∀i∈([]:List Nat),X i:=fun _ h=>by cases h
theorem all_cons {X:Nat→Prop} {r:List Nat} (h:X i) (t:∀i∈r,X i):∀j∈i::r,X j:=fun j hj=>by
 rcases List.mem_cons.1 hj with rfl|hj
 ·exact h
 ·exact t j hj
theorem EF (rs:List Nat) (hr:Region.ready md ops listed=rs) (hne:rs.isEmpty=false) (h:∀i∈rs,wpOp P ops Q i (fun a' w'=>(bW ex (listed.setIfInBounds i true)=false→S w')∧qi P md ops Q S ex fuel (listed.setIfInBounds i true) a' w') a w):qi P md ops Q S ex (fuel+1) listed a w:=
 ⟨fun e=>(by rw [hr] at e;subst e;cases hne),hr▸h⟩
theorem jo {p:Prop} {l:Array Bool} (h:bW ex l=true):bW ex l=false→p:=fun e=>by rw [h] at e;cases e
theorem aD {c p X:Prop} (h:p) (k:p→X):(c→p)∧X:=⟨fun _=>h,k h⟩
theorem jZ {p X:Prop} {l:Array Bool} (h:bW ex l=true) (k:X):(bW ex l=false→p)∧X:=⟨fun e=>(by rw [h] at e;cases e),k⟩
theorem xn (Z:Fr a n D σ) (ho:ops[i]?=some o) (hw:bV ops σ o=some true) (h:o.wp P a w K Q):wpOp P ops Q i K a w:=by
 unfold wpOp
 rw [ho]
 simp only [EB Z hw,if_true]
 exact .inl h
end
def fZ (P:Program) (t:TypeId):Bool:=match P.underlying t with
 |some (.struct _)=>false
 |some (.array _ _)=>false
 |some _=>true
 |none=>false
def Mi (P:Program) (t:TypeId):Option Nat:=match P.underlying t with
 |some (.slice e)=>(P.info? e).map (·.size)
 |_=>none
theorem PV {t:TypeId} (h:fZ P t=true) (w:World):(isAgg t).run P w= .ok false w:=by
 unfold fZ at h
 cases hu:P.underlying t with
 |none=>rw [hu] at h;cases h
 |some d=>rw [hu] at h;simp only [isAgg,Sem.run_bind,run_underlying hu,Result.andThen_ok];cases d<;>first|rfl|cases h
theorem Yl.ze {t:TypeId} {x:Operand} {p:Addr} (hop:o.op= .load t x) (hx:look σ x=some (.pointer (some p))) (ht:fZ P t=true) (hc:∀w,S w→w.cell? p=some v):Yl P S σ o v:=fun a n D Z w hS=>by
 unfold execOp
 simp [hop,Z.eval hx,Instr.loadAt,Instr.sureAddr,loadVar,PV ht,load,Sem.run,hc w hS]
theorem Yl.qm {t:TypeId} {x:Operand} {b off m:Nat} {cs:Array Value} (hop:o.op= .load t x) (hx:look σ x=some (.pointer (some ⟨b,off,none⟩))) (si:SI P t m) (hm:cs.size=m) (hc:∀w,S w→w.rangeAt b off cs.toList):Yl P S σ o (.agg cs):=fun a n D Z w hS=>by
 obtain ⟨ds,hu,hd⟩:=si.desc
 have hl:=run_loadVar_mid (P:=P) w b off t cs.toList ds (hc w hS) hu hd (by rw [si.size,←hm];simp)
 unfold execOp
 simp [hop,Z.eval hx,Instr.loadAt,Instr.sureAddr,hl]
theorem Yl.indexAddr {t:TypeId} {x ix:Operand} {ad:Addr} {m c y sz:Nat} {k:IntKind} (hop:o.op= .indexAddr t x ix) (hx:look σ x=some (.slice (some ad) m c)) (hi:look σ ix=some (.int k (y:Int))) (hy:y<m) (he:Mi P t=some sz):Yl P S σ o (.pointer (some (ad.add (y*sz)))):=fun a n D Z w hS=>by
 unfold Mi at he
 split at he
 ·rename_i e hu
  obtain ⟨i,hi',rfl⟩:=Option.map_eq_some_iff.1 he
  unfold execOp
  have h1:¬m≤y:=by omega
  simp [hop,Z.eval hx,Z.eval hi,Instr.indexAt,asIntOf,run_underlying hu,hy,sizeOf,typeInfo,hi']
 ·cases he
def o7 (P:Program) (t:TypeId):Bool:=match P.underlying t with
 |some (.slice _)=>true
 |_=>false
theorem Yl.len {x:Operand} {t:TypeId} {A:Option Addr} {m c:Nat} (hop:o.op= .call {callee:= .builtin .len,args:= #[x],argTypes:= #[t]}) (hx:look σ x=some (.slice A m c)) (ht:o7 P t=true):Yl P S σ o (.int .i64 (m:Int)):=fun a n D Z w hS=>by
 unfold o7 at ht
 split at ht
 ·rename_i e hu
  unfold execOp
  simp [hop,resolve,invoke,builtin,Z.eval hx,Builtin.len_,run_underlying hu,goInt]
 ·cases ht
theorem Yl.min {x y:Operand} {ts:Array TypeId} {k:IntKind} {p q:Int} (hop:o.op= .call {callee:= .builtin .min,args:= #[x,y],argTypes:=ts}) (hx:look σ x=some (.int k p)) (hy:look σ y=some (.int k q)):Yl P S σ o (.int k (if q<p then q else p)):=fun a n D Z w hS=>by
 unfold execOp
 simp [hop,resolve,invoke,builtin,Z.eval hx,Z.eval hy,Builtin.min_,Builtin.min2]
theorem Yl.max {x y:Operand} {ts:Array TypeId} {k:IntKind} {p q:Int} (hop:o.op= .call {callee:= .builtin .max,args:= #[x,y],argTypes:=ts}) (hx:look σ x=some (.int k p)) (hy:look σ y=some (.int k q)):Yl P S σ o (.int k (if q>p then q else p)):=fun a n D Z w hS=>by
 unfold execOp
 simp [hop,resolve,invoke,builtin,Z.eval hx,Z.eval hy,Builtin.max_,Builtin.max2]
theorem Yl.as {u:Value} (h:Yl P S σ o v) (e:v=u):Yl P S σ o u:=e▸h
theorem Yl.ix {t:TypeId} {x ix:Operand} (g of y sz:Nat) {m c:Nat} {k:IntKind} (hop:o.op= .indexAddr t x ix) (hx:look σ x=some (.slice (some ⟨g,of,none⟩) m c)) (hi:look σ ix=some (.int k (y:Int))) (hy:y<m:=by omega) (he:Mi P t=some sz:=by kernel_rfl):Yl P S σ o (.pointer (some ⟨g,of+y*sz,none⟩)):=
 (Yl.indexAddr (ad:=⟨g,of,none⟩) hop hx hi hy he).as (by rw [Addr.add_mid])
theorem Yl.xq {t:TypeId} {x ix:Operand} (g y sz:Nat) {m c:Nat} {k:IntKind} (hop:o.op= .indexAddr t x ix) (hx:look σ x=some (.slice (some ⟨g,0,none⟩) m c)) (hi:look σ ix=some (.int k (y:Int))) (hy:y<m:=by omega) (he:Mi P t=some sz:=by kernel_rfl):Yl P S σ o (.pointer (some ⟨g,y*sz,none⟩)):=
 (Yl.indexAddr (ad:=⟨g,0,none⟩) hop hx hi hy he).as (by rw [Addr.add_mid,Nat.zero_add])
end
section
variable {P:Program} {Q:Exit→Act→World→Prop} {a:Act} {W w:World} {n d:Nat} {D:List Deferred} {σ:List (Nat×Value)} {o:Oper} {v:Value} {K:Act→World→Prop} {fs:List ag}
def xu (P:Program) (e:TypeId):Option (Array Value):=((P.info? e).bind (·.zero)).map Value.cells
theorem q1z {b:Value} {e:TypeId} {cs:Array Value} (hr:(execOp a.eval o).run P w= .ok (.value (.pointer (some ⟨w.heap.size,0,none⟩))) (w.alloc (.cells cs e))) (Z:Fr a n D σ) (HM:Mem W w fs) (hd:o.dst=some d) (hdn:d<n)
  (k:∀a' w' g,Fr a' n D ((d,.pointer (some ⟨g,0,none⟩))::σ)→Mem W w' (.blk g cs e::fs)→K a' w'):o.wp P a w K Q:=by
 have _:=b
 unfold Oper.wp
 rw [hr,Oper.upon_value,hd]
 exact k _ _ _ (Z.put hdn _) (HM.alloc cs e)
theorem PW (Z:Fr a n D σ) (HM:Mem W w fs) {e:TypeId} {cs:Array Value} (hop:o.op= .alloc e) (hz:xu P e=some cs) (hd:o.dst=some d) (hdn:d<n)
  (k:∀a' w' g,Fr a' n D ((d,.pointer (some ⟨g,0,none⟩))::σ)→Mem W w' (.blk g cs e::fs)→K a' w'):o.wp P a w K Q:=by
 refine q1z (b:=undef) ?_ Z HM hd hdn k
 unfold xu at hz
 obtain ⟨z,hz1,rfl⟩:=Option.map_eq_some_iff.1 hz
 obtain ⟨i,hi,hz2⟩:=Option.bind_eq_some_iff.1 hz1
 unfold execOp
 simp [hop,Instr.alloc,zeroValue,typeInfo,hi,hz2,newVar,newRow,newObj]
 rfl
theorem Ai (Z:Fr a n D σ) (HM:Mem W w fs) {e:TypeId} {x:Operand} (hop:o.op= .box e x) (hx:look σ x=some v) {cs:Array Value} (hc:v.cells=cs) (hd:o.dst=some d) (hdn:d<n)
  (k:∀a' w' g,Fr a' n D ((d,.pointer (some ⟨g,0,none⟩))::σ)→Mem W w' (.blk g cs e::fs)→K a' w'):o.wp P a w K Q:=by
 subst hc
 refine q1z (b:=undef) ?_ Z HM hd hdn k
 unfold execOp
 simp [hop,Z.eval hx,Instr.box,newVar,newRow,newObj]
 rfl
theorem Wj {t:TypeId} {g off:Nat} (hs:(P.info? t).map (·.size)=some 1) (hv:v.oneCell'=true) {u:Value} (hc:w.cell? ⟨g,off,none⟩=some u) (hf:w.frozen? ⟨g,off,none⟩=false):
  (Instr.storeAt t (.pointer (some ⟨g,off,none⟩)) v).run P w= .ok () (w.setCell ⟨g,off,none⟩ v):=by
 have ht:w.there g off 1:=fun j hj=>by
  obtain rfl:j=0:=by omega
  simp [hc,hf]
 have hv1:v.cells= #[v]:=by cases v<;>first|rfl|cases hv
 have:=run_storeVar_mid (P:=P) w g off t #[v] (by simpa using ht) (by simpa using hs) (by simp [hv])
 have e2:storeVar t ⟨g,off,none⟩ v=storeVar t ⟨g,off,none⟩ (.agg #[v]):=by
  unfold storeVar
  rw [hv1]
  rfl
 simp only [Instr.storeAt,Instr.sureAddr,Sem.run_bind,Sem.run_pure,Result.andThen_ok,e2,this]
 rfl
theorem Mj (Z:Fr a n D σ) (HM:Mem W w fs) {t:TypeId} {x y:Operand} {i g off:Nat} {cs:Array Value} {tb:TypeId} (hop:o.op= .store t x y) (hd:o.dst=none) (hx:look σ x=some (.pointer (some ⟨g,off,none⟩))) (hy:look σ y=some v) (hs:(P.info? t).map (·.size)=some 1) (hv:v.oneCell'=true)
  (hi:fs[i]?=some (.blk g cs tb)) (ho:off<cs.size) (k:∀w',Mem W w' (fs.set i (.blk g (cs.setIfInBounds off v) tb))→K a w'):o.wp P a w K Q:=by
 have hb:=HM.blk hi
 have hc:w.cell? ⟨g,off,none⟩=some cs[off]:=HM.cell hi (Array.getElem?_eq_getElem ho)
 have hf:w.frozen? ⟨g,off,none⟩=false:=by simp [World.frozen?,hb]
 unfold Oper.wp execOp
 simp only [hop,Z.eval hx,Z.eval hy,Sem.run_bind,Wj hs hv hc hf,Result.andThen_ok,Sem.run_pure,Oper.upon_skip,hd]
 exact k _ (HM.set hi v)
theorem Wl (Z:Fr a n D σ) (HM:Mem W w fs) {t:TypeId} {x y:Operand} {i g m:Nat} {cs ds:Array Value} {tb:TypeId} (hop:o.op= .store t x y) (hd:o.dst=none) (hx:look σ x=some (.pointer (some ⟨g,0,none⟩))) (hy:look σ y=some (.agg ds)) (si:SI P t m) (hc:cs.size=m) (hm:ds.size=m) (h1:∀u∈ds.toList,u.oneCell'=true)
  (hi:fs[i]?=some (.blk g cs tb)) (k:∀w',Mem W w' (fs.set i (.blk g ds tb))→K a w'):o.wp P a w K Q:=by
 have hb:=HM.blk hi
 have hl:=run_storeVar_mid (P:=P) w g 0 t ds (by rw [hm];exact qy hb 0 m om) (by rw [hm];exact si.size) (by simpa using all_oneCell_toArray h1)
 unfold Oper.wp execOp
 simp only [hop,Z.eval hx,Z.eval hy,Sem.run_bind,Instr.storeAt,Instr.sureAddr,Sem.run_pure,hl,Result.andThen_ok,Oper.upon_skip,hd]
 exact k _ (HM.Cj hi om)
def callable (P:Program) (f:FuncId):Bool:=match P.funcs[f]? with
 | some fn => fn.name != "runtime.NumGoroutine" && fn.body.isSome
 |none=>false
theorem EG {f:FuncId} (h:callable P f=true) (args:Array Value) (w:World):(callFunc f args).run P w= .ok (.enter f args) w:=by
 unfold callable at h
 split at h
 ·rename_i fn hf
  rw [Bool.and_eq_true,bne_iff_ne] at h
  have hb:fn.body≠none:=by intro e;rw [e] at h;simp at h
  simp [callFunc,hf,h.1,hb,program,Sem.run,Sem.run_bind]
 ·cases h
def looks (σ:List (Nat×Value)):List Operand→Option (List Value)
 |[]=>some []
 |x::r=>match look σ x,looks σ r with
  |some v,some vs=>some (v::vs)
  |_,_=>none
theorem Cm (Z:Fr a n D σ):∀{xs:List Operand} {vs:List Value},looks σ xs=some vs→xs.map a.eval=vs
 |[],vs,h=>by cases h;rfl
 | x :: r, vs, h => by
  unfold looks at h
  split at h
  ·rename_i v us hx hr
   injection h with h
   subst h
   rw [List.map_cons,Z.eval hx,Cm Z hr]
  ·cases h
theorem Aj (Z:Fr a n D σ) {f:FuncId} {xs:Array Operand} {ts:Array TypeId} {vs:List Value} {R:Ending→World→Prop} (hop:o.op= .call {callee:= .value (.func f),args:=xs,argTypes:=ts}) (hv:looks σ xs.toList=some vs) (hf:callable P f=true) (hd:o.dst=some d) (hdn:d<n)
  (hC:Calls P f vs.toArray w R) (k:∀e w',R e w'→∃v,e= .returned v∧∀a',Fr a' n D ((d,v)::σ)→K a' w'):o.wp P a w K Q:=by
 have e1:xs.map a.eval=vs.toArray:=by
  have:=Cm Z hv
  rw [←this,←Array.toList_map,Array.toArray_toList]
 unfold Oper.wp execOp
 simp only [hop,resolve,Act.eval,Deferred.ofValue,invoke,Sem.run_bind,Sem.run_pure,Result.andThen_ok]
 have e2:xs.map (fun x=>a.eval x)=vs.toArray:=e1
 have e3: #[]++Array.map a.eval xs++ #[]=vs.toArray:=by simp [e1]
 show Oper.upon P o a K Q (((callFunc f (#[]++Array.map a.eval xs++ #[])).run P w))
 rw [e3,EG hf,Oper.upon_enter]
 refine hC.mono fun e w' he=>?_
 obtain ⟨v,rfl,h2⟩:=k e w' he
 show K (a.put o.dst v) w'
 rw [hd]
 exact h2 _ (Z.put hdn v)
theorem o8 (Z:Fr a n D σ) (vs:List Value) {f:FuncId} {xs:Array Operand} {ts:Array TypeId} {R:Ending→World→Prop} (hop:o.op= .call {callee:= .value (.func f),args:=xs,argTypes:=ts}) (hd:o.dst=some d) (hC:Calls P f vs.toArray w R)
  (k:∀e w',R e w'→∃v,e= .returned v∧∀a',Fr a' n D ((d,v)::σ)→K a' w') (hv:looks σ xs.toList=some vs:=by kernel_rfl) (hf:callable P f=true:=by kernel_rfl) (hdn:d<n:=by decide):o.wp P a w K Q:=Aj Z hop hv hf hd hdn hC k
theorem GN (Z:Fr a n D σ) (HM:Mem W w fs) (vs:List Value) (v:Value) {f:FuncId} {xs:Array Operand} {ts:Array TypeId} (hop:o.op= .call {callee:= .value (.func f),args:=xs,argTypes:=ts}) (hd:o.dst=some d)
  (hC:Calls P f vs.toArray w (fun r w'=>r= .returned v∧Below w.heap.size w w')) (k:∀w',Below w.heap.size w w'→Mem W w' fs→∀a',Fr a' n D ((d,v)::σ)→K a' w') (hv:looks σ xs.toList=some vs:=by kernel_rfl) (hf:callable P f=true:=by kernel_rfl) (hdn:d<n:=by decide):o.wp P a w K Q:=
 Aj Z hop hv hf hd hdn hC fun _ w' ⟨h1,h2⟩=>⟨v,h1,k w' h2 (HM.call h2)⟩
theorem eP (Z:Fr a n D σ) (HM:Mem W w fs) (i:Nat) {t:TypeId} {x y:Operand} {g m:Nat} {cs ds:Array Value} {tb:TypeId} (hop:o.op= .store t x y) (hd:o.dst=none) (hx:look σ x=some (.pointer (some ⟨g,0,none⟩))) (hy:look σ y=some (.agg ds)) (hi:fs[i]?=some (.blk g cs tb)) (si:SI P t m) (hc:cs.size=m) (hm:ds.size=m) (h1:∀u∈ds.toList,u.oneCell'=true)
  (k:∀w',Mem W w' (fs.set i (.blk g ds tb))→K a w'):o.wp P a w K Q:=Wl Z HM hop hd hx hy si hc hm h1 hi k
end
section
variable {P:Program} {Q:Exit→Act→World→Prop} {a:Act} {W w:World} {n d:Nat} {D:List Deferred} {σ:List (Nat×Value)} {o:Oper} {v:Value} {K:Act→World→Prop} {fs:List ag}
theorem q6m {base:Nat} {e:TypeId} {size m:Nat} {xs:List Value} (h:w.ownsRow base e size v m xs) (hm:0<m):∃g c,v= .slice (some ⟨g,0,none⟩) m c∧m≤c:=by
 rcases h.2 with ⟨_,h2⟩|⟨g,cap,cur,h1,_,_,h2,_⟩
 ·omega
 ·exact ⟨g,cap,h1,h2⟩
theorem Mk {base:Nat} {e:TypeId} {size m:Nat} {xs:List Value} (h:w.ownsRow base e size v m xs):∃A c,v= .slice A m c∧m≤c:=by
 rcases h.2 with ⟨h1,h2⟩|⟨g,cap,cur,h1,_,_,h2,_⟩
 ·subst h2;exact ⟨_,_,h1,Nat.le_refl _⟩
 ·exact ⟨_,cap,h1,h2⟩
theorem yw (Z:Fr a n D σ) (HM:Mem W w fs) {s x:Operand} {t e:TypeId} {z:Value} {size bytes i m0 m c B:Nat} {A:Option Addr} {xs news:List Value} (hop:o.op= .call {callee:= .builtin .append,args:= #[s,x],argTypes:= #[t,t]}) (ei:EI P t e z size bytes)
  (hs:look σ s=some v) (hx:look σ x=some (.slice A m c)) (hi:fs[i]?=some (.row v m0 xs e size)) (hr:Rd w B size A m news) (h1:∀u∈news,u.oneCell'=true) (hb:(m0+m)*bytes≤140737488355328) (h63:m0+m≤9223372036854775807)
  (hd:o.dst=some d) (hdn:d<n) (k:∀a' w' A' c',Fr a' n D ((d,.slice A' (m0+m) c')::σ)→Mem W w' (fs.set i (.row (.slice A' (m0+m) c') (m0+m) (xs++news) e size))→m0+m≤c'→K a' w'):o.wp P a w K Q:=
 Oc hop ei (HM.own hi) (Z.eval hs) hr (Z.eval hx) h1 hb h63 HM.size fun A' c' w' ho hg hbl=>by
  rw [hd]
  refine k _ _ _ _ (Z.put hdn _) (HM.append hi ho hg hbl) ?_
  rcases ho.2 with ⟨h2,h3⟩|⟨g,cap,cur,h2,_,_,h3,_⟩
  ·omega
  ·injection h2 with _ _ h4;omega
def yx (σ:List (Nat×Value)):List (Nat×Operand)→Option (List (Nat×Value))
 |[]=>some []
 |(i,x)::r=>match look σ x,yx σ r with
  |some v,some vs=>some ((i,v)::vs)
  |_,_=>none
theorem Wm (Z:Fr a n D σ):∀{ps:List (Nat×Operand)} {vs:List (Nat×Value)},yx σ ps=some vs→ps.map (fun p=>(p.1,a.eval p.2))=vs
 |[],vs,h=>by cases h;rfl
 | (i, x) :: r, vs, h => by
  unfold yx at h
  split at h
  ·rename_i v us hx hr
   injection h with h
   subst h
   rw [List.map_cons,Z.eval hx,Wm Z hr]
  ·cases h
theorem PX (Z:Fr a n D σ) {ps:Array (Nat×Operand)} {vs:List (Nat×Value)} (h:yx σ ps.toList=some vs):ps.map (fun p=>(p.1,a.eval p.2))=vs.toArray:=by
 rw [←Wm Z h,←Array.toList_map,Array.toArray_toList]
def Ml (z:Array Value) (m:Nat):Array Value:=(Array.range m).map (z[· %z.size]!)
theorem Wn (Z:Fr a n D σ) (HM:Mem W w fs) {t len e:Nat} {ps:Array (Nat×Operand)} {vs:List (Nat×Value)} {z:Value} {size bytes:Nat} {cs:Array Value} (hop:o.op= .buildSlice t len ps) (ei:EI P t e z size bytes) (hl:decide (0<len∧len*size≤16777216)=true) (hv:yx σ ps.toList=some vs)
  (hf:Instr.fill (fun i=>some (i*size,size)) (Ml z.cells (len*size)) vs=some cs) (hd:o.dst=some d) (hdn:d<n)
  (k:∀a' w' g,Fr a' n D ((d,.slice (some ⟨g,0,none⟩) len len)::σ)→Mem W w' (.blk g cs e::fs)→K a' w'):o.wp P a w K Q:=by
 obtain ⟨i,hi,hz,hsz,_⟩:=info_parts ei.hi
 have hpos:=ei.hs
 simp only [decide_eq_true_eq] at hl
 have h0:¬len*size=0:=by
  have:=Nat.mul_pos hl.1 hpos
  omega
 have h2:¬len*size>2^24:=by omega
 have hrun:(execOp a.eval o).run P w= .ok (.value (.slice (some ⟨w.heap.size,0,none⟩) len len)) (w.alloc (.cells cs e)):=by
  unfold execOp
  have hpm:=PX Z hv
  unfold Ml at hf
  simp only [hop]
  have e1:(Instr.buildSlice t len (ps.map fun p=>(p.1,a.eval p.2))).run P w= .ok (.slice (some ⟨w.heap.size,0,none⟩) len len) (w.alloc (.cells cs e)):=by
   rw [hpm]
   unfold Instr.buildSlice
   simp only [Sem.run_bind,run_underlying ei.ht,Result.andThen_ok,sizeOf,typeInfo,program,Sem.run,hi,Sem.run_pure,hsz,if_neg h2,if_neg h0,zeroValue,hz,hf,newRow,newObj]
   rfl
  simp only [Sem.run_bind,Sem.run_pure]
  show ((Instr.buildSlice t len (ps.map fun p=>(p.1,a.eval p.2))).run P w).andThen _=_
  rw [e1]
  rfl
 unfold Oper.wp
 rw [hrun,Oper.upon_value,hd]
 exact k _ _ _ (Z.put hdn _) (HM.alloc cs e)
theorem Mem.PY (h:Mem W w fs) {i g m c:Nat} {e:TypeId} {size:Nat} {xs:List Value} (hi:fs[i]?=some (.row (.slice (some ⟨g,0,none⟩) m c) m xs e size)) (off:Nat) {ys:List Value} (hy:∀j u,ys[j]?=some u→xs[off+j]?=some u):w.rangeAt g off ys:=fun j u hu=>by
 have ho:=h.own hi
 have:=ho.cells (g:=g) rfl (off+j) u (hy j u hu)
 rw [Addr.add_mid,Nat.zero_add] at this
 exact this
theorem Mem.q75 (h:Mem W w fs) {i g m c:Nat} {e:TypeId} {size:Nat} {xs:List Value} (hi:fs[i]?=some (.row (.slice (some ⟨g,0,none⟩) m c) m xs e size)):w.rangeAt g 0 xs:=h.PY hi 0 (fun j u hu=>by rw [Nat.zero_add];exact hu)
def Am:Nat→List Value→List (Nat×Value)
 |_,[]=>[]
 |i,v::r=>(i,v)::Am (i+1) r
theorem GQ:∀(vs:List Value) (i t:Nat) (v:Value),(Am i vs).lookup t=some v→i≤t∧vs[t-i]?=some v
 |[],_,_,_,h=>by cases h
 | u :: r, i, t, v, h => by
  rw [Am,List.lookup_cons] at h
  split at h
  ·rename_i e
   rw [beq_iff_eq] at e
   subst e
   exact ⟨Nat.le_refl _,by simpa using h⟩
  ·obtain ⟨h1,h2⟩:=GQ r (i+1) t v h
   refine ⟨by omega,?_⟩
   rw [show t-i=(t- (i+1))+1 by omega,List.getElem?_cons_succ]
   exact h2
theorem EH {f N:Nat} {fn:Func} {c:Code} {vs:List Value} {R:Ending→World→Prop} (hf:P.funcs[f]?=some fn) (hb:fn.body=some c) (hn:fn.ntmps=N) (hl:decide (vs.length≤N)=true) {σ0:List (Nat×Value)} (h0:Am 0 vs=σ0)
  (k:∀a,Fr a N [] σ0→c.wp P (bodyPost P fn R) a w):Calls P f vs.toArray w R:=by
 subst h0
 rw [decide_eq_true_eq] at hl
 refine calls_of_wp hf hb (k _ ⟨by simp [hn];omega,rfl,fun t v hv=>?_⟩)
 obtain ⟨_,h1⟩:=GQ vs 0 t v hv
 rw [Nat.sub_zero] at h1
 have hlt:=(List.getElem?_eq_some_iff.1 h1).1
 simp only [Array.getD_eq_getD_getElem?,Array.getElem?_append,List.size_toArray,if_pos hlt]
 simp [h1]
def uw (tmps:Array Value):ResultVar→Sem Value
 | .tmp t=>pure (tmps.getD t undef)
 | .cell b t=>do loadVar t (←asAddr (tmps.getD b undef))
def jN (P:Program) (a:Act) (w:World) (r:ResultVar) (v:Value):Prop:=(uw a.tmps r).run P w= .ok v w
theorem Cn (fn:Func) (tmps:Array Value):results fn tmps=(do
 let vs←fn.results.mapM (uw tmps)
 pure (if h:vs.size=1 then vs[0] else .tuple vs)):=by
 unfold results
 have:uw tmps=(fun| .tmp t=>pure (tmps.getD t undef)| .cell a t=>do loadVar t (←asAddr (tmps.getD a undef))):=by
  funext r;cases r<;>rfl
 rw [this]
 rfl
theorem jN.tmp {t:Nat} (Z:Fr a n D σ) (h:σ.lookup t=some v):jN P a w (.tmp t) v:=by
 unfold jN uw
 simp only [Z.slot t v h]
 rfl
theorem jN.cellS {b i g m:Nat} {t tb:TypeId} {cs:Array Value} (Z:Fr a n D σ) (HM:Mem W w fs) (h:σ.lookup b=some (.pointer (some ⟨g,0,none⟩))) (hi:fs[i]?=some (.blk g cs tb)) (si:SI P t m) (hm:cs.size=m):jN P a w (.cell b t) (.agg cs):=by
 obtain ⟨ds,hu,hd⟩:=si.desc
 have hl:=run_loadVar_mid (P:=P) w g 0 t cs.toList ds (qc (HM.blk hi)) hu hd (by rw [si.size,←hm];simp)
 unfold jN uw
 simp only [Z.slot b _ h]
 simp [asAddr,hl]
theorem jN.cell1 {b i g:Nat} {t tb:TypeId} {cs:Array Value} (Z:Fr a n D σ) (HM:Mem W w fs) (h:σ.lookup b=some (.pointer (some ⟨g,0,none⟩))) (hi:fs[i]?=some (.blk g cs tb)) (ht:fZ P t=true) (hc:cs[0]?=some v):jN P a w (.cell b t) v:=by
 unfold jN uw
 simp only [Z.slot b _ h]
 simp [asAddr,loadVar,PV ht,load,Sem.run,HM.cell hi hc]
section
variable {fn:Func} {R:Ending→World→Prop}
theorem uy {r1:ResultVar} {v1:Value} (hr:fn.results= #[r1]) (Z:Fr a n [] σ) (h1:jN P a w r1 v1) (hR:R (.returned v1) w):bodyPost P fn R .ret a w:=
 bodyPost_ret (v:=v1) (by
  unfold jN at h1
  rw [Cn,hr]
  generalize uw a.tmps=f at*
  simp [h1]) Z.defers hR
theorem dP {r1 r2:ResultVar} {v1 v2:Value} (hr:fn.results= #[r1,r2]) (Z:Fr a n [] σ) (h1:jN P a w r1 v1) (h2:jN P a w r2 v2) (hR:R (.returned (.tuple #[v1,v2])) w):bodyPost P fn R .ret a w:=
 bodyPost_ret (v:= .tuple #[v1,v2]) (by
  unfold jN at h1 h2
  rw [Cn,hr]
  generalize uw a.tmps=f at*
  simp [h1,h2]) Z.defers hR
theorem je {r1 r2 r3:ResultVar} {v1 v2 v3:Value} (hr:fn.results= #[r1,r2,r3]) (Z:Fr a n [] σ) (h1:jN P a w r1 v1) (h2:jN P a w r2 v2) (h3:jN P a w r3 v3) (hR:R (.returned (.tuple #[v1,v2,v3])) w):bodyPost P fn R .ret a w:=
 bodyPost_ret (v:= .tuple #[v1,v2,v3]) (by
  unfold jN at h1 h2 h3
  rw [Cn,hr]
  generalize uw a.tmps=f at*
  simp [h1,h2,h3]) Z.defers hR
end
theorem qu1 {c:Operand} {x y:Code} (Z:Fr a n D σ) (hc:look σ c=some (.bool true)) (h:x.wp P Q a w):(Code.cond c x y).wp P Q a w:=wp_cond_true (Z.eval hc) h
theorem PZ {c:Operand} {x y:Code} (Z:Fr a n D σ) (hc:look σ c=some (.bool false)) (h:y.wp P Q a w):(Code.cond c x y).wp P Q a w:=wp_cond_false (Z.eval hc) h
theorem Fr.as {u:Value} {t:Nat} (h:Fr a n D σ) (hl:σ.lookup t=some v) (e:v=u):Fr a n D ((t,u)::σ):=by
 subst e
 refine ⟨h.size,h.defers,fun s x hx=>?_⟩
 rw [List.lookup_cons] at hx
 split at hx
 ·rename_i hs
  rw [beq_iff_eq] at hs
  subst hs
  injection hx with hx
  subst hx
  exact h.slot s v hl
 ·exact h.slot s x hx
theorem qP {x y:Code} (R:Act→World→Prop) (h:x.wp P (Exit.then R Q) a w) (k:∀a w,R a w→y.wp P Q a w):(Code.seq x y).wp P Q a w:=
 wp_seq (Code.wp_mono (fun e a w hq=>by cases e<;>first|exact k _ _ hq|exact hq) h)
theorem qj {c:Code} (J:Nat→Act→World→Prop) {m:Nat} (h0:J m a w) (round:∀k a w,J k a w→c.wp P (Exit.then (fun a' w'=>∃k',k'<k∧J k' a' w') Q) a w):(Code.loop c).wp P Q a w:=by
 intro b ks cs
 have key:∀m a w,J m a w→∃e a' w',Q e a' w'∧Arrives P (lone (b.at a (.code c:: .inLoop c::ks)) cs w) b ks cs e a' w':=by
  intro m
  induction m using Nat.strongRecOn with
  | _ m ih =>
   intro a w hJ
   obtain ⟨e,a1,w1,hq,harr⟩:=round m a w hJ b (.inLoop c::ks) cs
   cases e with
   |normal=>
    obtain ⟨m',hlt,hJ'⟩:=hq
    obtain ⟨e2,a2,w2,hq2,GR⟩:=ih m' hlt a1 w1 hJ'
    exact ⟨e2,a2,w2,hq2,.of_steps (Steps.trans harr (.one step_inLoop)) GR⟩
   |exit id=>exact ⟨_,a1,w1,hq,.pass (x:= .inLoop c) rfl (fun _ _=> .inl (by simp)) harr⟩
   |goto l=>exact ⟨_,a1,w1,hq,.pass (x:= .inLoop c) rfl (fun _ _=> .inl (by simp)) harr⟩
   |ret=>exact ⟨_,a1,w1,hq,.pass (x:= .inLoop c) rfl (fun _ _=> .inl (by simp)) harr⟩
   |panic ch=>exact ⟨_,a1,w1,hq,.pass (x:= .inLoop c) rfl (fun _ _=> .inl (by simp)) harr⟩
   |outgrown=>exact ⟨_,a1,w1,hq,.pass (x:= .inLoop c) rfl (fun _ _=> .inl (by simp)) harr⟩
 obtain ⟨e,a',w',hq,harr⟩:=key m a w h0
 exact ⟨e,a',w',hq,.of_steps (.one step_loop) harr⟩
end
def putAt (xs:List Value) (off:Nat) (vs:List Value):List Value:=xs.take off++vs++xs.drop (off+vs.length)
theorem Wo {xs:List Value} {off:Nat} {vs:List Value} (h:off+vs.length≤xs.length):(putAt xs off vs).length=xs.length:=by
 unfold putAt
 simp only [List.length_append,List.length_take,List.length_drop]
 omega
theorem Mm {xs:List Value} {off:Nat} {vs:List Value} (h:off+vs.length≤xs.length) (j:Nat):(putAt xs off vs)[j]?=if off≤j∧j<off+vs.length then vs[j-off]? else xs[j]?:=by
 unfold putAt
 have h1:(xs.take off).length=off:=by rw [List.length_take];omega
 rw [List.append_assoc]
 rcases Nat.lt_or_ge j off with h2|h2
 ·rw [if_neg om,List.getElem?_append_left om,List.getElem?_take,if_pos h2]
 ·rw [List.getElem?_append_right om,h1]
  rcases Nat.lt_or_ge j (off+vs.length) with h3|h3
  ·rw [if_pos ⟨h2,h3⟩,List.getElem?_append_left om]
  ·rw [if_neg om,List.getElem?_append_right om,List.getElem?_drop]
   congr 1
   omega
theorem qhb {w:World} {g:Nat} {cur:Array Value} {e:TypeId} (hb:w.heap[g]?=some (.cells cur e (0,0))) (off:Nat) (vs:List Value) (hl:off+vs.length≤cur.size):
  (w.setCells g off vs).heap[g]?=some (.cells (putAt cur.toList off vs).toArray e (0,0)):=by
 have h1:cur=(cur.toList.take off++(cur.toList.drop off).take vs.length++cur.toList.drop (off+vs.length)).toArray:=by
  apply Array.toList_inj.1
  simp only [List.append_assoc]
  rw [←List.drop_drop,List.take_append_drop,List.take_append_drop]
 have h2:=OL g e vs w (cur.toList.take off) (cur.toList.drop (off+vs.length)) ((cur.toList.drop off).take vs.length) (by rw [←h1];exact hb) (by simp only [List.length_take,List.length_drop,Array.length_toList];omega)
 rw [List.length_take,Array.length_toList,Nat.min_eq_left om] at h2
 exact h2
section
variable {P:Program} {Q:Exit→Act→World→Prop} {a:Act} {W w:World} {n d:Nat} {D:List Deferred} {σ:List (Nat×Value)} {o:Oper} {v:Value} {K:Act→World→Prop} {fs:List ag}
theorem Mem.Co (h:Mem W w fs) {i g m c:Nat} {e:TypeId} {size:Nat} {xs:List Value} (hi:fs[i]?=some (.row (.slice (some ⟨g,0,none⟩) m c) m xs e size)) {off:Nat} {vs:List Value} (hl:off+vs.length≤xs.length):
  Mem W (w.setCells g off vs) (fs.set i (.row (.slice (some ⟨g,0,none⟩) m c) m (putAt xs off vs) e size)):=by
 have ho:=h.own hi
 obtain ⟨hlen,h2⟩:=ho
 rcases h2 with ⟨h3,_⟩|⟨g',cap,cur,hv,hb,hg,hnc,hcm,hcs,ht⟩
 ·cases h3
 ·injection hv with hv hv2 hv3
  injection hv with hv
  injection hv with hv
  subst hv;subst hv3
  have P5:m*size≤cur.size:=by rw [hcs];exact Nat.mul_le_mul_right _ hnc
  refine h.turn hi (below_setCells h.below hb off vs) (fun k hk hne=>F5 _ _ _ _ _ (fun e=>hne (by rw [e];rfl))) ?_ (fun g' hg'=> .inl hg')
  refine ⟨by rw [Wo hl];exact hlen,.inr ⟨g,c,_,rfl,hb,qhb hg off vs om,hnc,hcm,?_,?_⟩⟩
  ·rw [List.size_toArray,Wo (by simpa using (by omega:off+vs.length≤cur.size)),Array.length_toList,hcs]
  ·show (putAt cur.toList off vs).take (m*size)=putAt xs off vs
   subst ht
   have hl':off+vs.length≤cur.toList.length∧off+vs.length≤m*size:=by
    rw [List.length_take,Array.length_toList] at hl
    rw [Array.length_toList]
    omega
   apply List.ext_getElem?
   intro j
   rw [Mm hl,List.getElem?_take,List.getElem?_take,Mm hl'.1]
   by_cases h3:off≤j∧j<off+vs.length
   ·rw [if_pos h3,if_pos om,if_pos h3]
   ·rw [if_neg h3,if_neg h3]
theorem qjw (h:Mem W w fs) {i g m c:Nat} {e:TypeId} {size:Nat} {xs:List Value} (hi:fs[i]?=some (.row (.slice (some ⟨g,0,none⟩) m c) m xs e size)) (off k:Nat) (hl:off+k≤xs.length):w.there g off k:=by
 have ho:=h.own hi
 obtain ⟨hlen,h2⟩:=ho
 rcases h2 with ⟨h3,_⟩|⟨g',cap,cur,hv,hb,hg,hnc,hcm,hcs,ht⟩
 ·cases h3
 ·injection hv with hv hv2 hv3
  injection hv with hv
  injection hv with hv
  subst hv;subst hv3
  have P5:m*size≤cur.size:=by rw [hcs];exact Nat.mul_le_mul_right _ hnc
  exact qy hg off k om
theorem P6 (Z:Fr a n D σ) (HM:Mem W w fs) {t:TypeId} {x y:Operand} {i g off m c:Nat} {xs:List Value} {e:TypeId} {size:Nat} (hop:o.op= .store t x y) (hd:o.dst=none) (hx:look σ x=some (.pointer (some ⟨g,off,none⟩))) (hy:look σ y=some v) (hs:(P.info? t).map (·.size)=some 1) (hv:v.oneCell'=true)
  (hi:fs[i]?=some (.row (.slice (some ⟨g,0,none⟩) m c) m xs e size)) (ho:off<xs.length) (k:∀w',Mem W w' (fs.set i (.row (.slice (some ⟨g,0,none⟩) m c) m (putAt xs off [v]) e size))→K a w'):o.wp P a w K Q:=by
 have ht:=qjw HM hi off 1 om 0 om
 rw [Nat.add_zero] at ht
 obtain ⟨u,hu⟩:=Option.isSome_iff_exists.1 ht.1
 unfold Oper.wp execOp
 simp only [hop,Z.eval hx,Z.eval hy,Sem.run_bind,Wj hs hv hu ht.2,Result.andThen_ok,Sem.run_pure,Oper.upon_skip,hd]
 exact k _ (HM.Co hi (vs:=[v]) ho)
theorem Wp (Z:Fr a n D σ) (HM:Mem W w fs) {s x:Operand} {t e:TypeId} {z:Value} {size bytes m0 cap m c B B':Nat} {A A2:Option Addr} {xs news:List Value} (hop:o.op= .call {callee:= .builtin .append,args:= #[s,x],argTypes:= #[t,t]}) (ei:EI P t e z size bytes)
  (hs:look σ s=some (.slice A m0 cap)) (hx:look σ x=some (.slice A2 m c)) (hrs:Rd w B size A m0 xs) (hr:Rd w B' size A2 m news) (hm:0<m) (hg:cap<m0+m) (hnone:A=none→m0=0∧cap=0) (hb:(m0+m)*bytes≤140737488355328) (h63:m0+m≤9223372036854775807)
  (hd:o.dst=some d) (hdn:d<n) (k:∀a' w' g c',Fr a' n D ((d,.slice (some ⟨g,0,none⟩) (m0+m) c')::σ)→Mem W w' (.row (.slice (some ⟨g,0,none⟩) (m0+m) c') (m0+m) (xs++news) e size::fs)→m0+m≤c'→K a' w'):o.wp P a w K Q:=by
 obtain ⟨i,hi,hz,hsz,hby⟩:=info_parts ei.hi
 obtain ⟨ad,hA2,_,hcells⟩:=hr.row hm
 subst hA2
 have hlen:(xs++news).length=(m0+m)*size:=by rw [List.length_append,hrs.len,hr.len,Nat.add_mul]
 obtain ⟨c',w',hrun,hw'⟩:∃c' w',(Builtin.append_ #[t,t] o.type #[.slice A m0 cap,.slice (some ad) m c]).run P w= .ok (.slice (some ⟨w.heap.size,0,none⟩) (m0+m) c') w'∧
   (m0+m≤c'∧c'≤maxLen∧w'=w.drew.alloc (.cells (xs.toArray++news.toArray++Builtin.zeroCells z.cells (c'- (m0+m))) e)):=by
  cases A with
  |none=>
   obtain ⟨rfl,rfl⟩:=hnone rfl
   have hx0:xs=[]:=List.eq_nil_of_length_eq_zero (by simpa using hrs.len)
   subst hx0
   have hr2:=run_append_nil (P:=P) w t o.type e i z ei.ht hi hz ad m c news (by rw [hsz];exact hr.len) hcells hm om (by rw [hby];rw [Nat.zero_add] at hb;omega)
   refine ⟨_,_,by rw [Nat.zero_add];exact hr2,?_,?_,?_⟩
   ·rw [Nat.zero_add];exact grownCap_ge w m 0 e
   ·exact grownCap_le_maxLen w m 0 e (by unfold maxLen;omega)
   ·simp
  | some b =>
   have holds:∀j u,xs[j]?=some u→w.cell? (b.add j)=some u:=by
    intro j u hu
    rcases Nat.eq_zero_or_pos m0 with h0|h0
    ·have hl0:=hrs.len
     rw [h0,Nat.zero_mul] at hl0
     rw [List.eq_nil_of_length_eq_zero hl0] at hu
     simp at hu
    ·obtain ⟨ad',h1,_,h2⟩:=hrs.row h0
     injection h1 with h1
     subst h1
     exact h2 j u hu
   have hr2:=run_append_grow (P:=P) w t o.type e i z ei.ht hi hz b m0 cap xs (by rw [hsz];exact hrs.len) holds ad m c news (by rw [hsz];exact hr.len) hcells hg om (by rw [hby];exact growslice_fits hg hb)
   exact ⟨_,_,hr2,grownCap_ge w (m0+m) cap e,grownCap_le_maxLen w (m0+m) cap e (by unfold maxLen;omega),rfl⟩
 obtain ⟨h1,h2,rfl⟩:=hw'
 have hown:(w.drew.alloc (.cells (xs.toArray++news.toArray++Builtin.zeroCells z.cells (c'- (m0+m))) e)).ownsRow w.heap.size e size (.slice (some ⟨w.heap.size,0,none⟩) (m0+m) c') (m0+m) (xs++news):=by
  refine ⟨hlen,.inr ⟨w.heap.size,_,_,rfl,Nat.le_refl _,World.alloc_heap_new w.drew _,h1,h2,?_,?_⟩⟩
  ·simp only [Array.size_append,List.size_toArray,size_zeroCells,ei.hz,hrs.len,hr.len,←Nat.add_mul]
   congr 1
   omega
  ·simp only [Array.toList_append,List.append_assoc]
   rw [←List.append_assoc,←hlen]
   exact List.take_left
 unfold Oper.wp execOp
 simp only [hop,resolve,invoke,builtin,Sem.run_bind,Sem.run_pure,Result.andThen_ok,List.map_toArray,List.map_cons,List.map_nil,Z.eval hs,Z.eval hx,hrun]
 rw [Oper.upon_value,hd]
 exact k _ _ w.heap.size c' (Z.put hdn _) (HM.bN ((Below.refl _ _).drew.alloc (by simp) _) hown) h1
theorem Mem.j3 (h:Mem W w fs) {i m:Nat} {e:TypeId} {size:Nat} {xs ys:List Value} (hi:fs[i]?=some (.row v m xs e size)) (he:xs=ys):Mem W w (fs.set i (.row v m ys e size)):=by
 subst he
 obtain ⟨hl,hg⟩:=List.getElem?_eq_some_iff.1 hi
 rw [←hg,List.set_getElem_self]
 exact h
end
theorem Wq {α:Type} (f:α→List Value) (sz:Nat) (hf:∀x,(f x).length=sz):∀(l:List α) (k:Nat) (x:α),k<l.length→putAt (l.flatMap f) (k*sz) (f x)=(l.set k x).flatMap f
 |[],k,x,h=>by simp at h
 |y::r,0,x,h=>by
  unfold putAt
  rw [Nat.zero_mul,Nat.zero_add,hf,List.flatMap_cons,List.set_cons_zero,List.flatMap_cons,List.take_zero,List.nil_append,List.drop_append_of_le_length (by rw [hf];exact Nat.le_refl _),List.drop_of_length_le (by rw [hf];exact Nat.le_refl _),List.nil_append]
 | y :: r, k + 1, x, h => by
  have ih:=Wq f sz hf r k x (by simpa using h)
  unfold putAt at ih⊢
  rw [List.flatMap_cons,List.set_cons_succ,List.flatMap_cons,←ih,Nat.succ_mul]
  have e1:(f y++r.flatMap f).take (k*sz+sz)=f y++(r.flatMap f).take (k*sz):=by
   rw [List.take_append,List.take_of_length_le (by rw [hf];omega),hf,Nat.add_sub_cancel]
  have e2:(f y++r.flatMap f).drop (k*sz+sz+(f x).length)=(r.flatMap f).drop (k*sz+(f x).length):=by
   rw [List.drop_append,List.drop_of_length_le (by rw [hf];omega),List.nil_append,hf y]
   congr 1
   omega
  rw [e1,e2]
  simp only [List.append_assoc]
theorem P7 {α:Type} (f:α→List Value) (sz:Nat) (hf:∀x,(f x).length=sz) (l:List α) (k:Nat) (y x:α) (hk:l[k]?=some y) (off:Nat) (ho:off<sz) (v:Value) (hx:f x=(f y).set off v):putAt (l.flatMap f) (k*sz+off) [v]=(l.set k x).flatMap f:=by
 obtain ⟨hl,he⟩:=List.getElem?_eq_some_iff.1 hk
 rw [←Wq f sz hf l k x hl,hx]
 have hlen:=qK f sz hf l
 have hsz:k*sz+sz≤l.length*sz:=by rw [←Nat.succ_mul];exact Nat.mul_le_mul_right _ hl
 have hfl:((f y).set off v).length=sz:=by rw [List.length_set,hf]
 apply List.ext_getElem?
 intro j
 rw [Mm (by rw [List.length_singleton];omega),Mm (by rw [hfl];omega),hfl,List.length_singleton]
 by_cases h1:k*sz≤j∧j<k*sz+sz
 ·rw [if_pos h1]
  have hat:=BO f sz hf l k (j-k*sz) hl om
  rw [he,show k*sz+(j-k*sz)=j by omega] at hat
  by_cases h2:k*sz+off≤j∧j<k*sz+off+1
  ·obtain rfl:j=k*sz+off:=by omega
   rw [if_pos h2,Nat.sub_self,show k*sz+off-k*sz=off by omega,List.getElem?_set_self (by rw [hf];exact ho)]
   rfl
  ·rw [if_neg h2,hat,List.getElem?_set_ne om]
 ·rw [if_neg h1,if_neg om]
theorem Mem.Ap {W w:World} {fs:List ag} (h:Mem W w fs) {α:Type} {f:α→List Value} {sz:Nat} (hf:∀x,(f x).length=sz) {i g m c:Nat} {e:TypeId} {l:List α} (hi:fs[i]?=some (.row (.slice (some ⟨g,0,none⟩) m c) m (l.flatMap f) e sz)) {k off:Nat} {x:α} {v:Value} (hk:l[k]?=some x) (hv:(f x)[off]?=some v):w.cell? ⟨g,k*sz+off,none⟩=some v:=by
 obtain ⟨hl,he⟩:=List.getElem?_eq_some_iff.1 hk
 have ho:off<sz:=by have:=(List.getElem?_eq_some_iff.1 hv).1;rwa [hf] at this
 have:=h.PY hi (k*sz+off) (ys:=[v]) (fun j u hu=>by
  cases j with
  |zero=>
   injection hu with hu
   subst hu
   rw [Nat.add_zero,BO f sz hf l k off hl ho,he]
   exact hv
  |succ j=>cases hu)
 exact this 0 v rfl
section
variable {P:Program} {Q:Exit→Act→World→Prop} {a:Act} {W w:World} {n d:Nat} {D:List Deferred} {σ:List (Nat×Value)} {o:Oper} {K:Act→World→Prop} {fs:List ag}
theorem YC (w:World) (a:Addr) (n k:Nat) (h:k≠a.block):(w.freeze a n).heap[k]?=w.heap[k]?:=by
 unfold World.freeze
 split
 ·rfl
 ·simp only [Array.getElem?_modify]
  rw [if_neg om]
theorem below_freeze {B:Nat} {W w:World} (h:Below B W w) {a:Addr} (ha:B≤a.block) (n:Nat):Below B W (w.freeze a n):=by
 refine h.trans ⟨?_,?_,?_,?_,fun k hk=>YC _ _ _ _ om⟩<;>unfold World.freeze<;>split<;>simp
theorem qpr {w:World} {g m:Nat} {cs:Array Value} {e:TypeId} (hb:w.heap[g]?=some (.cells cs e (0,0))):(w.freeze ⟨g,m,none⟩ 1).heap[g]?=some (.cells cs e (m,m+1)):=by
 unfold World.freeze
 rw [if_neg de]
 simp [Array.getElem?_modify,hb]
theorem YD (Z:Fr a n D σ) (HM:Mem W w fs) (i:Nat) {t e:TypeId} {x:Operand} {g m c:Nat} {cs:Array Value} {te:TypeId} (hop:o.op= .convert t t x) (hx:look σ x=some (.slice (some ⟨g,0,none⟩) m c)) (hi:fs[i]?=some (.blk g cs te)) (ht:P.underlying t=some (.slice e)) (he:P.underlying e=some (.int .u8)) (hd:o.dst=some d) (hdn:d<n)
  (k:∀a' w',Fr a' n D ((d,.slice (some ⟨g,0,none⟩) m c)::σ)→Mem W w' (fs.set i (.obj g (.cells cs te (cs.size,cs.size+1))))→K a' w'):o.wp P a w K Q:=by
 have hb:=HM.blk hi
 have hh:=HM.holds _ (List.mem_of_getElem? hi)
 have hsh:w.shape? g=some (te,cs.size):=by unfold World.shape?;rw [hb]
 have hr:(execOp a.eval o).run P w= .ok (.value (.slice (some ⟨g,0,none⟩) m c)) (w.freeze ⟨g,cs.size,none⟩ 1):=by
  unfold execOp
  simp [hop,Z.eval hx,convert,run_underlying ht,run_underlying he,markStringish,hsh]
 unfold Oper.wp
 rw [hr,Oper.upon_value,hd]
 refine k _ _ (Z.put hdn _) (HM.turn hi (below_freeze HM.below hh.1 1) (fun k hk hne=>YC _ _ _ _ (fun e=>hne (by rw [e];rfl))) ⟨hh.1,qpr hb⟩ (fun g' hg'=> .inl hg'))
theorem Mem.uS (h:Mem W w fs) {i g:Nat} {cs:Array Value} {t:TypeId} {q:Nat×Nat} {size n:Nat} (hi:fs[i]?=some (.obj g (.cells cs t q))) (hn:cs.size=n*size):Rd w w.heap.size size (some ⟨g,0,none⟩) n cs.toList:=
 have hb:w.heap[g]?=some (.cells cs t q):=(h.holds _ (List.mem_of_getElem? hi)).2
 ⟨by simpa using hn,fun _=>⟨_,rfl,zl hb,fun j u hu=>by
  rw [Addr.add_mid,Nat.zero_add]
  simp only [World.cell?,hb]
  simpa using hu⟩⟩
end
section
variable {w:World} {B size n:Nat} {A:Option Addr} {xs:List Value} {g o:Nat}
theorem Rd.qp (h:Rd w B size A n xs) (hn:0<n) (hs:0<size):∃g o,A=some ⟨g,o,none⟩∧g<B:=by
 obtain ⟨ad,rfl,hb,hc⟩:=h.row hn
 have hl:=h.len
 have h1:n*size≥1*1:=Nat.mul_le_mul hn hs
 have hsp:=Vi (hc 0 _ (List.getElem?_eq_getElem om))
 have hs':ad.spot=none:=by simpa [Addr.add] using hsp
 obtain ⟨g,o,sp⟩:=ad
 cases hs'
 exact ⟨g,o,rfl,hb⟩
theorem Rd.range (h:Rd w B size (some ⟨g,o,none⟩) n xs):w.rangeAt g o xs:=fun j u hu=>by
 have hj:=(List.getElem?_eq_some_iff.1 hu).1
 rcases Nat.eq_zero_or_pos n with rfl|hn
 ·have:=h.len;omega
 ·obtain ⟨ad,e,hb,hc⟩:=h.row hn
  injection e with e
  subst e
  have:=hc j u hu
  rwa [Addr.add_mid] at this
theorem Rd.Mo (h:Rd w B 1 (some ⟨g,o,none⟩) n xs) {k:Nat} {u:Value} (hu:xs[k]?=some u):w.cell? ⟨g,o+k*1,none⟩=some u:=by rw [Nat.mul_one];exact h.range k u hu
theorem Rd.qQ {α:Type} {f:α→List Value} (hf:∀x,(f x).length=size) {l:List α} (h:Rd w B size (some ⟨g,o,none⟩) n (l.flatMap f)) {k:Nat} {x:α} (hk:l[k]?=some x):w.rangeAt g (o+k*size) (f x):=fun j u hu=>by
 obtain ⟨hl,he⟩:=List.getElem?_eq_some_iff.1 hk
 have hj:j<size:=by have:=(List.getElem?_eq_some_iff.1 hu).1;rwa [hf] at this
 have h1:=h.range (k*size+j) u ((BO f size hf l k j hl hj).trans (by rw [he];exact hu))
 rw [←Nat.add_assoc] at h1
 exact h1
theorem Rd.partAt {α:Type} {f:α→List Value} (hf:∀x,(f x).length=size) {l:List α} (h:Rd w B size (some ⟨g,o,none⟩) n (l.flatMap f)) {k j:Nat} {x:α} {u:Value} (hk:l[k]?=some x) (hu:(f x)[j]?=some u):w.cell? ⟨g,o+k*size+j,none⟩=some u:=h.qQ hf hk j u hu
end
section
variable {W w:World} {fs:List ag}
theorem Mem.q76 (h:Mem W w fs) {i g m c:Nat} {e:TypeId} {xs:List Value} (hi:fs[i]?=some (.row (.slice (some ⟨g,0,none⟩) m c) m xs e 1)) {k:Nat} {u:Value} (hu:xs[k]?=some u):w.cell? ⟨g,k*1,none⟩=some u:=by
 have h1:=h.q75 hi k u hu
 rwa [Nat.zero_add,←Nat.mul_one k] at h1
theorem Mem.bu (h:Mem W w fs) {i n n':Nat} {A:Option Addr} {c size:Nat} {e:TypeId} {xs ys:List Value} (hi:fs[i]?=some (.row (.slice A n c) n xs e size)) (hn:n=n') (hx:xs=ys):Mem W w (fs.set i (.row (.slice A n' c) n' ys e size)):=by
 subst hn;subst hx
 obtain ⟨hl,he⟩:=List.getElem?_eq_some_iff.1 hi
 rw [←he,List.set_getElem_self]
 exact h
end
theorem Cq {α:Type} {F:α→Value} {l:List α} {k:Nat} {x:α} (h:l[k]?=some x):(l.map F)[k]?=some (F x):=by rw [List.getElem?_map,h];rfl
section
variable {P:Program} {Q:Exit→Act→World→Prop} {a:Act} {W w:World} {n d:Nat} {D:List Deferred} {σ:List (Nat×Value)} {o:Oper} {K:Act→World→Prop} {fs:List ag}
theorem q3o (Z:Fr a n D σ) (HM:Mem W w fs) {t e:Nat} {l c:Operand} {z:Value} {size bytes m:Nat} {kl kc:IntKind} (hop:o.op= .makeSlice t l c) (ei:EI P t e z size bytes) (hl:look σ l=some (.int kl 0)) (hc:look σ c=some (.int kc (m:Int))) (hb:bytes*m≤281474976710656) (h63:m≤9223372036854775807) (hd:o.dst=some d) (hdn:d<n)
  (k:∀a' w' g,Fr a' n D ((d,.slice (some ⟨g,0,none⟩) 0 m)::σ)→Mem W w' (.row (.slice (some ⟨g,0,none⟩) 0 m) 0 [] e size::fs)→K a' w'):o.wp P a w K Q:=by
 obtain ⟨i,hi,hz,hsz,hby⟩:=info_parts ei.hi
 obtain ⟨w',hrun,hown,hgr⟩:=run_make_own (P:=P) w w.heap.size t e i z size ei.ht hi hz hsz kl kc m (by rw [hby];exact hb) h63 (Nat.le_refl _)
 have e1:(execOp a.eval o).run P w= .ok (.value (.slice (some ⟨w.heap.size,0,none⟩) 0 m)) w':=by
  unfold execOp
  simp only [hop,Z.eval hl,Z.eval hc,Sem.run_bind]
  rw [hrun]
  rfl
 unfold Oper.wp
 rw [e1,Oper.upon_value,hd]
 exact k _ _ _ (Z.put hdn _) (HM.bN ((Below.refl _ _).grown hgr (Nat.le_refl _) (fun _ h=>by cases h)) hown)
end
theorem Rd.pre {w:World} {B n m:Nat} {A:Option Addr} {l r:List Nat} (h:Rd w B 1 A m ((l++r).map B8)) (hl:l.length=n) (hm:n≤m):Rd w B 1 A n (l.map B8):=by
 have h1:=h.upto hm
 rwa [Nat.mul_one,List.map_append,List.take_append_of_le_length (by simp [hl]),List.take_of_length_le (by simp [hl])] at h1
theorem Mem.sub {W w:World} {fs:List ag} (h:Mem W w fs) {i g:Nat} {cs:Array Value} {t:TypeId} (hi:fs[i]?=some (.blk g cs t)) (off:Nat) {ds:Array Value} (he:(cs.toList.drop off).take ds.size=ds.toList):w.rangeAt g off ds.toList:=fun j u hu=>by
 have hr:w.rangeAt g 0 cs.toList:=qc (h.blk hi)
 have hc:cs.toList[off+j]?=some u:=by
  rw [←he,List.getElem?_take] at hu
  split at hu
  ·rwa [List.getElem?_drop] at hu
  ·cases hu
 have:=hr (off+j) u hc
 rwa [Nat.zero_add] at this
section
variable {P:Program} {S:World→Prop} {σ:List (Nat×Value)} {o:Oper}
end
theorem Rd.Cr {w:World} {B n k:Nat} {A:Option Addr} {l:List Nat} (h:Rd w B 1 A n (l.map B8)) (hk:k≤n):Rd w B 1 A k ((l.take k).map B8):=by
 have h1:=h.upto hk
 rwa [Nat.mul_one,←List.map_take] at h1
def bR (x:Int):Value:= .int .i64 x
theorem Mem.P8 {W w:World} {fs fs':List ag} (h:Mem W w fs) (n:Nat) (is:List Nat) (hn:is.Nodup) (hlt:(is.all (· <n))=true) (he:Go.Proofs.YtieeckeaijdaeaaGreatDoor.picks fs is++fs.drop n=fs'):Mem W w fs':=by
 subst he
 refine ⟨h.below,fun f hf=>?_,List.pairwise_append.2 ⟨Md h.apart hn,?_,?_⟩⟩
 ·rcases List.mem_append.1 hf with hf|hf
  ·obtain ⟨j,_,hj⟩:=List.mem_filterMap.1 hf
   exact h.holds f (List.mem_of_getElem? hj)
  ·exact h.holds f (List.mem_of_mem_drop hf)
 ·exact h.apart.sublist (List.drop_sublist _ _)
 ·intro f hf g hg
  obtain ⟨j,hj,ED⟩:=List.mem_filterMap.1 hf
  have hjn:j<n:=by simpa using List.all_eq_true.1 hlt j hj
  obtain ⟨i,hi,hig⟩:=List.getElem_of_mem hg
  rw [List.getElem_drop] at hig
  rw [List.length_drop] at hi
  obtain ⟨hjl,hje⟩:=List.getElem?_eq_some_iff.1 ED
  have:=List.pairwise_iff_getElem.1 h.apart j (n+i) hjl om om
  rwa [hje,hig] at this
end Go.Proofs.YtieeckeaijdaeaaGreatDoor
namespace Go.Proofs.YtieeckeaijdaeaaGreatDoor
open Go.RowKit Go.MapKept
section
variable {P:Program} {Q:Exit→Act→World→Prop} {a:Act} {W w:World} {n d:Nat} {D:List Deferred} {σ:List (Nat×Value)} {o:Oper} {K:Act→World→Prop} {fs:List ag} {S:World→Prop}
theorem Mem.fI (h:Mem W w fs) {i g:Nat} {ob:Obj} (hi:fs[i]?=some (.obj g ob)):w.heap[g]?=some ob:=(h.holds _ (List.mem_of_getElem? hi)).2
theorem Mem.setObj (h:Mem W w fs) {i g:Nat} {ob:Obj} (hi:fs[i]?=some (.obj g ob)) (GU:Obj):Mem W {w with heap:=w.heap.setIfInBounds g GU} (fs.set i (.obj g GU)):=by
 have hb:=h.holds _ (List.mem_of_getElem? hi)
 have hlt:=zl hb.2
 have hother:∀k,k≠g→(w.heap.setIfInBounds g GU)[k]?=w.heap[k]?:=fun k hk=>Array.getElem?_setIfInBounds_ne (Ne.symm hk)
 refine h.turn hi ⟨h.below.os,h.below.tape,h.below.output,by simpa using h.below.size,fun k hk=>?_⟩ (fun k _ hne=>hother k (fun e=>hne (by rw [e];rfl))) ⟨hb.1,?_⟩ (fun g' hg'=> .inl hg')
 ·have:=hb.1
  exact (hother k om).trans (h.below.block k hk)
 ·show (w.heap.setIfInBounds g GU)[g]?=some GU
  rw [Array.getElem?_setIfInBounds_self]
  simp [hlt]
theorem qu2 (Z:Fr a n D σ) (HM:Mem W w fs) {t:TypeId} (hop:o.op= .makeMap t none) (hd:o.dst=some d) (hdn:d<n)
  (k:∀a' w' g,Fr a' n D ((d,.map (some g))::σ)→Mem W w' (.obj g (.map #[] 0)::fs)→K a' w'):o.wp P a w K Q:=by
 have e1:(execOp a.eval o).run P w= .ok (.value (.map (some w.heap.size))) (w.alloc (.map #[] 0)):=by
  unfold execOp
  simp only [hop,Sem.run_bind]
  rfl
 unfold Oper.wp
 rw [e1,Oper.upon_value,hd]
 exact k _ _ _ (Z.put hdn _) (HM.jY _)
theorem Ws (Z:Fr a n D σ) (HM:Mem W w fs) {t kt et:TypeId} {kd:TypeDesc} {m x y:Operand} {i g clock:Nat} {es:Array MapEntry} {key val:Value} (hop:o.op= .mapUpdate t m x y∨o.op= .insert t m x y) (hd:o.dst=none) (ht:P.underlying t=some (.map kt et)) (hk:P.underlying kt=some kd)
  (hm:look σ m=some (.map (some g))) (hx:look σ x=some key) (hy:look σ y=some val) (hi:fs[i]?=some (.obj g (.map es clock))) (hkey:IsKey kd key) (hf:Instr.findNow kd key es.toList 0=some none)
  (k:∀w',Mem W w' (fs.set i (.obj g (.map (es.push {key,val,born:=clock}) (clock+1))))→K a w'):o.wp P a w K Q:=by
 have hb:=HM.fI hi
 have e1:(Instr.mapUpdate t (.map (some g)) key val).run P w= .ok () {w with heap:=w.heap.setIfInBounds g (.map (es.push {key,val,born:=clock}) (clock+1))}:=by
  unfold Instr.mapUpdate
  simp only [Sem.run_bind,run_underlying ht,Result.andThen_ok,MapKept.run_getObj_map hb,run_checkKey hk hkey,run_findKey hk hf,MapKept.run_setObj_map _ hb]
 unfold Oper.wp execOp
 rcases hop with hop|hop<;>simp only [hop,Z.eval hm,Z.eval hx,Z.eval hy,Sem.run_bind,e1,Result.andThen_ok,Sem.run_pure,Oper.upon_skip,hd]
 ·exact k _ (HM.setObj hi _)
 ·exact k _ (HM.setObj hi _)
theorem Yl.Wt {t kt et:TypeId} {kd:TypeDesc} {m x:Operand} {g clock j:Nat} {es:Array MapEntry} {key v:Value} (hop:o.op= .lookup t m x false) (ht:P.underlying t=some (.map kt et)) (hk:P.underlying kt=some kd) (hm:look σ m=some (.map (some g))) (hx:look σ x=some key) (hb:∀w,S w→w.heap[g]?=some (.map es clock)) (hkey:IsKey kd key) (hf:Instr.findNow kd key es.toList 0=some (some (j,v))):
  Yl P S σ o v:=fun a n D Z w hS=>by
 have e1:(Instr.lookup t (.map (some g)) key false).run P w= .ok v w:=by
  unfold Instr.lookup
  simp only [Sem.run_bind,run_underlying ht,Result.andThen_ok,MapKept.run_getObj_map (hb w hS),Sem.run_pure,run_checkKey hk hkey,run_findKey hk hf]
  rfl
 unfold execOp
 simp only [hop,Z.eval hm,Z.eval hx,Sem.run_bind,e1,Result.andThen_ok,Sem.run_pure]
theorem Yl.qt5 {t kt et:TypeId} {kd:TypeDesc} {m x:Operand} {g clock:Nat} {es:Array MapEntry} {key z:Value} (hop:o.op= .lookup t m x false) (ht:P.underlying t=some (.map kt et)) (hk:P.underlying kt=some kd) (hm:look σ m=some (.map (some g))) (hx:look σ x=some key) (hb:∀w,S w→w.heap[g]?=some (.map es clock)) (hkey:IsKey kd key) (hf:Instr.findNow kd key es.toList 0=some none) (hz:(P.info? et).bind (·.zero)=some z):
  Yl P S σ o z:=fun a n D Z w hS=>by
 obtain ⟨inf,hi,hiz⟩:=Option.bind_eq_some_iff.1 hz
 have e1:(Instr.lookup t (.map (some g)) key false).run P w= .ok z w:=by
  unfold Instr.lookup
  simp only [Sem.run_bind,run_underlying ht,Result.andThen_ok,MapKept.run_getObj_map (hb w hS),Sem.run_pure,run_checkKey hk hkey,run_findKey hk hf,zeroValue,typeInfo,program,Sem.run,hi,hiz]
  rfl
 unfold execOp
 simp only [hop,Z.eval hm,Z.eval hx,Sem.run_bind,e1,Result.andThen_ok,Sem.run_pure]
theorem Yl.makeFunc {fn:Fn} {xs ys:Array Operand} {fst aJ:List Value} (hop:o.op= .makeFunc fn xs ys) (hx:looks σ xs.toList=some fst) (hy:looks σ ys.toList=some aJ):Yl P S σ o (.func fn fst.toArray aJ.toArray):=fun a n D Z w hS=>by
 have e1:xs.map a.eval=fst.toArray:=by
  have:=Cm Z hx
  rw [←this,←Array.toList_map,Array.toArray_toList]
 have e2:ys.map a.eval=aJ.toArray:=by
  have:=Cm Z hy
  rw [←this,←Array.toList_map,Array.toArray_toList]
 unfold execOp
 simp only [hop,Instr.makeFunc,Sem.run_bind,Sem.run_pure,Result.andThen_ok]
 show Result.ok (Next.value (.func fn (Array.map a.eval xs) (Array.map a.eval ys))) w=_
 rw [e1,e2]
theorem zg (Z:Fr a n D σ) {fo:Operand} {f:FuncId} {xs:Array Operand} {ts:Array TypeId} {vs fst aJ:List Value} {R:Ending→World→Prop} (hop:o.op= .call {callee:= .value fo,args:=xs,argTypes:=ts}) (hfo:look σ fo=some (.func (.func f) fst.toArray aJ.toArray)) (hv:looks σ xs.toList=some vs) (hf:callable P f=true) (hd:o.dst=some d) (hdn:d<n)
  (hC:Calls P f (fst++vs++aJ).toArray w R) (k:∀e w',R e w'→∃v,e= .returned v∧∀a',Fr a' n D ((d,v)::σ)→K a' w'):o.wp P a w K Q:=by
 have e1:xs.map a.eval=vs.toArray:=by
  have:=Cm Z hv
  rw [←this,←Array.toList_map,Array.toArray_toList]
 unfold Oper.wp execOp
 simp only [hop,resolve,Z.eval hfo,Deferred.ofValue,invoke,Sem.run_bind,Sem.run_pure,Result.andThen_ok]
 have e3:fst.toArray++Array.map a.eval xs++aJ.toArray=(fst++vs++aJ).toArray:=by simp [e1]
 show Oper.upon P o a K Q (((callFunc f (fst.toArray++Array.map a.eval xs++aJ.toArray)).run P w))
 rw [e3,EG hf,Oper.upon_enter]
 refine hC.mono fun e w' he=>?_
 obtain ⟨v,rfl,h2⟩:=k e w' he
 show K (a.put o.dst v) w'
 rw [hd]
 exact h2 _ (Z.put hdn v)
end
end Go.Proofs.YtieeckeaijdaeaaGreatDoor
namespace Go.Proofs.YtieeckeaijdaeaaGreatDoor
open Go.RowKit
def lq:Go.IntKind→Nat
 | .i8=>127| .i16=>32767| .i32=>2147483647| .i64=>9223372036854775807
 | .u8=>255| .u16=>65535| .u32=>4294967295| .u64=>18446744073709551615
theorem qc1 (k:Go.IntKind) {m:Nat} (h:m≤lq k):Go.IntKind.wrap k (m:Int)=(m:Int):=by
 cases k<;>simp only [lq] at h
 ·exact IntWalk.i8_in _ om
 ·exact IntWalk.i16_in _ om
 ·exact IntWalk.i32_in _ om
 ·exact IntWalk.i64_in _ om
 ·exact IntWalk.u8_in _ om
 ·exact IntWalk.u16_in _ om
 ·exact IntWalk.u32_in _ om
 ·exact IntWalk.u64_in _ om
theorem uz {x:Int} {m:Nat} (h:x=(m:Int)) (hb:m≤9223372036854775807):Value.int .i64 (Go.IntKind.i64.wrap x)= .int .i64 (m:Int):=by subst h;rw [qc1 .i64 hb]
theorem GV {x:Int} {m:Nat} (h:x=(m:Int)) (hb:m≤18446744073709551615):Value.int .u64 (Go.IntKind.u64.wrap x)= .int .u64 (m:Int):=by subst h;rw [qc1 .u64 hb]
theorem Mq {x:Int} {m:Nat} (h:x=(m:Int)) (hb:m≤4294967295):Value.int .u32 (Go.IntKind.u32.wrap x)= .int .u32 (m:Int):=by subst h;rw [qc1 .u32 hb]
theorem q6n {x:Int} {m:Nat} (h:x=(m:Int)) (hb:m≤255):Value.int .u8 (Go.IntKind.u8.wrap x)= .int .u8 (m:Int):=by subst h;rw [qc1 .u8 hb]
theorem EJ (m:Nat):Value.int .u8 (Go.IntKind.u8.wrap (m:Int))= .int .u8 ((m%256:Nat):Int):=by
 rw [Go.IntKind.wrap_u8];simp
theorem Wu (m:Nat):Value.int .u32 (Go.IntKind.u32.wrap (m:Int))= .int .u32 ((m%4294967296:Nat):Int):=by
 rw [Go.IntKind.wrap_u32];simp
theorem yz (k:Go.IntKind) (m:Nat) {j:Nat} {p:Int} {q:Nat} (hp:p=(j:Int)) (hq:2^ (min p.toNat k.bits)=q):Value.int k (Int.fdiv (m:Int) (2^ (min p.toNat k.bits)))= .int k ((m/q:Nat):Int):=by
 subst hp;subst hq
 congr 1
 rw [Int.fdiv_eq_ediv_of_nonneg _ (by exact_mod_cast Nat.zero_le _)]
 norm_cast
theorem EK (w:Nat) {m:Nat} (h:m<2^w):(BitVec.ofInt w (m:Int)).toNat=m:=by
 rw [BitVec.toNat_ofInt]
 have:((m:Int)% ((2^w:Nat):Int))=(m:Int):=Int.emod_eq_of_lt om (by exact_mod_cast h)
 rw [this];rfl
theorem q3p (k:Go.IntKind) {m n:Nat} (hm:m<2^k.bits) (hn:n<2^k.bits) (hr:m&&&n≤lq k):Value.int k (Go.IntKind.wrap k (BitVec.ofInt k.bits (m:Int)&&&BitVec.ofInt k.bits (n:Int)).toNat)= .int k ((m&&&n:Nat):Int):=by
 rw [BitVec.toNat_and,EK _ hm,EK _ hn,qc1 k hr]
theorem Wv (k:Go.IntKind) {m n:Nat} (hm:m<2^k.bits) (hn:n<2^k.bits) (hr:m|||n≤lq k):Value.int k (Go.IntKind.wrap k (BitVec.ofInt k.bits (m:Int)|||BitVec.ofInt k.bits (n:Int)).toNat)= .int k ((m|||n:Nat):Int):=by
 rw [BitVec.toNat_or,EK _ hm,EK _ hn,qc1 k hr]
theorem q3q (k:Go.IntKind) {m n:Nat} (hm:m<2^k.bits) (hn:n<2^k.bits) (hr:m^^^n≤lq k):Value.int k (Go.IntKind.wrap k (BitVec.ofInt k.bits (m:Int)^^^BitVec.ofInt k.bits (n:Int)).toNat)= .int k ((m^^^n:Nat):Int):=by
 rw [BitVec.toNat_xor,EK _ hm,EK _ hn,qc1 k hr]
theorem Ww (k:Go.IntKind) {m j n:Nat} (hn:n=2^j-1) (hj:2^j-1≤lq k) (hm:m<2^k.bits) (hn2:n<2^k.bits):Value.int k (Go.IntKind.wrap k (BitVec.ofInt k.bits (m:Int)&&&BitVec.ofInt k.bits (n:Int)).toNat)= .int k ((m%2^j:Nat):Int):=by
 subst hn
 have h:=Nat.and_two_pow_sub_one_eq_mod m j
 rw [q3p k hm hn2 (by rw [h];have:=Nat.mod_lt m (Nat.two_pow_pos j);omega),h]
theorem q6o {m n:Nat} (hm:m<4294967296) (hn:n<4294967296):Value.int .u32 (Go.IntKind.u32.wrap (BitVec.ofInt Go.IntKind.u32.bits (m:Int)|||BitVec.ofInt Go.IntKind.u32.bits (n:Int)).toNat)= .int .u32 ((m|||n:Nat):Int):=
 Wv .u32 (by show m<4294967296;omega) (by show n<4294967296;omega) (by have h:m|||n<4294967296:=Nat.or_lt_two_pow (n:=32) (by simpa using hm) (by simpa using hn);show _≤4294967295;omega)
theorem Mr {m n:Nat} (hm:m<4294967296) (hn:n<4294967296):Value.int .u32 (Go.IntKind.u32.wrap (BitVec.ofInt Go.IntKind.u32.bits (m:Int)^^^BitVec.ofInt Go.IntKind.u32.bits (n:Int)).toNat)= .int .u32 ((m^^^n:Nat):Int):=
 q3q .u32 (by show m<4294967296;omega) (by show n<4294967296;omega) (by have h:m^^^n<4294967296:=Nat.xor_lt_two_pow (n:=32) (by simpa using hm) (by simpa using hn);show _≤4294967295;omega)
theorem Wx {m j n:Nat} (hn:n=2^j-1) (hn2:n<4294967296) (hm:m<4294967296):Value.int .u32 (Go.IntKind.u32.wrap (BitVec.ofInt Go.IntKind.u32.bits (m:Int)&&&BitVec.ofInt Go.IntKind.u32.bits (n:Int)).toNat)= .int .u32 ((m%2^j:Nat):Int):=
 Ww .u32 hn (by rw [←hn];show n≤4294967295;omega) (by show m<4294967296;omega) (by show n<4294967296;omega)
theorem qze {m j n:Nat} (hn:n=2^j-1) (hn2:n<18446744073709551616) (hm:m<18446744073709551616):Value.int .u64 (Go.IntKind.u64.wrap (BitVec.ofInt Go.IntKind.u64.bits (m:Int)&&&BitVec.ofInt Go.IntKind.u64.bits (n:Int)).toNat)= .int .u64 ((m%2^j:Nat):Int):=
 Ww .u64 hn (by rw [←hn];show n≤18446744073709551615;omega) (by show m<18446744073709551616;omega) (by show n<18446744073709551616;omega)
theorem q6p {m n:Nat} (hm:m<9223372036854775808) (hn:n<9223372036854775808):Value.int .i64 (Go.IntKind.i64.wrap (BitVec.ofInt Go.IntKind.i64.bits (m:Int)|||BitVec.ofInt Go.IntKind.i64.bits (n:Int)).toNat)= .int .i64 ((m|||n:Nat):Int):=
 Wv .i64 (by show m<18446744073709551616;omega) (by show n<18446744073709551616;omega) (by have h:m|||n<9223372036854775808:=Nat.or_lt_two_pow (n:=63) (by simpa using hm) (by simpa using hn);show _≤9223372036854775807;omega)
theorem getD_at {α:Type} {l:List α} {k:Nat} (d:α) (h:k<l.length):l[k]?=some (l.getD k d):=by
 rw [List.getD_eq_getElem?_getD,List.getElem?_eq_getElem h];rfl
theorem qs {α:Type} {l:List α} {k:Nat} (d:α) (h:k<l.length):l.getD k d∈l:=List.mem_of_getElem? (getD_at d h)
theorem getD_lt {l:List Nat} {m:Nat} (hl:∀b∈l,b<m) {k:Nat} (h:k<l.length):l.getD k 0<m:=hl _ (qs 0 h)
end Go.Proofs.YtieeckeaijdaeaaGreatDoor
namespace Go.Proofs.YtieeckeaijdaeaaGreatDoor
open Go.RowKit Go.MapKept
def KY (p:Nat×Nat) (b:Nat):MapEntry:={key:= .int .i64 (p.1:Int),val:= .int .i64 (p.2:Int),born:=b}
def BF:Nat→List (Nat×Nat)→List MapEntry
 |_,[]=>[]
 |b,p::l=>KY p b::BF (b+1) l
def mapA (l:List (Nat×Nat)):Array MapEntry:=(BF 0 l).toArray
section
variable {P:Program} {Q:Exit→Act→World→Prop} {a:Act} {W w:World} {n d:Nat} {D:List Deferred} {σ:List (Nat×Value)} {o:Oper} {K:Act→World→Prop} {fs:List ag} {S:World→Prop}
end
structure Oa (l:List (Nat×Nat)) (seen:Array Nat) (c:Nat):Prop where
 odd:(c:Int)%2=seenSum (mapA l).toList seen%2
 few:c+(leftOf (mapA l) seen).size≤l.length
end Go.Proofs.YtieeckeaijdaeaaGreatDoor
namespace Go.Proofs.YtieeckeaijdaeaaGreatDoor
open Go.RowKit
section
variable {W w w':World} {fs gs fs':List ag}
theorem Mem.perm (h:Mem W w fs) (hp:fs.Perm fs'):Mem W w fs':=
 ⟨h.below,fun f hf=>h.holds f (hp.mem_iff.2 hf),(hp.pairwise_iff (fun {_ _} hab=>hab.symm)).1 h.apart⟩
theorem Mem.nC (h:Mem W w fs) (hs:fs'.Sublist fs):Mem W w fs':=
 ⟨h.below,fun f hf=>h.holds f (hs.subset hf),h.apart.sublist hs⟩
theorem ag.holds.base {b b':Nat} {f:ag} (h:f.holds b w) (hb:b'≤b):f.holds b' w:=by
 cases f with
 |blk g cs t=>exact ⟨Nat.le_trans hb h.1,h.2⟩
 |obj g o=>exact ⟨Nat.le_trans hb h.1,h.2⟩
 |row v n xs e size=>exact FM h hb
theorem Mem.join (h:Mem W w fs) (k:Mem w w' gs):Mem W w' (gs++fs):=by
 have hf:=h.call k.below
 refine ⟨hf.below,?_,?_⟩
 ·intro f hm
  rcases List.mem_append.1 hm with hm|hm
  ·exact (k.holds f hm).base h.size
  ·exact hf.holds f hm
 ·refine List.pairwise_append.2 ⟨k.apart,h.apart,?_⟩
  intro f hfm g hgm x hx hgx
  have h1:=((k.holds f hfm).lt hx).1
  have h2:=((h.holds g hgm).lt hgx).2
  omega
theorem Mem.Ay {A:Option Addr} {n c:Nat} {xs:List Value} {e:TypeId} {size:Nat} (h:Mem W w fs) (hf:ag.row (.slice A n c) n xs e size∈fs):Rd w w.heap.size size A n xs:=by
 obtain ⟨i,hi⟩:=List.mem_iff_getElem?.1 hf
 exact h.rd hi
structure Own where
 A:Option Addr
 n:Nat
 c:Nat
 xs:List Value
def Own.fact (e:TypeId) (size:Nat) (p:Own):ag:= .row (.slice p.A p.n p.c) p.n p.xs e size
def jr (e:TypeId) (size:Nat) (ps:List Own):List ag:=ps.map (Own.fact e size)
theorem Mem.q79 {e:TypeId} {size n c:Nat} {A:Option Addr} {xs:List Value} {ps:List Own} (h:Mem W w (.row (.slice A n c) n xs e size::(fs++jr e size ps))):Mem W w (fs++jr e size (ps++[⟨A,n,c,xs⟩])):=by
 refine h.perm ?_
 unfold jr
 rw [List.map_append,←List.append_assoc]
 exact (List.perm_append_singleton _ _).symm
theorem Mem.yE (h:Mem W w fs) (e:TypeId) (size:Nat):Mem W w (fs++jr e size []):=by unfold jr;simpa using h
end
section
variable {P:Program} {ops:Array Oper} {Q:Exit→Act→World→Prop} {a:Act} {w:World}
end
section
variable {P:Program} {ops:Array Oper} {Q:Exit→Act→World→Prop} {a:Act} {W w:World} {l n N i d:Nat} {D:List Deferred} {σ σ':List (Nat×Value)} {K:Act→World→Prop} {fs:List ag} {o:Oper}
theorem Qq (hQ:¬LetsOut Q):∀(os:List Oper),(∀o∈os,∀c,o.op≠ .defer c)→∀a w,wpList P ops Q os a w→wpListIn (Fence.wide.inRound l) 0 P ops Q os a w
 |[],_,_,_,h=>h
 | o :: os, hos, a, w, h => by
  unfold wpList at h
  unfold wpListIn
  split at h
  ·rename_i hw
   rw [if_pos hw]
   exact VU (hos o List.mem_cons_self) hQ (fun a w h=>Qq hQ os (fun o ho=>hos o (List.mem_cons_of_mem _ ho)) a w h) h
  ·rename_i hw
   rw [if_neg hw]
   exact ⟨fun _ _=>trivial,Qq hQ os (fun o ho=>hos o (List.mem_cons_of_mem _ ho)) _ _ h⟩
theorem qr {id:Nat} (h:qf P ops Q 0 a w) (hd:Gq ops=true:=by kernel_rfl) (hQ:¬LetsOut Q:=by intro ⟨_,_,h⟩;exact h):(Code.region id ops false).wpIn (Fence.wide.inRound l) 0 P Q a w:=
 wpIn_region_list (Qq hQ _ (fun o ho=>by
  obtain ⟨j,hj⟩:=List.mem_iff_getElem?.1 ho
  exact VT hd (i:=j) (by simpa using hj)) a w (by simpa [qf] using h))
theorem qvj {id:Nat} (HM:Mem W w fs) (fs':List ag) (m:Nat) (is ex:List Nat) (h:Mem W w.drew fs→Mem W w.drew fs'→qi P .any ops Q (fun wS=>Mem W wS fs') ex ops.size (Array.replicate ops.size false) a w.drew)
  (hm:P.follows .mixedOrders=true:=by kernel_rfl) (hn:is.Nodup:=by decide) (hlt:(is.all (· <m))=true:=by decide) (he:picks fs is++fs.drop m=fs':=by rfl) (hd:Gq ops=true:=by kernel_rfl) (hQ:¬LetsOut Q:=by intro ⟨_,_,h⟩;exact h):(Code.region id ops true).wpIn (Fence.wide.inRound l) 0 P Q a w:=
 wpIn_region_any hm (Gs hd hQ _ _ _ _ (Mg _ _ _ _ (h HM.drew (HM.drew.P8 m is hn hlt he))))
theorem Qr {F:Fence} {c:Operand} {x y:Code} (Z:Fr a n D σ) (hc:look σ c=some (.bool true)) (h:x.wpIn F 0 P Q a w):(Code.cond c x y).wpIn F 0 P Q a w:=wpIn_cond_true (Z.eval hc) h
theorem Qs {F:Fence} {c:Operand} {x y:Code} (Z:Fr a n D σ) (hc:look σ c=some (.bool false)) (h:y.wpIn F 0 P Q a w):(Code.cond c x y).wpIn F 0 P Q a w:=wpIn_cond_false (Z.eval hc) h
def sU (fn:FuncId) (tmps:Array Value) (ps:Array Tmp) (assign body:Code) (D:Nat) (st:LoopState) (pe:Option Code):Loop:={state:=st,pending:=pe,fn,tmps,params:=ps,assign,body,defers:=D}
def roundEnd (W:World) (l:Nat) (rec:LoopState→Option Code→Loop) (R:Ending→World→Prop):Exit→Act→World→Prop
 | .normal,_,w=>∃F,Mem W w (.obj l (.loop (rec .busy none))::F)∧∀w',Mem W w' (.obj l (.loop (rec .ready none))::F)→R (.returned (.bool true)) w'
 | .ret,_,w=>∃F,Mem W w (.obj l (.loop (rec .busy none))::F)∧∀w',Mem W w' (.obj l (.loop (rec .done (some .ret)))::F)→R (.returned (.bool false)) w'
 | .exit id,_,w=>∃F,Mem W w (.obj l (.loop (rec .busy none))::F)∧∀w',Mem W w' (.obj l (.loop (rec .done (some (.exit id))))::F)→R (.returned (.bool false)) w'
 |_,_,_=>False
theorem WV {fn:FuncId} {tmps:Array Value} {ps:Array Tmp} {assign body:Code} {B:Nat} {args:Array Value} {F:List ag} {R:Ending→World→Prop} (HM:Mem W w (.obj l (.loop (sU fn tmps ps assign body B .ready none))::F)) (hs:args.size=ps.size)
  (h : assign.wpIn (Fence.wide.inRound l) 0 P (Exit.then (fun a1 w1 => ∃ F1, Mem W w1 (.obj l (.loop (sU fn tmps ps assign body B .ready none)) :: F1) ∧ ∀ w2, Mem W w2 (.obj l (.loop (sU fn tmps ps assign body B .busy none)) :: F1) → body.wpIn (Fence.wide.inRound l) 0 P (roundEnd W l (sU fn tmps ps assign body B) R) a1 w2) (fun _ _ _ => False))
   {tmps:=(ps.zip args).foldl (fun t (p,v)=>t.setIfInBounds p v) tmps,defers:=[]} w):YieldAt Fence.wide 0 P l args w R:=by
 have hl:=HM.fI (i:=0) rfl
 refine ⟨fn,_,assign,body,run_yield hl hs,roundIn_of_wpIn trivial (wpIn_mono h ?_)⟩
 rintro e a1 w1 hq
 cases e with
 | normal =>
  obtain ⟨F1,h1,h2⟩:=hq
  refine ⟨_,run_beginRound (h1.fI (i:=0) rfl) rfl,?_⟩
  refine wpIn_mono (h2 _ (h1.setObj (i:=0) rfl _)) ?_
  rintro e a2 w2 hq
  cases e with
  |normal=>
   obtain ⟨F2,h3,h4⟩:=hq
   exact ⟨_,_,run_endRound none (h3.fI (i:=0) rfl),h4 _ (h3.setObj (i:=0) rfl _)⟩
  |ret=>
   obtain ⟨F2,h3,h4⟩:=hq
   exact ⟨_,_,run_endRound (some .ret) (h3.fI (i:=0) rfl),h4 _ (h3.setObj (i:=0) rfl _)⟩
  |exit id=>
   obtain ⟨F2,h3,h4⟩:=hq
   exact ⟨_,_,run_endRound (some (.exit id)) (h3.fI (i:=0) rfl),h4 _ (h3.setObj (i:=0) rfl _)⟩
  |goto t=>exact hq.elim
  |panic c=>exact hq.elim
  |outgrown=>exact hq.elim
 |exit id=>exact hq.elim
 |goto t=>exact hq.elim
 |ret=>exact hq.elim
 |panic c=>exact hq.elim
 |outgrown=>exact hq.elim
theorem Fr.Qt {tmps:Array Value} {p1 p2:Nat} {v1 v2:Value} (h:Fr {tmps:=tmps,defers:=[]} n D σ) (h1:p1<n) (h2:p2<n):Fr {tmps:=(#[p1,p2].zip #[v1,v2]).foldl (fun t (p,v)=>t.setIfInBounds p v) tmps,defers:=[]} n D ((p2,v2)::(p1,v1)::σ):=by
 have h3:=(h.put h1 v1).put h2 v2
 simpa [Act.put] using h3
theorem qc5 {rec:LoopState→Option Code→Loop} {assign body:Code} {B p1 p2:Nat} {v1 v2:Value} {F:List ag} {R:Ending→World→Prop} (hrec:∃fn tmps,rec=sU fn tmps #[p1,p2] assign body B∧Fr {tmps:=tmps,defers:=[]} n [] σ) (HM:Mem W w (.obj l (.loop (rec .ready none))::F)) (h1:p1<n) (h2:p2<n)
  (h:∀a,Fr a n [] ((p2,v2)::(p1,v1)::σ)→assign.wpIn (Fence.wide.inRound l) 0 P (Exit.then (fun a1 w1=>∃F1,Mem W w1 (.obj l (.loop (rec .ready none))::F1)∧∀w2,Mem W w2 (.obj l (.loop (rec .busy none))::F1)→body.wpIn (Fence.wide.inRound l) 0 P (roundEnd W l rec R) a1 w2) (fun _ _ _=>False)) a w):YieldAt Fence.wide 0 P l #[v1,v2] w R:=by
 obtain ⟨fn,tmps,rfl,Z⟩:=hrec
 exact WV HM rfl (h _ (Z.Qt h1 h2))
theorem Qu {a:Act} {w:World} {K K':Act→World→Prop} (hQ:¬LetsOut Q) (hK:∀a w,K a w→K' a w) (h:o.wp P a w K Q∨(o.asks P a w∧LetsOut Q)):o.wpIn Fence.wide 0 P a w K' Q:=by
 rcases h with h|h
 ·refine ⟨fun _ _=>trivial,?_⟩
  rw [show Fence.wide.round=none from rfl,Oper.semAt_none]
  unfold Oper.wp at h
  generalize (execOp a.eval o).run P w=r at h
  cases r with
  | ok x w' =>
   cases x with
   |value v=>exact hK _ _ h
   |skip=>exact hK _ _ h
   |defer d=>exact hK _ _ h
   |enter f args=>
    refine ⟨fun h=>by simp [Fence.wide] at h,?_⟩
    show CallsIn Fence.wide 0 P f args w' _
    refine (callsIn_wide.2 h).mono ?_
    intro e w'' he
    cases e with
    |returned v=>exact hK _ _ he
    |panicked c=>exact he
    |outgrown=>exact he
   |row r args=>
    refine ⟨fun h=>by simp [Fence.wide] at h,fun c cs _=>?_⟩
    obtain ⟨v,w'',h1,h2⟩:=(h:Rows P r args w' _) c cs
    exact ⟨v,w'',hK _ _ h1,stepsIn_wide.2 h2⟩
   |_=>exact (h:False).elim
  |halt hh w'=>
   cases hh with
   |panic v=>exact h
   |_=>exact (h:False).elim
 ·exact absurd h.2 hQ
theorem Qv (hQ:¬LetsOut Q):∀(os:List Oper) (a:Act) (w:World),wpList P ops Q os a w→wpListIn Fence.wide 0 P ops Q os a w
 |[],_,_,h=>h
 | o :: os, a, w, h => by
  unfold wpList at h
  unfold wpListIn
  split at h
  ·rename_i hw
   rw [if_pos hw]
   exact Qu hQ (fun a w h=>Qv hQ os a w h) h
  ·rename_i hw
   rw [if_neg hw]
   exact ⟨fun _ _=>trivial,Qv hQ os _ _ h⟩
theorem WX {pre:Array Oper} (hQ:¬LetsOut Q) (K:Act→World→Prop) (os2:List Oper) (hK:∀a w,K a w→wpListIn Fence.wide 0 P ops Q os2 a w):∀(os:List Oper),(∀o∈os,o.guard=none)→∀a w,wpList P pre (Exit.then K Q) os a w→wpListIn Fence.wide 0 P ops Q (os++os2) a w
 |[],_,a,w,h=>hK a w h
 | o :: os, hg, a, w, h => by
  have h1:∀x,Region.wanted o x=true:=fun x=>by unfold Region.wanted;rw [hg o List.mem_cons_self]
  unfold wpList at h
  rw [if_pos (h1 _)] at h
  show if Region.wanted o (yielded ops a.tmps)=true then _ else _
  rw [if_pos (h1 _)]
  have h2:=Qu (Q:=Exit.then K Q) (K':=wpListIn Fence.wide 0 P ops Q (os++os2)) (fun ⟨a,w,h⟩=>hQ ⟨a,w,h⟩) (fun a w h=>WX hQ K os2 hK os (fun o ho=>hg o (List.mem_cons_of_mem _ ho)) a w h) h
  refine ⟨h2.1,?_⟩
  have h3:=h2.2
  generalize (o.semAt Fence.wide.round a.eval).run P w=r at h3
  cases r with
  | ok x w' =>
   cases x with
   |enter f args=>
    refine ⟨h3.1,h3.2.mono ?_⟩
    intro e w'' he
    cases e with
    |returned v=>exact he
    |panicked c=>exact he
    |outgrown=>exact he
   |round l f tmps assign body=>
    refine ⟨h3.1,h3.2.mono ?_⟩
    intro e w'' he
    cases e with
    |returned v=>exact he
    |panicked c=>exact he
    |outgrown=>exact he
   |_=>exact h3
  |halt hh w'=>
   cases hh with
   |panic v=>exact h3
   |_=>exact h3
theorem Qw {id i:Nat} (h:qf P (ops.toList.take i).toArray (Exit.then (fun a w=>∃o,ops[i]?=some o∧o.guard=none∧o.wpIn Fence.wide 0 P a w (wpListIn Fence.wide 0 P ops Q (ops.toList.drop (i+1))) Q) Q) 0 a w) (hg:((ops.toList.take i).all fun o=>o.guard.isNone)=true:=by kernel_rfl) (hQ:¬LetsOut Q:=by intro ⟨_,_,h⟩;obtain ⟨_,h,_⟩:=h;cases h):(Code.region id ops false).wp P Q a w:=by
 refine wpIn_wide.1 (wpIn_region_list (n:=0) ?_)
 have h0:wpList P (ops.toList.take i).toArray (Exit.then (fun a w=>∃o,ops[i]?=some o∧o.guard=none∧o.wpIn Fence.wide 0 P a w (wpListIn Fence.wide 0 P ops Q (ops.toList.drop (i+1))) Q) Q) (ops.toList.take i) a w:=by simpa [qf] using h
 have h1:=WX (ops:=ops) hQ _ (ops.toList.drop i) (fun a w ⟨o,ho,hn,h⟩=>by
  obtain ⟨hl,he⟩:=Array.getElem?_eq_some_iff.1 ho
  rw [List.drop_eq_getElem_cons (by simpa using hl),Array.getElem_toList,he]
  unfold wpListIn
  rw [if_pos (by unfold Region.wanted;rw [hn])]
  exact h) (ops.toList.take i) (fun o ho=>by
  have:=List.all_eq_true.1 hg o ho
  simpa using this) a w h0
 rwa [List.take_append_drop] at h1
theorem Mem.Az {r:ag} {es F:List ag} (h:Mem W w (r::(es++F))):Mem W w (r::(F++es)):=h.perm (List.Perm.cons _ List.perm_append_comm)
theorem Mem.rW {es F:List ag} (h:Mem W w (F++es)):Mem W w (es++F):=h.perm List.perm_append_comm
theorem Mem.EQ (es:List ag) {F:List ag} (h:Mem W w (es++F)):Mem W w F:=h.nC (List.sublist_append_right es F)
theorem xz (Z:Fr a n D σ) {fo:Operand} {xs:Array Operand} {ts:Array TypeId} {vs:List Value} {R:Ending→World→Prop} (ho:ops[i]?=some o) (hn:o.guard=none) (hop:o.op= .call {callee:= .value fo,args:=xs,argTypes:=ts}) (hfo:look σ fo=some (.func (.yield l) #[] #[])) (hv:looks σ xs.toList=some vs) (hd:o.dst=some d) (hdn:d<n)
  (hy:YieldAt Fence.wide 0 P l vs.toArray w R) (hR:∀e w',R e w'→∃v,e= .returned v) (k:∀v w' a',R (.returned v) w'→Fr a' n D ((d,v)::σ)→qf P ops Q (i+1) a' w') (hQ:¬LetsOut Q:=by intro ⟨_,_,h⟩;obtain ⟨_,h,_⟩:=h;cases h):
  ∃o,ops[i]?=some o∧o.guard=none∧o.wpIn Fence.wide 0 P a w (wpListIn Fence.wide 0 P ops Q (ops.toList.drop (i+1))) Q:=by
 refine ⟨o,ho,hn,fun _ _=>trivial,?_⟩
 have e1:xs.map a.eval=vs.toArray:=by
  have:=Cm Z hv
  rw [←this,←Array.toList_map,Array.toArray_toList]
 obtain ⟨fn,tmps,assign,body,h1,h2⟩:=hy
 rw [show Fence.wide.round=none from rfl,Oper.semAt_none]
 unfold execOp
 simp only [hop,resolve,Z.eval hfo,Deferred.ofValue,invoke,Sem.run_bind,Sem.run_pure,Result.andThen_ok]
 have e2:(#[]:Array Value)++Array.map a.eval xs++ #[]=vs.toArray:=by simp [e1]
 show Oper.uponIn Fence.wide 0 P o a _ Q ((Instr.yield l (#[]++Array.map a.eval xs++ #[])).run P w)
 rw [e2,h1]
 refine ⟨fun h=>by simp [Fence.wide] at h,h2.mono ?_⟩
 intro e w' he
 obtain ⟨v,rfl⟩:=hR e w' he
 show wpListIn Fence.wide 0 P ops Q (ops.toList.drop (i+1)) (a.put o.dst v) w'
 rw [hd]
 exact Qv hQ _ _ _ (k v w' _ he (Z.put hdn v))
theorem Hg {g:Operand} {ps:Array Tmp} {assign body:Code} {gf:Nat} {aJ:List Value} (Z:Fr a n [] σ) (HM:Mem W w fs) (J:List ag→Prop) (X:Code→List ag→Prop) (hg:look σ g=some (.func (.func gf) #[] aJ.toArray)) (hcl:callable P gf=true)
  (hit : ∀ (l B : Nat) (rec : LoopState → Option Code → Loop) (w1 : World), (∃ fn tmps, rec = sU fn tmps ps assign body B ∧ Fr { tmps := tmps, defers := [] } n [] σ) → Mem W w1 (.obj l (.loop (rec .ready none)) :: .obj B (.deferred (some [])) :: fs) →
   Calls P gf (.func (.yield l) #[] #[]::aJ).toArray w1 fun r w'=>∃v,r= .returned v∧((∃F,J F∧Mem W w' (.obj l (.loop (rec .ready none)):: .obj B (.deferred (some []))::F))∨∃c F,X c F∧Mem W w' (.obj l (.loop (rec .done (some c))):: .obj B (.deferred (some []))::F)))
  (hdone:∀(B:Nat) (a':Act) (w':World) (F:List ag),J F→Fr a' n [{target:= .collected B,args:= #[]}] σ→Mem W w' (.obj B (.deferred (some []))::F)→Q .normal a' w')
  (hstop:∀(c:Code) (B:Nat) (a':Act) (w':World) (F:List ag),X c F→Fr a' n [{target:= .collected B,args:= #[]}] σ→Mem W w' (.obj B (.deferred (some []))::F)→c.wp P Q a' w'):
  (Code.rangeFunc g ps assign body).wp P Q a w:=by
 refine (wpIn_wide (n:=0)).1 (wpIn_rangeFunc ?_)
 intro fn _
 show ∃l mark w₁ d w₁' f args w₂,(Instr.enterLoop fn a.tmps ps assign body none).run P w= .ok (l,mark) w₁∧_
 have h1:=(HM.jY (.deferred (some []))).jY (.loop (sU fn a.tmps ps assign body w.heap.size .ready none))
 rw [World.size_alloc] at h1
 have HF1:Fr {tmps:=a.tmps,defers:=[]} n [] σ:=⟨Z.size,rfl,Z.slot⟩
 have WY:Fr {a with defers:={target:= .collected w.heap.size,args:= #[]}::a.defers} n [{target:= .collected w.heap.size,args:= #[]}] σ:=⟨Z.size,by show _::a.defers=_;rw [Z.defers],Z.slot⟩
 have hE:(Instr.enterLoop fn a.tmps ps assign body none).run P w= .ok (w.heap.size+1,[{target:= .collected w.heap.size,args:= #[]}]) ((w.alloc (.deferred (some []))).alloc (.loop (sU fn a.tmps ps assign body w.heap.size .ready none))):=run_enterLoop_outer _ _ _ _ _
 generalize (w.alloc (.deferred (some []))).alloc (.loop (sU fn a.tmps ps assign body w.heap.size .ready none))=W1 at h1 hE
 refine ⟨w.heap.size+1,[{target:= .collected w.heap.size,args:= #[]}],W1,{target:= .fn (.func gf) aJ.toArray,args:= #[.func (.yield (w.heap.size+1)) #[] #[]]},W1,gf,#[.func (.yield (w.heap.size+1)) #[] #[]]++aJ.toArray,W1,hE,?_,fun _ _=>trivial,?_,fun h=>by simp [Fence.wide] at h,?_⟩
 ·simp only [resolve,Z.eval hg]
  simp [go_sem]
 ·simp [invoke,go_sem,EG hcl]
 ·have e:(#[.func (.yield (w.heap.size+1)) #[] #[]]++aJ.toArray:Array Value)=(.func (.yield (w.heap.size+1)) #[] #[]::aJ).toArray:=by simp
  rw [e]
  refine callsIn_wide.2 ((hit _ _ _ _ ⟨fn,a.tmps,rfl,HF1⟩ h1).mono ?_)
  rintro e w' ⟨v,rfl,(⟨F,hJ,hM⟩|⟨c,F,hX,hM⟩)⟩
  ·have h2:=run_endLoop (P:=P) (hM.fI (i:=0) rfl) (by simp [sU])
   exact ⟨none,_,h2,hdone _ _ _ F hJ WY (hM.setObj (i:=0) rfl _).tail⟩
  ·have h2:=run_endLoop (P:=P) (hM.fI (i:=0) rfl) (by simp [sU])
   exact ⟨some c,_,h2,wpIn_wide.2 (hstop c _ _ _ F hX WY (hM.setObj (i:=0) rfl _).tail)⟩
def uF (P:Program) (fn:Func) (R:Ending→World→Prop):Exit→Act→World→Prop
 | .normal,a,w| .ret,a,w=>LeavesInM Fence.wide 0 P fn a.tmps R a.defers .returning w
 |_,_,_=>False
theorem Hl {f N:Nat} {fn:Func} {c:Code} {vs:List Value} {R:Ending→World→Prop} (hf:P.funcs[f]?=some fn) (hb:fn.body=some c) (hn:fn.ntmps=N) (hl:decide (vs.length≤N)=true) {σ0:List (Nat×Value)} (h0:Am 0 vs=σ0)
  (k:∀a,Fr a N [] σ0→c.wp P (uF P fn R) a w):Calls P f vs.toArray w R:=by
 subst h0
 rw [decide_eq_true_eq] at hl
 refine (callsIn_wide (n:=0)).1 (callsIn_of_wp_marks hf hb trivial (wpIn_wide.2 (Code.wp_mono (fun e a w h=>by cases e<;>first|exact h|exact (h:False).elim) (k _ ⟨by simp [hn];omega,rfl,fun t v hv=>?_⟩))) rfl)
 obtain ⟨_,h1⟩:=GQ vs 0 t v hv
 rw [Nat.sub_zero] at h1
 have hlt:=(List.getElem?_eq_some_iff.1 h1).1
 simp only [Array.getD_eq_getD_getElem?,Array.getElem?_append,List.size_toArray,if_pos hlt]
 simp [h1]
section
variable {fn:Func} {R:Ending→World→Prop}
theorem Mv (h:bodyPost P fn R .ret a w):uF P fn R .ret a w:=by
 obtain ⟨hd,v,hr,hR⟩:=h
 show LeavesInM Fence.wide 0 P fn a.tmps R a.defers .returning w
 rw [hd]
 exact ⟨v,hr,hR⟩
theorem Cy {B:Nat} (Z:Fr a n [{target:= .collected B,args:= #[]}] σ) (HM:Mem W w fs) (hi:fs[i]?=some (.obj B (.deferred (some [])))) (h:∀(a':Act) (w':World),Fr a' n [] σ→Mem W w' (fs.set i (.obj B (.deferred none)))→bodyPost P fn R .ret a' w'):uF P fn R .ret a w:=by
 obtain ⟨_,v,hr,hR⟩:=h {tmps:=a.tmps,defers:=[]} _ ⟨Z.size,rfl,Z.slot⟩ (HM.setObj hi (.deferred none))
 show LeavesInM Fence.wide 0 P fn a.tmps R a.defers .returning w
 rw [Z.defers]
 exact ⟨fun h=>(nomatch h),.inl ⟨B,_,rfl,run_takeDeferred (HM.fI hi),v,hr,hR⟩⟩
theorem Cz (hr:fn.results= #[]) (Z:Fr a n [] σ) (hR:R (.returned (.tuple #[])) w):bodyPost P fn R .ret a w:=
 bodyPost_ret (v:= .tuple #[]) (by
  rw [Cn,hr]
  simp) Z.defers hR
theorem iM (hr:fn.results= #[]) (Z:Fr a n [] σ) (hR:R (.returned (.tuple #[])) w):bodyPost P fn R .normal a w:=Cz hr Z hR
end
end
section
variable {P:Program} {Q:Exit→Act→World→Prop} {a:Act} {W w:World} {n d:Nat} {D:List Deferred} {σ:List (Nat×Value)} {o:Oper} {v:Value} {K:Act→World→Prop} {fs:List ag}
def oO (t:TypeId) (k:Int):List PanicEntry:=[{v:= .iface t (.int .i64 k),recovered:=false}]
def iR (W:World) (fs:List ag) (ch:List PanicEntry) (r:Ending) (w':World):Prop:=r= .panicked ch∧Mem W w' fs
theorem mK (Z:Fr a n D σ) (vs:List Value) {f:FuncId} {xs:Array Operand} {ts:Array TypeId} {ch:List PanicEntry} (hop:o.op= .call {callee:= .value (.func f),args:=xs,argTypes:=ts})
  (hC:Calls P f vs.toArray w (iR W fs ch)) (k:∀w',Mem W w' fs→Q (.panic ch) a w') (hv:looks σ xs.toList=some vs:=by kernel_rfl) (hf:callable P f=true:=by kernel_rfl):o.wp P a w K Q:=by
 have e1:xs.map a.eval=vs.toArray:=by
  have:=Cm Z hv
  rw [←this,←Array.toList_map,Array.toArray_toList]
 unfold Oper.wp execOp
 simp only [hop,resolve,Act.eval,Deferred.ofValue,invoke,Sem.run_bind,Sem.run_pure,Result.andThen_ok]
 have e3: #[]++Array.map a.eval xs++ #[]=vs.toArray:=by simp [e1]
 show Oper.upon P o a K Q (((callFunc f (#[]++Array.map a.eval xs++ #[])).run P w))
 rw [e3,EG hf,Oper.upon_enter]
 exact hC.mono fun e w' ⟨h1,h2⟩=>by subst h1;exact k w' h2
theorem q4q (Z:Fr a n D σ) {x:Operand} {t:TypeId} {u:Value} (hop:o.op= .panic x) (hx:look σ x=some (.iface t u)) (k:Q (.panic [{v:= .iface t u,recovered:=false}]) a w):o.wp P a w K Q:=by
 unfold Oper.wp execOp
 simp only [hop,Z.eval hx,Sem.run_bind]
 exact k
def Fg (P:Program) (t:TypeId):Bool:=match P.underlying t with
 |some (.interface _)=>false
 |some _=>true
 |none=>false
theorem Yl.makeInterface {S:World→Prop} {x:Operand} {t:TypeId} (hop:o.op= .makeInterface t x) (hx:look σ x=some v) (ht:Fg P t=true:=by kernel_rfl):Yl P S σ o (.iface t v):=fun a n D Z w hS=>by
 unfold Fg at ht
 cases hu:P.underlying t with
 |none=>rw [hu] at ht;cases ht
 |some d=>
  rw [hu] at ht
  unfold execOp
  simp only [hop,Z.eval hx,Instr.makeInterface,Sem.run_bind,run_underlying hu,Result.andThen_ok]
  cases d<;>first|rfl|cases ht
def isIface (P:Program) (t:TypeId):Bool:=match P.underlying t with
 |some (.interface _)=>true
 |_=>false
theorem YV {t:TypeId} (h:isIface P t=true):∃ms,P.underlying t=some (.interface ms):=by
 unfold isIface at h
 split at h
 ·rename_i ms hu;exact ⟨ms,hu⟩
 ·cases h
theorem qpw {t tv:TypeId} {v:Value} (ht:isIface P t=true) (w:World):(Op.equal t (.iface tv v) .nilIface).run P w= .ok false w:=by
 obtain ⟨ms,hu⟩:=YV ht
 have h:∀d,(Op.equalIn (d+1) t (.iface tv v) .nilIface).run P w= .ok false w:=fun d=>by
  rw [Op.equalIn]
  simp only [Sem.run_bind,run_underlying hu,Result.andThen_ok,Sem.run_pure]
 exact h 9999
theorem qw2 {t:TypeId} (ht:isIface P t=true) (w:World):(Op.equal t .nilIface .nilIface).run P w= .ok true w:=by
 obtain ⟨ms,hu⟩:=YV ht
 have h:∀d,(Op.equalIn (d+1) t .nilIface .nilIface).run P w= .ok true w:=fun d=>by
  rw [Op.equalIn]
  simp only [Sem.run_bind,run_underlying hu,Result.andThen_ok,Sem.run_pure]
 exact h 9999
theorem Yl.q58 {S:World→Prop} {x y:Operand} {t u tv:TypeId} (hop:o.op= .binOp .neq t x y u) (hx:look σ x=some (.iface tv v)) (hy:look σ y=some .nilIface) (ht:isIface P t=true:=by kernel_rfl):Yl P S σ o (.bool true):=fun a n D Z w hS=>by
 unfold execOp
 simp only [hop,Z.eval hx,Z.eval hy,Sem.run_bind,GJ .neq t x y (a:= .iface tv v) rfl,Result.andThen_ok,binOp,qpw ht,Sem.run_pure]
 rfl
theorem Yl.q8g {S:World→Prop} {x:Operand} {t u:TypeId} (hop:o.op= .binOp .neq t x (.const .nilIface) u) (hx:look σ x=some .nilIface) (ht:isIface P t=true:=by kernel_rfl):Yl P S σ o (.bool false):=fun a n D Z w hS=>by
 have e1:a.eval (.const .nilIface)= .nilIface:=rfl
 have e2:(eqGuard .neq t x (.const .nilIface) .nilIface .nilIface).run P w= .ok () w:=by
  unfold eqGuard
  simp
 unfold execOp
 simp only [hop,Z.eval hx,e1,Sem.run_bind,e2,Result.andThen_ok,binOp,qw2 ht,Sem.run_pure]
 rfl
theorem YW {t:TypeId} (h:Fg P t=true):∃d,P.underlying t=some d∧∀ms,d≠ .interface ms:=by
 unfold Fg at h
 split at h
 ·cases h
 ·rename_i d hn hu;exact ⟨d,hu,fun ms e=>hn ms e⟩
 ·cases h
theorem Yl.q1s {S:World→Prop} {x:Operand} {xt t:TypeId} (hop:o.op= .typeAssert x xt t true) (hx:look σ x=some (.iface t v)) (ht:Fg P t=true:=by kernel_rfl):Yl P S σ o (.tuple #[v,.bool true]):=fun a n D Z w hS=>by
 obtain ⟨d,hu,hd⟩:=YW ht
 unfold execOp
 simp only [hop,Z.eval hx,Instr.typeAssert,Sem.run_bind,run_underlying hu,Result.andThen_ok]
 cases d<;>first|(exact absurd rfl (hd _))|simp
theorem Yl.qyy {S:World→Prop} {x:Operand} {xt t:TypeId} {z:Value} (hop:o.op= .typeAssert x xt t true) (hx:look σ x=some .nilIface) (hz:(P.info? t).bind (·.zero)=some z) (ht:Fg P t=true:=by kernel_rfl):Yl P S σ o (.tuple #[z,.bool false]):=fun a n D Z w hS=>by
 obtain ⟨d,hu,hd⟩:=YW ht
 obtain ⟨i,hi,hz2⟩:=Option.bind_eq_some_iff.1 hz
 unfold execOp
 simp only [hop,Z.eval hx,Instr.typeAssert,Sem.run_bind,run_underlying hu,Result.andThen_ok]
 cases d<;>first|(exact absurd rfl (hd _))|rfl|simp [zeroValue,typeInfo,hi,hz2]
def IP (Q:Exit→Act→World→Prop):Exit→Act→World→Prop
 | .normal,a,w=>Q .normal a w
 |_,_,_=>False
theorem q4r {c:Code} (h:c.wp P (IP Q) a w):c.wp P Q a w:=fun b k cs=>by
 obtain ⟨e,a',w',hq,harr⟩:=h b k cs
 cases e with
 |normal=>exact ⟨_,a',w',hq,harr⟩
 |_=>exact hq.elim
theorem Fh {p:Prop} (Z:Fr a n [] σ) (h:p):a.defers=[]∧p:=⟨Z.defers,h⟩
theorem q4s (Z:Fr a n D σ) {fo:Operand} {f:FuncId} {aJ:List Value} {ts:Array TypeId} (hop:o.op= .defer {callee:= .value fo,args:= #[],argTypes:=ts}) (hfo:look σ fo=some (.func (.func f) #[] aJ.toArray)) (hd:o.dst=none)
  (k:∀a',Fr a' n ({target:= .fn (.func f) aJ.toArray,args:= #[]}::D) σ→K a' w):o.wp P a w K Q:=by
 unfold Oper.wp execOp
 simp only [hop,resolve,Z.eval hfo,Deferred.ofValue,Sem.run_bind,Sem.run_pure,Result.andThen_ok,List.map_toArray,List.map_nil,Oper.upon_defer,hd]
 exact k _ ⟨Z.size,by show _::a.defers=_;rw [Z.defers];rfl,Z.slot⟩
theorem qn3 {f N:Nat} {fn:Func} {c:Code} {vs:List Value} {R:Ending→World→Prop} (hf:P.funcs[f]?=some fn) (hb:fn.body=some c) (hn:fn.ntmps=N) (hl:decide (vs.length≤N)=true) {σ0:List (Nat×Value)} (h0:Am 0 vs=σ0)
  (k:∀a,Fr a N [] σ0→c.wp P (bodyPostD P fn R) a w):Calls P f vs.toArray w R:=by
 subst h0
 rw [decide_eq_true_eq] at hl
 refine calls_of_wp_defers hf hb (k _ ⟨by simp [hn];omega,rfl,fun t v hv=>?_⟩)
 obtain ⟨_,h1⟩:=GQ vs 0 t v hv
 rw [Nat.sub_zero] at h1
 have hlt:=(List.getElem?_eq_some_iff.1 h1).1
 simp only [Array.getD_eq_getD_getElem?,Array.getElem?_append,List.size_toArray,if_pos hlt]
 simp [h1]
def mM (W:World) (fs:List ag) (e:Ending) (u:FrameMode) (w':World):Prop:=e= .returned (.tuple #[])∧settle u= .returning∧Mem W w' fs
theorem qtm {fn:Func} {R:Ending→World→Prop} {ch:List PanicEntry} {f:FuncId} {aJ:List Value} {r:ResultVar} (Z:Fr a n [{target:= .fn (.func f) aJ.toArray,args:= #[]}] σ) (hc:callable P f=true) (hC:CallsD P f aJ.toArray (.panicking ch) w (mM W fs)) (hr:fn.results= #[r])
  (k:∀w',Mem W w' fs→jN P a w' r v∧R (.returned v) w'):bodyPostD P fn R (.panic ch) a w:=by
 show Leaves P fn a.tmps R a.defers (.panicking ch) w
 rw [Z.defers]
 refine leaves_cons (f:=f) (args:=aJ.toArray) (by simp) (by simp only [invoke];rw [show #[]++aJ.toArray=aJ.toArray by simp];exact EG hc _ _) (hC.mono fun e u w' ⟨h1,h2,h3⟩=>?_)
 subst h1
 show Leaves P fn a.tmps R [] (settle u) w'
 rw [h2]
 obtain ⟨h4,h5⟩:=k w' h3
 unfold jN at h4
 refine ⟨v,?_,h5⟩
 rw [Cn,hr]
 generalize uw a.tmps=g at*
 simp [h4]
theorem qw3 {fn:Func} {R:Ending→World→Prop} {f:FuncId} {aJ:List Value} {r:ResultVar} (Z:Fr a n [{target:= .fn (.func f) aJ.toArray,args:= #[]}] σ) (hc:callable P f=true) (hC:CallsD P f aJ.toArray .returning w (mM W fs)) (hr:fn.results= #[r])
  (k:∀w',Mem W w' fs→jN P a w' r v∧R (.returned v) w'):bodyPostD P fn R .ret a w:=by
 show Leaves P fn a.tmps R a.defers .returning w
 rw [Z.defers]
 refine leaves_cons (f:=f) (args:=aJ.toArray) (by simp) (by simp only [invoke];rw [show #[]++aJ.toArray=aJ.toArray by simp];exact EG hc _ _) (hC.mono fun e u w' ⟨h1,h2,h3⟩=>?_)
 subst h1
 show Leaves P fn a.tmps R [] (settle u) w'
 rw [h2]
 obtain ⟨h4,h5⟩:=k w' h3
 unfold jN at h4
 refine ⟨v,?_,h5⟩
 rw [Cn,hr]
 generalize uw a.tmps=g at*
 simp [h4]
theorem YX {ops:Array Oper} (h:o.guard=none):Region.wanted o (yielded ops a.tmps)=true:=by unfold Region.wanted;rw [h]
theorem YY {ops:Array Oper} {rest:List Nat} {i:Nat} {QS:Exit→Act→List Frame→World→Prop} {cs cs':List Frame} {ts:Array TypeId} (Z:Fr a n D σ) (ho:ops[i]?=some o) (hop:o.op= .call {callee:= .builtin .recover,args:= #[],argTypes:=ts}) (hg:o.guard=none) (hd:o.dst=some d) (hdn:d<n)
  (hcs:(recoverD cs=some (v,cs'))∨(recoverD cs=none∧v= .nilIface∧cs'=cs)) (k:∀a',Fr a' n D ((d,v)::σ)→wpOpsS P ops QS rest a' cs' w):wpOpsS P ops QS (i::rest) a cs w:=by
 have hrun:(execOp a.eval o).run P w= .ok .recover w:=by
  unfold execOp
  simp [hop,resolve,invoke,builtin]
 simp only [wpOpsS,ho,YX hg,if_true,hrun]
 rcases hcs with h|⟨h,rfl,rfl⟩
 ·simp only [h,hd]
  exact k _ (Z.put hdn _)
 ·simp only [h,hd]
  exact k _ (Z.put hdn _)
theorem YZ {ops:Array Oper} {rest:List Nat} {i:Nat} {QS:Exit→Act→List Frame→World→Prop} {cs:List Frame} (Z:Fr a n D σ) (ho:ops[i]?=some o) (hv:rP P σ o.op=some v) (hg:o.guard=none) (hd:o.dst=some d) (hdn:d<n)
  (k:∀a',Fr a' n D ((d,v)::σ)→wpOpsS P ops QS rest a' cs w):wpOpsS P ops QS (i::rest) a cs w:=by
 have hrun:=V9 Z hv w
 simp only [wpOpsS,ho,YX hg,if_true,hrun,Oper.upon_value,hd]
 exact k _ (Z.put hdn _)
theorem Y0 {f N:Nat} {fn:Func} {c:Code} {vs:List Value} {u:FrameMode} {R:Ending→FrameMode→World→Prop} (hf:P.funcs[f]?=some fn) (hb:fn.body=some c) (hn:fn.ntmps=N) (hl:decide (vs.length≤N)=true) {σ0:List (Nat×Value)} (h0:Am 0 vs=σ0)
  (k:∀(c₀:Frame) (cs:List Frame) a,c₀.mode=u→Fr a N [] σ0→c.wpS P (bodyPostS P fn c₀ cs R) a (c₀::cs) w):CallsD P f vs.toArray u w R:=by
 subst h0
 rw [decide_eq_true_eq] at hl
 refine callsD_of_wpS hf hb fun c₀ cs hu=>k c₀ cs _ hu ⟨by simp [hn];omega,rfl,fun t v hv=>?_⟩
 obtain ⟨_,h1⟩:=GQ vs 0 t v hv
 rw [Nat.sub_zero] at h1
 have hlt:=(List.getElem?_eq_some_iff.1 h1).1
 simp only [Array.getD_eq_getD_getElem?,Array.getElem?_append,List.size_toArray,if_pos hlt]
 simp [h1]
theorem Y1 {fn:Func} {c₀:Frame} {cs:List Frame} {u:FrameMode} {R:Ending→FrameMode→World→Prop} (hr:fn.results= #[]) (Z:Fr a n [] σ) (h:R (.returned (.tuple #[])) u w):bodyPostS P fn c₀ cs R .normal a ({c₀ with mode:=u}::cs) w:=
 ⟨Z.defers,u,rfl,_,(by rw [Cn,hr];simp),h⟩
end
section
variable {P:Program} {W w:World} {l n:Nat} {σ:List (Nat×Value)}
theorem Fr.Ri {tmps:Array Value} {p1:Nat} {v1:Value} (h:Fr {tmps:=tmps,defers:=[]} n [] σ) (h1:p1<n):Fr {tmps:=(#[p1].zip #[v1]).foldl (fun t (p,v)=>t.setIfInBounds p v) tmps,defers:=[]} n [] ((p1,v1)::σ):=by
 have h3:=h.put h1 v1
 simpa [Act.put] using h3
theorem qnu {rec:LoopState→Option Code→Loop} {assign body:Code} {B p1:Nat} {v1:Value} {F:List ag} {R:Ending→World→Prop} (hrec:∃fn tmps,rec=sU fn tmps #[p1] assign body B∧Fr {tmps:=tmps,defers:=[]} n [] σ) (HM:Mem W w (.obj l (.loop (rec .ready none))::F)) (h1:p1<n)
  (h:∀a,Fr a n [] ((p1,v1)::σ)→assign.wpIn (Fence.wide.inRound l) 0 P (Exit.then (fun a1 w1=>∃F1,Mem W w1 (.obj l (.loop (rec .ready none))::F1)∧∀w2,Mem W w2 (.obj l (.loop (rec .busy none))::F1)→body.wpIn (Fence.wide.inRound l) 0 P (roundEnd W l rec R) a1 w2) (fun _ _ _=>False)) a w):YieldAt Fence.wide 0 P l #[v1] w R:=by
 obtain ⟨fn,tmps,rfl,Z⟩:=hrec
 exact WV HM rfl (h _ (Z.Ri h1))
def Rj (W:World) (fr:List ag) (J:List ag→Prop) (e:Ending) (w':World):Prop:=∃F',Mem W w' (F'++fr)∧e= .returned (.bool true)∧J F'
theorem zd {W:World} {fr:List ag} {J:List ag→Prop}:∀(e:Ending) (w':World),Rj W fr J e w'→∃v,e= .returned v
 |_,_,⟨_,_,h,_⟩=>⟨_,h⟩
def Yj (W:World) (J:List ag→Prop) (r:Ending) (w':World):Prop:=∃v,r= .returned v∧∃F',Mem W w' F'∧J F'
def Yk (P:Program) (W:World) (lp n:Nat) (Inv:Nat→List ag→Prop):Prop:=
 ∀(i:Nat) (F fr:List ag) (w:World) (x:Int),Inv i F→i<n→Mem W w (F++fr)→YieldAt Fence.wide 0 P lp #[.int .i64 x] w (Rj W fr (Inv (i+1)))
end
section
variable {P:Program} {ops:Array Oper} {Q:Exit→Act→World→Prop} {a:Act} {w W:World} {n i:Nat} {K:Act→World→Prop} {md:Region.Mode}
def vK:Nat→List (List Bool)
 |0=>[[]]
 |n+1=>(vK n).flatMap fun l=>[true::l,false::l]
theorem Z8:∀(l:List Bool),l∈vK l.length
 |[]=>by simp [vK]
 |b::l=>by
  rw [List.length_cons,vK,List.mem_flatMap]
  exact ⟨l,Z8 l,by cases b<;>simp⟩
def NF (md:Region.Mode) (ops:Array Oper) (l:List Bool):Bool:=(List.range l.length).all fun k=> !l.getD k false||((ops[k]?).map (·.after.all fun e=> !Region.binds md e||l.getD e.on false)).getD false
def lM (md:Region.Mode) (ops:Array Oper) (i:Nat):Bool:=
 ((vK i).all fun l=> !NF md ops l||(((Region.ready md (ops.toList.take i).toArray l.toArray).all fun j=>NF md ops (l.set j true))&& (((Region.ready md (ops.toList.take i).toArray l.toArray).isEmpty==l.all id)&& (l.all id||(Region.ready md ops (l++List.replicate (ops.size-i) false).toArray==Region.ready md (ops.toList.take i).toArray l.toArray)))))
 && (NF md ops (List.replicate i false)&& (((List.range (ops.size-i)).all fun j=>Region.ready md ops (List.replicate (i+j) true++List.replicate (ops.size-i-j) false).toArray==[i+j])
 && ((Region.ready md ops (List.replicate ops.size true).toArray).isEmpty&& (decide (i≤ops.size)&& ((ops.toList.take i).all fun o=>o.guard.isNone)))))
theorem q7r (j d:Nat):(List.replicate j true++List.replicate (d+1) false).toArray.setIfInBounds j true=(List.replicate (j+1) true++List.replicate d false).toArray:=by
 rw [List.setIfInBounds_toArray]
 congr 1
 rw [List.set_append_right _ _ (by simp),List.length_replicate,Nat.sub_self,List.replicate_succ,List.set_cons_zero,List.replicate_succ',List.append_assoc]
 rfl
theorem q2z {F:Fence} (h1:∀j,i≤j→j<ops.size→Region.ready md ops (List.replicate j true++List.replicate (ops.size-j) false).toArray=[j]) (h2:Region.ready md ops (List.replicate ops.size true).toArray=[]):
  ∀(d j:Nat),j+d=ops.size→i≤j→∀a w,wpListIn F n P ops Q (ops.toList.drop j) a w→wpAnyIn F n P md ops Q d (List.replicate j true++List.replicate d false).toArray a w
 |0,j,hj,_,a,w,h=>by
  obtain rfl:j=ops.size:=by omega
  rw [List.drop_of_length_le (by simp)] at h
  refine ⟨?_,h⟩
  rw [List.replicate_zero,List.append_nil]
  exact h2
 | d + 1, j, hj, hi, a, w, h => by
  have hlt:j<ops.size:=by omega
  have hr:=h1 j hi hlt
  rw [show ops.size-j=d+1 by omega] at hr
  refine ⟨fun h0=>(by rw [hr] at h0;cases h0),fun q hq=>?_⟩
  rw [hr,List.mem_singleton] at hq
  subst hq
  rw [List.drop_eq_getElem_cons (by simpa using hlt)] at h
  have hk:=q2z (F:=F) h1 h2 d (q+1) om om
  rw [q7r]
  unfold wpOpIn
  rw [Array.getElem?_eq_getElem hlt]
  unfold wpListIn at h
  simp only [Array.getElem_toList] at h⊢
  split at h
  ·rename_i hw
   rw [if_pos hw]
   exact Oper.wpIn_mono hk h
  ·rename_i hw
   rw [if_neg hw]
   exact ⟨h.1,hk _ _ h.2⟩
theorem Z9:∀{l:List Bool} {j:Nat},l[j]?=some false→(l.set j true).count false+1=l.count false
 |[],_,h=>by simp at h
 |b::l,0,h=>by
  simp at h
  subst h
  simp
 |b::l,j+1,h=>by
  have:=Z9 (l:=l) (j:=j) (by simpa using h)
  rw [List.set_cons_succ,List.count_cons,List.count_cons]
  omega
theorem qoe {l:List Bool}:l.count false=0↔l.all id=true:=by
 rw [List.count_eq_zero,List.all_eq_true]
 constructor
 ·intro h x hx
  cases x with
  |true=>rfl
  |false=>exact absurd hx h
 ·intro h hx
  have:=h _ hx
  cases this
theorem q7s (hp:lM md ops i=true) (hQ:¬LetsOut Q) (hK:∀a w,K a w→wpListIn Fence.wide 0 P ops Q (ops.toList.drop i) a w):
  ∀(fuel:Nat) (l:List Bool),l.length=i→l.count false=fuel→NF md ops l=true→∀a w,wpAny P md (ops.toList.take i).toArray (Exit.then K Q) fuel l.toArray a w→wpAnyIn Fence.wide 0 P md ops Q (fuel+(ops.size-i)) (l++List.replicate (ops.size-i) false).toArray a w:=by
 unfold lM at hp
 simp only [Bool.and_eq_true,decide_eq_true_eq] at hp
 obtain ⟨hA,_,hB,hC,hi,hg⟩:=hp
 have hlen:(ops.toList.take i).length=i:=by rw [List.length_take];simp;omega
 have hT:=q2z (P:=P) (Q:=Q) (F:=Fence.wide) (n:=0) (md:=md) (ops:=ops) (i:=i) (fun j h1 h2=>by
  have h3:=List.all_eq_true.1 hB (j-i) (List.mem_range.2 om)
  rw [show i+(j-i)=j by omega,show ops.size-i- (j-i)=ops.size-j by omega] at h3
  exact eq_of_beq h3) (List.isEmpty_iff.1 hC)
 intro fuel
 induction fuel with
 |zero=>
  intro l hl hc hcl a w h
  have ha:=qoe.1 hc
  have he:l=List.replicate i true:=List.eq_replicate_iff.2 ⟨hl,fun b hb=>List.all_eq_true.1 ha b hb⟩
  subst he
  rw [Nat.zero_add]
  exact hT _ _ om (Nat.le_refl _) _ _ (hK _ _ h.2)
 | succ fuel ih =>
  intro l hl hc hcl a w h
  have h3:=List.all_eq_true.1 hA l (by rw [←hl];exact Z8 l)
  rw [hcl,Bool.not_true,Bool.false_or,Bool.and_eq_true] at h3
  have hcj:=h3.1
  replace h3:=h3.2
  have hna:l.all id=false:=by
   cases hx:l.all id with
   |false=>rfl
   |true=>rw [qoe.2 hx] at hc;omega
  rw [hna,Bool.false_or,Bool.and_eq_true] at h3
  have hr:=eq_of_beq h3.2
  have hne:=eq_of_beq h3.1
  rw [Nat.succ_add]
  refine ⟨fun h0=>(by rw [hr] at h0;rw [h0] at hne;cases hne),fun j hj=>?_⟩
  rw [hr] at hj
  have h4:=h.2 j hj
  have hcj:=List.all_eq_true.1 hcj j hj
  obtain ⟨ED,o,ho,_⟩:=mem_ready.1 hj
  have hjl:j<i:=by
   have:=(Array.getElem?_eq_some_iff.1 ho).1
   simpa [hlen] using this
  have hlj:l[j]?=some false:=by
   have:l.toArray.getD j true=false:=ED
   rw [Array.getD_eq_getD_getElem?,List.getElem?_toArray,List.getElem?_eq_getElem om] at this
   rw [List.getElem?_eq_getElem om]
   exact congrArg some this
  have ho2:ops[j]?=some o:=by
   rw [List.getElem?_toArray,List.getElem?_take,if_pos hjl,Array.getElem?_toList] at ho
   exact ho
  have hgo:o.guard=none:=by
   have hm:o∈ops.toList.take i:=by
    rw [List.getElem?_toArray] at ho
    exact List.mem_of_getElem? ho
   have:=List.all_eq_true.1 hg o hm
   simpa using this
  have e1:l.toArray.setIfInBounds j true=(l.set j true).toArray:=List.setIfInBounds_toArray ..
  have e2:(l++List.replicate (ops.size-i) false).toArray.setIfInBounds j true=(l.set j true++List.replicate (ops.size-i) false).toArray:=by
   rw [List.setIfInBounds_toArray,List.set_append_left _ _ om]
  rw [e1] at h4
  rw [e2]
  have hk:=ih (l.set j true) (by rw [List.length_set];exact hl) (by have:=Z9 hlj;omega) hcj
  have hw:∀x,Region.wanted o x=true:=fun x=>by unfold Region.wanted;rw [hgo]
  unfold wpOp at h4
  rw [ho] at h4
  simp only [hw,if_true] at h4
  unfold wpOpIn
  rw [ho2]
  simp only [hw,if_true]
  have h5:=Qu (Q:=Exit.then K Q) (fun ⟨a,w,h⟩=>hQ ⟨a,w,h⟩) hk h4
  refine ⟨h5.1,?_⟩
  have h3:=h5.2
  generalize (o.semAt Fence.wide.round a.eval).run P w=r at h3
  cases r with
  | ok x w' =>
   cases x with
   |enter f args=>
    refine ⟨h3.1,h3.2.mono ?_⟩
    intro e w'' he
    cases e with
    |returned v=>exact he
    |panicked c=>exact he
    |outgrown=>exact he
   |round l f tmps assign body=>
    refine ⟨h3.1,h3.2.mono ?_⟩
    intro e w'' he
    cases e with
    |returned v=>exact he
    |panicked c=>exact he
    |outgrown=>exact he
   |_=>exact h3
  |halt hh w'=>
   cases hh with
   |panic v=>exact h3
   |_=>exact h3
def SQ (P:Program) (ops:Array Oper) (Q:Exit→Act→World→Prop) (i:Nat) (a:Act) (w:World):Prop:=∃o,ops[i]?=some o∧o.guard=none∧o.wpIn Fence.wide 0 P a w (wpListIn Fence.wide 0 P ops Q (ops.toList.drop (i+1))) Q
theorem qx3 {id:Nat} (i:Nat) (S:World→Prop) (ex:List Nat) (h:qi P .any (ops.toList.take i).toArray (Exit.then (SQ P ops Q i) Q) S ex i (Array.replicate i false) a w.drew)
  (hm:P.follows .mixedOrders=true:=by kernel_rfl) (hp:lM .any ops i=true:=by kernel_rfl) (hQ:¬LetsOut Q:=by intro ⟨_,_,h⟩;obtain ⟨_,h,_⟩:=h;cases h):(Code.region id ops true).wp P Q a w:=by
 refine wpIn_wide.1 (wpIn_region_any (n:=0) hm ?_)
 have h1:=q7s (P:=P) (Q:=Q) (K:=SQ P ops Q i) hp hQ (fun a w ⟨o,ho,hn,h⟩=>by
  obtain ⟨hl,he⟩:=Array.getElem?_eq_some_iff.1 ho
  rw [List.drop_eq_getElem_cons (by simpa using hl),Array.getElem_toList,he]
  unfold wpListIn
  rw [if_pos (by unfold Region.wanted;rw [hn])]
  exact h) i (List.replicate i false) (by simp) (by simp) (by unfold lM at hp;simp only [Bool.and_eq_true] at hp;exact hp.2.1) a w.drew (Mg _ _ _ _ (by rw [List.toArray_replicate];exact h))
 unfold lM at hp
 simp only [Bool.and_eq_true,decide_eq_true_eq] at hp
 obtain ⟨_,_,_,_,hi,_⟩:=hp
 rw [show i+(ops.size-i)=ops.size by omega,List.replicate_append_replicate,show i+(ops.size-i)=ops.size by omega,List.toArray_replicate] at h1
 exact h1
theorem DK {id:Nat} (i:Nat) {fs:List ag} (HM:Mem W w fs) (fs':List ag) (m:Nat) (is ex:List Nat) (h:Mem W w.drew fs→Mem W w.drew fs'→qi P .any (ops.toList.take i).toArray (Exit.then (SQ P ops Q i) Q) (fun wS=>Mem W wS fs') ex i (Array.replicate i false) a w.drew)
  (hn:is.Nodup:=by decide) (hlt:(is.all (· <m))=true:=by decide) (he:picks fs is++fs.drop m=fs':=by rfl) (hm:P.follows .mixedOrders=true:=by kernel_rfl) (hp:lM .any ops i=true:=by kernel_rfl) (hQ:¬LetsOut Q:=by intro ⟨_,_,h⟩;obtain ⟨_,h,_⟩:=h;cases h):(Code.region id ops true).wp P Q a w:=
 qx3 i _ ex (h HM.drew (HM.drew.P8 m is hn hlt he)) hm hp hQ
end
theorem Yl.str {S:World→Prop} {σ:List (Nat×Value)} {o:Oper} {x:Operand} {A:Option Addr} {n c:Nat} {l:List Nat} (hop:o.op= .convert 35 9 x) (hx:look σ x=some (.slice A n c)) (hr:∀w,S w→Rd w w.heap.size 1 A n (l.map B8)):Yl Tryz.prog S σ o (.string (gH l)):=fun a m D Z w hS=>by
 unfold execOp
 simp [hop,Z.eval hx,q3n (hr w hS)]
theorem Aq (l:List Nat):∀u∈l.map B8,u.oneCell'=true:=by
 intro u hu
 obtain ⟨x,_,rfl⟩:=List.mem_map.1 hu
 rfl
theorem Rd.P9 {w:World} {B n k cap:Nat} {A:Option Addr} {l:List Nat} (h:Rd w B 1 A n (l.map B8)) (hk:k≤n) (hc:n≤cap):Rd w B 1 (if cap=k then A else A.map (·.add (k*1))) (n-k) ((l.drop k).map B8):=by
 have h1:=h.from hk hc
 rw [List.map_drop]
 have e:(l.map B8).drop (k*1)=(l.map B8).drop k:=by rw [Nat.mul_one]
 rw [←e]
 exact h1
theorem Qa (l:List Nat):((gH l).toList==(gH l).toList)=true:=by simp
theorem Laid.mem {B:Nat} {W w:World} {fs:List ag} (h:Laid B W) (hM:Mem W w fs) (hB:B≤W.heap.size):Laid B w:=h.below hM.below hB
theorem Mem.le {W w:World} {fs:List ag} (h:Mem W w fs) {B:Nat} (hB:B≤W.heap.size):B≤w.heap.size:=Nat.le_trans hB h.size
theorem EL {x:Int} (h: -9223372036854775808≤x∧x≤9223372036854775807):Value.int .i64 (IntKind.i64.wrap x)= .int .i64 x:=by rw [IntWalk.i64_in x h]
def zp (w:World) (er:Nat) (R:List Nat) (r:Ending) (w':World):Prop:=
 (∃A c,r= .returned (.tuple #[.slice A R.length c,.int .i64 (er:Int)])∧w'.ownsRow w.heap.size 5 1 (.slice A R.length c) R.length (R.map B8)∧R.length≤c)∧Below w.heap.size w w'
theorem cO.is {w w':World} {r:Ending} {er rQ:Nat} {R R':List Nat} (h:cO w er R r w') (h1:er=rQ) (h2:R=R'):zp w rQ R' r w':=by
 subst h1;subst h2
 obtain ⟨⟨v,rfl,ho⟩,hb⟩:=h
 obtain ⟨A,c,rfl,hc⟩:=Mk ho
 exact ⟨⟨A,c,rfl,ho,hc⟩,hb⟩
theorem qzf (b:Bs) (A:Option Addr) (n c:Nat) (l:List Ev) (hok:∀e∈l,e.Ok) (B:Nat) (w:World) (hL:Laid B w) (hB:B≤w.heap.size) (hr:Rd w w.heap.size 11 A n (l.flatMap cZ)) (hn:n≤1000000000000) {er:Nat} {R:List Nat} (h1:za b l=er) (h2:zf b l=R):
  Calls Tryz.prog 164 #[.agg b.cells,.slice A n c] w (zp w er R):=
 (qut b A n c l hok B w hL hB hr hn).mono fun _ _ h=>h.is h1 h2
section
variable {P:Program} {S:World→Prop} {σ:List (Nat×Value)} {o:Oper} {t e:TypeId} {z:Value} {size bytes:Nat}
theorem Yl.sliceFrom (ei:EI P t e z size bytes) {x lo:Operand} {A:Option Addr} {m c j:Nat} {k:IntKind} (hop:o.op= .slice t x (some lo) none none) (hx:look σ x=some (.slice A m c)) (hl:look σ lo=some (.int k (j:Int))) (hj:j≤m):
  Yl P S σ o (.slice (if c=j then A else A.map (·.add (j*size))) (m-j) (c-j)):=fun a n D Z w hS=>by
 unfold execOp
 simp only [hop,Z.eval hx,Z.eval hl,Option.map_some,Option.map_none,Sem.run_bind,Sem.run_pure,U9 (P:=P) ei hj,Result.andThen_ok]
theorem Yl.yA (ei:EI P t e z size bytes) {x hi:Operand} {A:Option Addr} {m c j:Nat} {k:IntKind} (hop:o.op= .slice t x none (some hi) none) (hx:look σ x=some (.slice A m c)) (hl:look σ hi=some (.int k (j:Int))) (hj:j≤c):
  Yl P S σ o (.slice A j c):=fun a n D Z w hS=>by
 unfold execOp
 simp only [hop,Z.eval hx,Z.eval hl,Option.map_some,Option.map_none,Sem.run_bind,Sem.run_pure,qju (P:=P) ei hj,Result.andThen_ok]
end
section
variable {P:Program} {S:World→Prop} {σ:List (Nat×Value)} {o:Oper}
def placesOf (P:Program):List Field→Option (List (Nat×Nat))
 |[]=>some []
 |f::r=>match P.info? f.type,placesOf P r with
  |some i,some l=>some ((f.offset,i.size)::l)
  |_,_=>none
theorem Wy:∀{fs:List Field} {l:List (Nat×Nat)},placesOf P fs=some l→∀w,(fs.mapM fun f=>(do pure (f.offset,←sizeOf f.type):Sem (Nat×Nat))).run P w= .ok l w
 |[],l,h,w=>by cases h;rfl
 | f :: r, l, h, w => by
  unfold placesOf at h
  split at h
  ·rename_i i l' hi hr
   injection h with h
   subst h
   simp [List.mapM_cons,sizeOf,typeInfo,hi]
   have:=Wy hr w
   simp [sizeOf,typeInfo] at this
   simp [this]
  ·cases h
def Wz (P:Program) (t:TypeId) (vs:List (Nat×Value)):Option (Array Value):=match P.underlying t,xu P t with
 |some (.struct fs),some z=>match placesOf P fs.toList with
  |some l=>Instr.fill (l.toArray[·]?) z vs
  |none=>none
 |_,_=>none
theorem Yl.build {t:TypeId} {ps:Array (Nat×Operand)} {vs:List (Nat×Value)} {cs:Array Value} (hop:o.op= .build t ps) (hv:yx σ ps.toList=some vs) (hb:Wz P t vs=some cs):Yl P S σ o (.agg cs):=fun a n D Z w hS=>by
 have hpm:=PX Z hv
 have e1:(Instr.build t (ps.map fun p=>(p.1,a.eval p.2))).run P w= .ok (.agg cs) w:=by
  rw [hpm]
  unfold Wz at hb
  split at hb
  ·rename_i fs z hu hz
   split at hb
   ·rename_i l hl
    unfold xu at hz
    obtain ⟨zv,hz1,rfl⟩:=Option.map_eq_some_iff.1 hz
    obtain ⟨i,hi,hz2⟩:=Option.bind_eq_some_iff.1 hz1
    have hm:(fs.mapM fun f=>(do Pure.pure (f.offset,←sizeOf f.type):Sem (Nat×Nat))).run P w= .ok l.toArray w:=by
     rw [←Array.toArray_toList (xs:=fs),List.mapM_toArray]
     simp only [Sem.run_map,Wy hl]
     rfl
    unfold Instr.build
    simp only [Sem.run_bind,zeroValue,typeInfo,program,Sem.run,hi,hz2,Sem.run_pure,Result.andThen_ok,run_underlying hu,hm,hb]
   ·cases hb
  ·cases hb
 unfold execOp
 simp only [hop,Sem.run_bind,Sem.run_pure]
 show ((Instr.build t (ps.map fun p=>(p.1,a.eval p.2))).run P w).andThen _=_
 rw [e1]
 rfl
end
theorem qc2 {w:World} {base:Nat} {e:TypeId} {size n c:Nat} {A:Option Addr} {xs:List Value} (h:w.ownsRow base e size (.slice A n c) n xs) (hn:0<n):∃g,A=some ⟨g,0,none⟩:=by
 obtain ⟨g,c',h1,_⟩:=q6m h hn
 injection h1 with h1 _ _
 exact ⟨g,h1⟩
theorem Mem.Qb {W w:World} {fs:List ag} (h:Mem W w fs) {α:Type} {f:α→List Value} {sz:Nat} (hf:∀x,(f x).length=sz) {i g m c:Nat} {e:TypeId} {l:List α} (hi:fs[i]?=some (.row (.slice (some ⟨g,0,none⟩) m c) m (l.flatMap f) e sz)) {k:Nat} {x:α} (hk:l[k]?=some x):w.rangeAt g (k*sz) (f x):=
 h.PY hi (k*sz) fun j u hu=>by
  obtain ⟨hl,he⟩:=List.getElem?_eq_some_iff.1 hk
  have hj:j<sz:=by have:=(List.getElem?_eq_some_iff.1 hu).1;rwa [hf] at this
  rw [BO f sz hf l k j hl hj,he]
  exact hu
theorem q6q (A:Option Addr) (n c:Nat) (l:List Ev) (hok:∀e∈l,e.Ok) (B:Nat) (w:World) (hL:Laid B w) (hB:B≤w.heap.size) (hr:Rd w w.heap.size 11 A n (l.flatMap cZ)) (hn:n≤140737488355328) {i:Int} {er:Nat} (h:bH l=(i,er)):
  Calls Tryz.prog 123 #[.slice A n c] w fun r w'=>r= .returned (.tuple #[.int .i64 i,.int .i64 (er:Int)])∧Below w.heap.size w w':=
 (Ex A n c l hok B w hL hB hr hn).mono fun _ _ p=>⟨by rw [p.ret,h],p.below⟩
theorem q3r (b:Bs) (cpu:Nat) (eO:cpu<256) (A:Option Addr) (n c:Nat) (m:Int) (hm:bC m) (l:List Nat) (B:Nat) (w:World) (hL:Laid B w) (hB:B≤w.heap.size) (hr:Rd w w.heap.size 1 A n (l.map B8)) (hc:n≤c) (hl:∀b∈l,b<256) (hn:n≤200000000000000) (hlim:V4 m l) {es:List Ev} {L er:Nat} (h:gQ b cpu m l=(es,L,er)):
  Calls Tryz.prog 162 #[.agg b.cells,.int .u8 (cpu:Int),.int .i64 m,.slice A n c] w fun r w'=>(∃A c,r= .returned (.tuple #[.slice A es.length c,.int .i64 (L:Int),.int .i64 (er:Int)])∧w'.ownsRow w.heap.size 32 11 (.slice A es.length c) es.length (es.flatMap cZ)∧es.length≤c)∧Below w.heap.size w w':=
 (quw b cpu eO A n c m hm l B w hL hB hr hc hl hn hlim).mono fun r w' p => by
  rw [h] at p
  obtain ⟨⟨v,rfl,ho⟩,hb⟩:=p
  obtain ⟨A,c,rfl,hc⟩:=Mk ho
  exact ⟨⟨A,c,rfl,ho,hc⟩,hb⟩
section
variable {P:Program} {S:World→Prop} {σ:List (Nat×Value)} {o:Oper} {v:Value}
def EM (P:Program) (t:TypeId):Bool:=match P.underlying t with
 |some (.func _ _ _)=>true
 |_=>false
theorem qsr {t:TypeId} {f:Fn} {xs ys:Array Value} (ht:EM P t=true) (w:World):(Op.equal t (.func f xs ys) .nilFunc).run P w= .ok false w:=by
 unfold EM at ht
 split at ht
 ·rename_i hu
  show (Op.equalIn (9999+1) t (.func f xs ys) .nilFunc).run P w=_
  unfold Op.equalIn
  simp only [Sem.run_bind,run_underlying hu,Result.andThen_ok]
  rfl
 ·cases ht
theorem qu4 {t:TypeId} (ht:EM P t=true) (w:World):(Op.equal t .nilFunc .nilFunc).run P w= .ok true w:=by
 unfold EM at ht
 split at ht
 ·rename_i hu
  show (Op.equalIn (9999+1) t .nilFunc .nilFunc).run P w=_
  unfold Op.equalIn
  simp only [Sem.run_bind,run_underlying hu,Result.andThen_ok]
  rfl
 ·cases ht
theorem Yl.WA {t u:TypeId} {x y:Operand} {f:Fn} {xs ys:Array Value} (hop:o.op= .binOp .neq t x y u) (hx:look σ x=some (.func f xs ys)) (hy:look σ y=some .nilFunc) (ht:EM P t=true):Yl P S σ o (.bool true):=fun a n D Z w hS=>by
 unfold execOp
 have e:(binOp .neq t (.func f xs ys) .nilFunc).run P w= .ok (.bool true) w:=by
  show ((do Pure.pure (.bool (!(←Op.equal t (.func f xs ys) .nilFunc))):Sem Value)).run P w=_
  simp [qsr ht]
 simp only [hop,Z.eval hx,Z.eval hy,Sem.run_bind,GJ (P:=P) .neq t x y (a:= .func f xs ys) rfl,Result.andThen_ok,e,Sem.run_pure]
theorem Yl.q77 {t u:TypeId} {x y:Operand} (hop:o.op= .binOp .neq t x y u) (hx:look σ x=some .nilFunc) (hy:look σ y=some .nilFunc) (ht:EM P t=true):Yl P S σ o (.bool false):=fun a n D Z w hS=>by
 unfold execOp
 have e:(binOp .neq t .nilFunc .nilFunc).run P w= .ok (.bool false) w:=by
  show ((do Pure.pure (.bool (!(←Op.equal t .nilFunc .nilFunc))):Sem Value)).run P w=_
  simp [qu4 ht]
 simp only [hop,Z.eval hx,Z.eval hy,Sem.run_bind,GJ (P:=P) .neq t x y (a:= .nilFunc) rfl,Result.andThen_ok,e,Sem.run_pure]
theorem Yl.WB {t:TypeId} {x:Operand} {m:Nat} (hop:o.op= .unOp .xor t x) (hx:look σ x=some (.int .u32 (m:Int))) (hm:m<4294967296):Yl P S σ o (.int .u32 ((m^^^4294967295:Nat):Int)):=fun a n D Z w hS=>by
 have h1:=Mr (m:=4294967295) (n:=m) de hm
 rw [Nat.xor_comm] at h1
 unfold execOp
 simp only [hop,Z.eval hx,Op.unary]
 rw [←h1]
 rfl
def WC (P:Program) (t:TypeId):Option (Nat×Nat):=match P.underlying t with
 |some (.array n e)=>(P.info? e).map fun i=>(n,i.size)
 |_=>none
theorem Yl.GX {t:TypeId} {x ix:Operand} {ad:Addr} {m y sz:Nat} {k:IntKind} (hop:o.op= .indexAddr t x ix) (hx:look σ x=some (.pointer (some ad))) (hi:look σ ix=some (.int k (y:Int))) (he:WC P t=some (m,sz)) (hy:y<m):Yl P S σ o (.pointer (some (ad.add (y*sz)))):=fun a n D Z w hS=>by
 unfold WC at he
 split at he
 ·rename_i m' e hu
  obtain ⟨i,hi',he⟩:=Option.map_eq_some_iff.1 he
  injection he with h1 h2
  subst h1;subst h2
  unfold execOp
  simp [hop,Z.eval hx,Z.eval hi,Instr.indexAt,asIntOf,run_underlying hu,hy,sizeOf,typeInfo,hi',Instr.sureAddr]
 ·cases he
theorem Yl.Cs {t e:TypeId} {z:Value} {size bytes:Nat} (ei:EI P t e z size bytes) {x lo hi:Operand} {A:Option Addr} {m c i j:Nat} {k k':IntKind} (hop:o.op= .slice t x (some lo) (some hi) none) (hx:look σ x=some (.slice A m c)) (hl:look σ lo=some (.int k (i:Int))) (hh:look σ hi=some (.int k' (j:Int))) (hij:i≤j) (hj:j≤c):
  Yl P S σ o (.slice (if c=i then A else A.map (·.add (i*size))) (j-i) (c-i)):=fun a n D Z w hS=>by
 obtain ⟨inf,Qc,_,hs,_⟩:=info_parts ei.hi
 have hi':i≤c:=Nat.le_trans hij hj
 have e1:(Instr.sliceAt t (.slice A m c) (some (.int k (i:Int))) (some (.int k' (j:Int))) none).run P w= .ok (.slice (if c=i then A else A.map (·.add (i*size))) (j-i) (c-i)) w:=by
  subst hs
  simp [Instr.sliceAt,run_underlying ei.ht,Instr.slice,Instr.sliceBounds,Instr.sliceBound,asIntOf,hij,hj,sizeOf,typeInfo,Qc]
 unfold execOp
 simp only [hop,Z.eval hx,Z.eval hl,Z.eval hh,Option.map_some,Option.map_none,Sem.run_bind,e1,Result.andThen_ok]
 rfl
def WE (P:Program) (t:TypeId):Option Nat:=match P.underlying t with
 |some (.array n _)=>some n
 |_=>none
theorem Yl.arrayAt {t:TypeId} {x:Operand} {A:Option Addr} {m c k:Nat} (hop:o.op= .sliceToArrayPointer t x) (hx:look σ x=some (.slice A m c)) (ht:WE P t=some k) (hk:k≤m):Yl P S σ o (.pointer A):=fun a n D Z w hS=>by
 unfold WE at ht
 split at ht
 ·rename_i m' e hu
  injection ht with ht;subst ht
  unfold execOp
  simp [hop,Z.eval hx,Instr.arrayAt,run_underlying hu,Nat.not_lt.2 hk]
 ·cases ht
end
theorem Rd.mid {w:World} {B size n c i j:Nat} {A:Option Addr} {xs:List Value} (h:Rd w B size A n xs) (hij:i≤j) (hj:j≤n) (hc:n≤c):
  Rd w B size (if c=i then A else A.map (·.add (i*size))) (j-i) ((xs.take (j*size)).drop (i*size)):=by
 have h1:=h.from (k:=i) (cap:=c) om hc
 have h2:=h1.upto (k:=j-i) om
 rw [List.drop_take,←Nat.sub_mul]
 exact h2
theorem Rd.xw {w:World} {B n c i j:Nat} {A:Option Addr} {l:List Nat} (h:Rd w B 1 A n (l.map B8)) (hij:i≤j) (hj:j≤n) (hc:n≤c):
  Rd w B 1 (if c=i then A else A.map (·.add (i*1))) (j-i) (((l.take j).drop i).map B8):=by
 have h1:=h.mid hij hj hc
 rw [Nat.mul_one,Nat.mul_one,←List.map_take,←List.map_drop] at h1
 rw [Nat.mul_one]
 exact h1
section
variable {W w:World} {fs:List ag}
theorem Mem.uB (h:Mem W w fs) {g:Nat} {ob:Obj} (hb:W.heap[g]?=some ob):w.heap[g]?=some ob:=(h.below.block g (zl hb)).trans hb
theorem Mem.mg (h:Mem W w fs) {g off:Nat} {cs:Array Value} {t:TypeId} {v:Value} (hb:W.heap[g]?=some (.cells cs t (0,0))) (hc:cs[off]?=some v):w.cell? ⟨g,off,none⟩=some v:=by
 simp [World.cell?,h.uB hb,hc]
end
section
variable {P:Program} {S:World→Prop} {σ:List (Nat×Value)} {o:Oper}
end
theorem XY {α:Type} (f:α→List Value) (sz:Nat) (hf:∀x,(f x).length=sz):∀(l:List α) (k:Nat),(l.flatMap f).drop (k*sz)=(l.drop k).flatMap f
 |[],_=>by simp
 |_::_,0=>by simp
 |x::l,k+1=>by
  rw [List.flatMap_cons,List.drop_succ_cons,List.drop_append,List.drop_of_length_le (by rw [hf,Nat.succ_mul];omega),hf,←XY f sz hf l k,List.nil_append]
  congr 1
  rw [Nat.succ_mul];omega
theorem Rd.q8e {α:Type} {f:α→List Value} {sz:Nat} (hf:∀x,(f x).length=sz) {w:World} {B k c:Nat} {A:Option Addr} {l:List α} (h:Rd w B sz A l.length (l.flatMap f)) (hk:k≤l.length) (hc:l.length≤c):Rd w B sz (if c=k then A else A.map (·.add (k*sz))) (l.drop k).length ((l.drop k).flatMap f):=by
 have h1:=h.from hk hc
 rwa [XY f sz hf,←List.length_drop] at h1
theorem MU {α:Type} {l:List α} {k:Nat} (d:α) (h:k<l.length):l.take (k+1)=l.take k++[l.getD k d]:=by
 rw [List.take_succ_eq_append_getElem h,List.getD_eq_getElem?_getD,List.getElem?_eq_getElem h]
 rfl
section
variable {P:Program} {Q:Exit→Act→World→Prop} {a:Act} {W w:World} {n d:Nat} {D:List Deferred} {σ:List (Nat×Value)} {o:Oper} {K:Act→World→Prop} {fs:List ag} {S:World→Prop}
theorem Yl.cap {x:Operand} {t:TypeId} {A:Option Addr} {m c:Nat} (hop:o.op= .call {callee:= .builtin .cap,args:= #[x],argTypes:= #[t]}) (hx:look σ x=some (.slice A m c)) (ht:o7 P t=true):Yl P S σ o (.int .i64 (c:Int)):=fun a n D Z w hS=>by
 unfold o7 at ht
 split at ht
 ·rename_i e hu
  unfold execOp
  simp [hop,resolve,invoke,builtin,Z.eval hx,Builtin.cap_,run_underlying hu,goInt]
 ·cases ht
theorem qlq (Z:Fr a n D σ) (HM:Mem W w fs) {s x:Operand} {t tn e:TypeId} {z:Value} {size bytes m:Nat} {kn k:IntKind} (hop:o.op= .call {callee:= .builtin .append,args:= #[s,x],argTypes:= #[t,tn]}) (ei:EI P t e z size bytes) (htn:P.underlying tn=some (.int kn))
  (hs:look σ s=some (.slice none 0 0)) (hx:look σ x=some (.int k (m:Int))) (h0:0<m) (h63:m≤4611686018427387904) (hb:m*bytes≤281474976710656)
  (hd:o.dst=some d) (hdn:d<n) (kk:∀a' w' g c',Fr a' n D ((d,.slice (some ⟨g,0,none⟩) m c')::σ)→Mem W w' (.row (.slice (some ⟨g,0,none⟩) m c') m (Builtin.zeroCells z.cells m).toList e size::fs)→m≤c'→K a' w'):o.wp P a w K Q:=by
 obtain ⟨i,hi,hz,hsz,hby⟩:=info_parts ei.hi
 have hr:=Lib.run_append_nil_zeros (P:=P) w t tn o.type e i z k kn ei.ht htn hi hz m h0 (by rw [hsz];exact ei.hs) om (by rw [hby];exact hb)
 have h1:m≤grownCap w m 0 e:=grownCap_ge w m 0 e
 have h2:grownCap w m 0 e≤maxLen:=grownCap_le_maxLen w m 0 e (by unfold maxLen;omega)
 have hzl:(Builtin.zeroCells z.cells m).size=m*size:=by rw [size_zeroCells,ei.hz]
 have hown:(w.drew.alloc (.cells (Builtin.zeroCells z.cells m++Builtin.zeroCells z.cells (grownCap w m 0 e-m)) e)).ownsRow w.heap.size e size (.slice (some ⟨w.heap.size,0,none⟩) m (grownCap w m 0 e)) m (Builtin.zeroCells z.cells m).toList:=by
  refine ⟨by simpa using hzl,.inr ⟨w.heap.size,_,_,rfl,Nat.le_refl _,World.alloc_heap_new w.drew _,h1,h2,?_,?_⟩⟩
  ·rw [Array.size_append,hzl,size_zeroCells,ei.hz,←Nat.add_mul]
   congr 1
   omega
  ·rw [Array.toList_append,←hzl,←Array.length_toList]
   exact List.take_left
 unfold Oper.wp execOp
 simp only [hop,resolve,invoke,builtin,Sem.run_bind,Sem.run_pure,Result.andThen_ok,List.map_toArray,List.map_cons,List.map_nil,Z.eval hs,Z.eval hx,hr]
 rw [Oper.upon_value,hd]
 exact kk _ _ w.heap.size _ (Z.put hdn _) (HM.bN ((Below.refl _ _).drew.alloc (by simp) _) hown) h1
theorem Mem.shrink (h:Mem W w fs) {i m k c size:Nat} {A:Option Addr} {e:TypeId} {xs:List Value} (hi:fs[i]?=some (.row (.slice A m c) m xs e size)) (hk:k≤m) (hA:A=none→k=0∧c=0):Mem W w (fs.set i (.row (.slice A k c) k (xs.take (k*size)) e size)):=by
 have ho:=h.own hi
 refine h.turn hi h.below (fun _ _ _=>rfl) ?_ (fun g' hg'=> .inl (by cases A<;>exact hg'))
 refine ⟨by rw [List.length_take,ho.1];exact Nat.min_eq_left (Nat.mul_le_mul_right _ hk),?_⟩
 rcases ho.2 with ⟨h1,h2⟩|⟨g,cap,cur,h1,h2,h3,h4,h5,h6,h7⟩
 ·injection h1 with h1 _ _
  obtain ⟨rfl,rfl⟩:=hA h1
  subst h1
  exact .inl ⟨rfl,rfl⟩
 ·injection h1 with h1 _ h8
  subst h1;subst h8
  refine .inr ⟨g,c,cur,rfl,h2,h3,by omega,h5,h6,?_⟩
  rw [←h7,List.take_take,Nat.min_eq_left (Nat.mul_le_mul_right _ hk)]
end
theorem WG {m n j:Nat} (hm:m<2^j):m|||n*2^j=m+n*2^j:=by
 have:=Nat.two_pow_add_eq_or_of_lt hm n
 rw [Nat.or_comm,Nat.mul_comm n,←this,Nat.add_comm]
theorem Qd {m n j p:Nat} (hp:2^j=p) (hm:m<p) (hb:m+n*p<4294967296):Value.int .u32 (Go.IntKind.u32.wrap (BitVec.ofInt Go.IntKind.u32.bits (m:Int)|||BitVec.ofInt Go.IntKind.u32.bits ((n*p:Nat):Int)).toNat)= .int .u32 ((m+n*p:Nat):Int):=by
 subst hp
 have h:=q6o (m:=m) (n:=n*2^j) om om
 rw [WG hm] at h
 exact h
theorem qzg {m n j p:Nat} (hp:2^j=p) (hm:n<p) (hb:m*p+n<9223372036854775808):Value.int .i64 (Go.IntKind.i64.wrap (BitVec.ofInt Go.IntKind.i64.bits ((m*p:Nat):Int)|||BitVec.ofInt Go.IntKind.i64.bits (n:Int)).toNat)= .int .i64 ((m*p+n:Nat):Int):=by
 subst hp
 have h:=q6p (m:=m*2^j) (n:=n) om om
 rw [Nat.or_comm,WG hm,Nat.add_comm] at h
 exact h
structure Part where
 A:Option Addr
 c:Nat
 l:List Nat
def Part.val (p:Part):Value:= .slice p.A p.l.length p.c
theorem GY {l:List Part} {k:Nat} {d:Part} (h:k<l.length):(l.take (k+1)).flatMap (·.l)=(l.take k).flatMap (·.l)++(l.getD k d).l:=by
 rw [List.take_add_one,getD_at d h];simp
theorem GZ {l:List Part} (k:Nat):((l.take k).flatMap (·.l)).length≤(l.flatMap (·.l)).length:=by
 conv=>rhs;rw [←List.take_append_drop k l]
 rw [List.flatMap_append,List.length_append]
 omega
def rT (n:Nat):List Nat:=[n%256,n/256%256,n/65536%256,n/16777216%256]
def bZ (l:List Nat):List Nat:=l++rT (zi l)
def fO (l:List Nat):Nat:=l.getD 0 0+256*l.getD 1 0+65536*l.getD 2 0+16777216*l.getD 3 0
def zn (l:List Nat):Bool:=decide (4≤l.length∧zi (l.take (l.length-4))=fO (l.drop (l.length-4)))
theorem Qi (k:Nat) (h:k<16):rR.getD k 0<4294967296:=by
 have:∀k,k<16→rR.getD k 0<4294967296:=by decide
 exact this k h
def Is (w:World) (v:Value) (r:Ending) (w':World):Prop:=r= .returned v∧Below w.heap.size w w'
def sP (w:World) (R:List Nat) (r:Ending) (w':World):Prop:=
 (∃A c,r= .returned (.slice A R.length c)∧w'.ownsRow w.heap.size 5 1 (.slice A R.length c) R.length (R.map B8)∧R.length≤c)∧Below w.heap.size w w'
theorem sP.as {w w':World} {R R':List Nat} {r:Ending} (h:sP w R r w') (e:R=R'):sP w R' r w':=e▸h
theorem qnf {w w':World} {R xs:List Nat} {n c:Nat} {A:Option Addr} (ho:w'.ownsRow w.heap.size 5 1 (.slice A n c) n (xs.map B8)) (hc:n≤c) (hn:n=R.length) (hx:xs=R) (hb:Below w.heap.size w w'):sP w R (.returned (.slice A n c)) w':=by
 subst hx;subst hn
 exact ⟨⟨A,c,rfl,ho,hc⟩,hb⟩
theorem qst {x:Nat} {w:World} (hx:x<18446744073709551616):Calls Tryz.prog 112 #[.slice none 0 0,.int .u64 (x:Int)] w (sP w (ah x)):=
 (U1 x w w.heap.size (.slice none 0 0) 0 [] hx (World.ownsRow_nil _ _ _ _) (Nat.le_refl _) om).mono fun e w' ⟨v, h1, h2, h3, _⟩ => by
  rw [Nat.zero_add,List.nil_append] at h2
  obtain ⟨A,c,rfl,hc⟩:=Mk h2
  exact ⟨⟨A,c,h1,h2,hc⟩,(Below.refl _ _).grown h3 (Nat.le_refl _) (fun g hg=>by cases hg)⟩
theorem Qj (A:Option Addr) (n c:Nat) (ls:List Nat) (w:World) (hr:Rd w w.heap.size 1 A n (ls.map aK)) (hls:∀x∈ls,x<18446744073709551616) (hn:10*n≤140737488355000):
  Calls Tryz.prog 68 #[.slice A n c] w (sP w (ls.flatMap ah)):=
 (U2 A n c ls w hr hls hn).mono fun e w' ⟨v, h1, h2, h3⟩ => by
  obtain ⟨A,c,rfl,hc⟩:=Mk h2
  exact ⟨⟨A,c,h1,h2,hc⟩,h3⟩
theorem qo4 (c:Nat) (l:List Nat) (x:Nat):zc c (l++[x])=EN (zc c l) x:=by unfold zc;rw [List.foldl_append];rfl
theorem qo5 {c k:Nat} {l:List Nat} (h:k<l.length):zc c (l.take (k+1))=EN (zc c (l.take k)) (l.getD k 0):=by
 rw [List.take_add_one,getD_at 0 h];exact qo4 _ _ _
theorem rU {l:List Nat} {m:Nat} (h:∀b∈l,b<m) (k:Nat):∀b∈l.take k,b<m:=fun b hb=>h b (List.mem_of_mem_take hb)
theorem uD {l:List Nat} {m:Nat} (h:∀b∈l,b<m) (k:Nat):∀b∈l.drop k,b<m:=fun b hb=>h b (List.mem_of_mem_drop hb)
theorem q6r {c:Nat} (h:c<4294967296):o9 c<4294967296:=G7 om (Qi _ om)
theorem qve (l:List Nat):zi l<4294967296:=by unfold zi;omega
theorem q6s (n:Nat):∀b∈rT n,b<256:=by intro b hb;simp [rT] at hb;omega
theorem q3t (n:Nat):(rT n).length=4:=rfl
theorem qc4 (l:List Nat):(bZ l).length=l.length+4:=by unfold bZ;rw [List.length_append,q3t]
theorem WQ:∀{l:List Nat},(∀x∈l,x<256)→4≤l.length→rT (fO l)=l.take 4
 |a::b::c::d::r,hl,_=>by
  have ha:=hl a (by simp)
  have hb:=hl b (by simp)
  have hc:=hl c (by simp)
  have hd:=hl d (by simp)
  simp [rT,fO]
  omega
 |[],_,h=>by simp at h
 |[_],_,h=>by simp at h
 |[_,_],_,h=>by simp at h
 |[_,_,_],_,h=>by simp at h
theorem qzn {l:List Nat} (hl:∀x∈l,x<256) (h:4≤l.length):rT (fO (l.drop (l.length-4)))=l.drop (l.length-4):=by
 have h1:(l.drop (l.length-4)).length=4:=by rw [List.length_drop];omega
 rw [WQ (uD hl _) om,List.take_of_length_le om]
theorem Qk {l:List Nat} (hl:∀x∈l,x<256) (h:zn l=true):bZ (l.take (l.length-4))=l:=by
 unfold zn at h
 rw [decide_eq_true_eq] at h
 unfold bZ
 rw [h.2,qzn hl h.1,List.take_append_drop]
theorem yC (x:Nat):∀b∈ah x,b<256:=by
 intro b hb
 unfold ah at hb
 obtain ⟨p,hp,rfl⟩:=List.mem_map.1 hb
 have:=OC 10 x p hp
 unfold lh
 split<;>omega
theorem q3u {l m:List Nat} (hl:∀b∈l,b<256) (hm:∀b∈m,b<256):((gH l).toList==(gH m).toList)=decide (l=m):=by
 rw [Bool.eq_iff_iff,beq_iff_eq,decide_eq_true_eq]
 constructor
 ·intro h
  refine qzb hl hm ?_
  rw [ByteArray.toList_eq,ByteArray.toList_eq] at h
  cases hx:gH l;cases hy:gH m
  rw [hx,hy] at h
  simpa using h
 ·rintro rfl;rfl
structure Bk where
 kind:Nat
 cpu:Nat
 lost:Int
 next:Int
 evs:List Ev
structure Bk.Ok (b:Bk):Prop where
 kind:b.kind<256
 cpu:b.cpu<256
 lost:bC b.lost
 next:bC b.next
 evs:∀e∈b.evs,e.Ok
def Bk.zero:Bk:=⟨0,0,0,0,[]⟩
def Bk.EO (b:Bk):Bool:=match b.evs with
 |[]=>decide (0<b.lost)
 |e::_=>decide (e.cpu=b.cpu)
def Bk.oL (b:Bk):Bool:=decide ((bH b.evs).2=0∧b.cpu<64∧0≤b.lost∧b.lost≤281474976710656∧b.next=0∧b.EO=true)
def Bk.xx (b:Bk):Bool:=decide (1≤b.next∧b.next≤281474976710657∧b.cpu=0∧b.lost=0∧b.evs.length=0)
def Bk.fits (b:Bk):Bool:=if b.kind=1 then b.oL else if b.kind=2 then b.xx else false
def Bk.base (b:Bk):Bs:=(b.evs.headD Ev.zero).at
def Bk.body (b:Bk):List Nat:=
 if b.kind=2 then ah b.next.toNat
 else ah b.cpu++ah b.lost.toNat++ah b.evs.length++(if b.evs.length=0 then [] else ah b.base.seq.toNat++ah b.base.time.toNat++recs b.base b.evs)
def Bk.raw (b:Bk):List Nat:=rT (12+b.body.length)++[113,116,1,b.kind]++b.body
def Bk.err (b:Bk):Nat:=if b.fits=false then 107 else if 4096<12+b.body.length then 3 else 0
def Bk.out (b:Bk):List Nat:=if b.err=0 then bZ b.raw else []
def aG (l:List Nat):Nat×Nat:=if l.length<4 then (0,100) else if fO l<13∨4096<fO l then (0,101) else if l.length<fO l then (0,100) else (fO l,0)
def aF (most:Nat) (l:List Nat):Bool:=decide ((ae l).2.2=0∧(ae l).1≤most)
def qb (l:List Nat):List Nat:=l.drop (ae l).2.1
def af (most:Nat) (l:List Nat):Nat:=if most<(ae l).1 then most else (ae l).1
def sQ (l:List Nat):Option Bk:=
 if aF 281474976710657 l=true∧(qb l).length=0∧Bk.fits ⟨2,0,0,af 281474976710657 l,[]⟩=true then some ⟨2,0,0,af 281474976710657 l,[]⟩ else none
def sS (cpu lost:Nat) (l:List Nat) (q:List Ev×Nat×Nat):Option Bk:=
 if q.2.2=0∧(q.1.headD Ev.zero).seq=af 281474976710656 l∧(q.1.headD Ev.zero).time=af 281474976710656 (qb l)∧aF 281474976710656 l=true∧aF 281474976710656 (qb l)=true∧((qb (qb l)).drop q.2.1).length=0∧Bk.fits ⟨1,cpu,lost,0,q.1⟩=true then some ⟨1,cpu,lost,0,q.1⟩ else none
def rV (l:List Nat):Bool:=aF 63 l&&aF 281474976710656 (qb l)&&aF 4096 (qb (qb l))
def zb (l:List Nat):Option Bk:=
 if rV l=true∧0<af 4096 (qb (qb l)) then
  sS (af 63 l) (af 281474976710656 (qb l)) (qb (qb (qb l)))
   (gQ ⟨af 281474976710656 (qb (qb (qb l))),af 281474976710656 (qb (qb (qb (qb l))))⟩ (af 63 l) (af 4096 (qb (qb l))) (qb (qb (qb (qb (qb l))))))
 else if rV l=true∧(qb (qb (qb l))).length=0∧Bk.fits ⟨1,af 63 l,af 281474976710656 (qb l),0,[]⟩=true then some ⟨1,af 63 l,af 281474976710656 (qb l),0,[]⟩ else none
def xy (kind:Nat) (l:List Nat):Option Bk:=if kind=2 then sQ l else zb l
def dQ (l:List Nat):Option Bk×Nat:=
 if zn l=false then (none,102)
 else if ¬(l.getD 4 0=113∧l.getD 5 0=116) then (none,103)
 else if l.getD 6 0≠1 then (none,104)
 else if l.getD 7 0≠1∧l.getD 7 0≠2 then (none,105)
 else match xy (l.getD 7 0) ((l.take (l.length-4)).drop 8) with
  |none=>(none,106)
  |some b=>(some b,0)
def bO (l:List Nat):Bk×Nat×Nat:=
 if (aG l).2≠0 then (Bk.zero,0,(aG l).2)
 else match (dQ (l.take (aG l).1)).1 with
  |some b=>(b,(aG l).1,0)
  |none=>(Bk.zero,0,(dQ (l.take (aG l).1)).2)
theorem yD {most:Nat} {l:List Nat} (hl:∀x∈l,x<256) (h:aF most l=true):∃x m,ae l=(x,m,0)∧af most l=x∧x≤most∧ah x=l.take m∧qb l=l.drop m∧ah x++qb l=l:=by
 unfold aF at h
 rw [decide_eq_true_eq] at h
 refine ⟨(ae l).1,(ae l).2.1,by rw [←h.1],by unfold af;rw [if_neg om],h.2,?_,rfl,?_⟩
 ·exact G5 hl (by rw [←h.1])
 ·have:=G5 hl (show ae l=((ae l).1,(ae l).2.1,0) by rw [←h.1])
  rw [this]
  exact List.take_append_drop _ _
theorem zk {l:List Nat} (hl:∀x∈l,x<256):∀x∈qb l,x<256:=fun x hx=>hl x (List.mem_of_mem_drop hx)
theorem qzo {b:Bk} (h:b.fits=true) (hk:b.kind=2):b.xx=true:=by unfold Bk.fits at h;rwa [if_neg om,if_pos hk] at h
theorem Ql {b:Bk} (h:b.fits=true) (hk:b.kind≠2):b.kind=1∧b.oL=true:=by
 unfold Bk.fits at h
 split at h
 ·rename_i h1;exact ⟨h1,h⟩
 ·cases h
theorem qvf (b:Bs) (e:Ev):(qI b e).length≤61:=by
 unfold qI zw
 have h1:=qz (e.seq-b.seq).toNat
 have h2:=qz (e.time-b.time).toNat
 have h3:=zu e.vals
 have h4:e.vals.length≤4:=by unfold Ev.vals;rw [List.length_map];exact xP _
 simp only [List.length_cons,List.flatMap_cons,List.length_append]
 omega
theorem Qm:∀(l:List Ev) (b:Bs),(recs b l).length≤61*l.length
 |[],_=>by simp [recs]
 |e::r,b=>by
  have h1:=qvf b e
  have h2:=Qm r e.at
  rw [recs,List.length_append,List.length_cons]
  omega
theorem Qn {cpu : Nat} : ∀ (es : List Ev) (p : Option Ev) (b : Bs) (i : Nat), (∀ e ∈ es, e.Ok) → b.right = true → (∀ e ∈ es.head?, b.behind e = true ∧ e.cpu = cpu) → (∀ q, p = some q → b = q.at ∧ q.cpu = cpu) → (di p i es).2 = 0 → jq cpu p b es
 |[],_,_,_,_,_,_,_,_=>trivial
 | e :: r, p, b, i, hok, hb, hh, hp, h => by
  rw [di] at h
  split at h
  ·rename_i h1;exact absurd h h1
  ·rename_i h1
   split at h
   ·cases h
   ·rename_i h2
    have hc:e.check=0:=by omega
    obtain ⟨g1,g2⟩:=hh e (by simp)
    refine ⟨⟨hb,hc,hok e (by simp),g1⟩,g2,?_,?_⟩
    ·intro q hq
     subst hq
     simp [Ev.after] at h2
     omega
    ·refine Qn r (some e) e.at (i+1) (fun x hx=>hok x (by simp [hx])) (Ms hc) ?_ (fun q hq=>by injection hq with hq;subst hq;exact ⟨rfl,g2⟩) h
     intro x hx
     cases r with
     |nil=>cases hx
     | cons y r =>
      simp at hx
      subst hx
      rw [di] at h
      split at h
      ·rename_i h3;exact absurd h h3
      ·split at h
       ·cases h
       ·rename_i h4
        simp [Ev.after] at h4
        refine ⟨?_,by omega⟩
        unfold Bs.behind Ev.at
        rw [decide_eq_true_eq]
        exact ⟨by show e.seq≤y.seq;omega,h4.2.2⟩
theorem WR {l:List Ev} {e:Ev} (h:(bH l).2=0) (he:l.head?=some e):e.check=0:=by
 cases l with
 |nil=>cases he
 |cons x r=>
  injection he with he
  subst he
  unfold bH at h
  rw [di] at h
  split at h
  ·rename_i h1;exact absurd h h1
  ·omega
theorem WS (e:Ev):e.at.behind e=true:=by unfold Bs.behind Ev.at;rw [decide_eq_true_eq];exact ⟨Int.le_refl _,Int.le_refl _⟩
structure Cu (b:Bk) (e:Ev) (r:List Ev):Prop where
 evs:b.evs=e::r
 cpu:e.cpu=b.cpu
 base:b.base=e.at
 check:e.check=0
 right:e.at.right=true
 chain:jq b.cpu none e.at b.evs
theorem WT {b:Bk} (hok:b.Ok) (h:b.oL=true) (hn:b.evs.length≠0):∃e r,Cu b e r:=by
 unfold Bk.oL at h
 rw [decide_eq_true_eq] at h
 obtain ⟨h1,h2,h3,h4,h5,h6⟩:=h
 cases hev:b.evs with
 |nil=>rw [hev] at hn;simp at hn
 |cons e r=>
  have hc:e.check=0:=WR h1 (by rw [hev];rfl)
  have eO:e.cpu=b.cpu:=by unfold Bk.EO at h6;rw [hev] at h6;simpa using h6
  refine ⟨e,r,hev,eO,by unfold Bk.base;rw [hev];rfl,hc,Ms hc,?_⟩
  refine Qn b.evs none e.at 0 hok.evs (Ms hc) ?_ (fun q hq=>by cases hq) h1
  intro x hx
  rw [hev] at hx
  simp at hx
  subst hx
  exact ⟨WS _,eO⟩
theorem qsu {b:Bk} (hok:b.Ok) (h:b.oL=true) (hn:b.evs.length≠0):za b.base b.evs=0∧zf b.base b.evs=recs b.base b.evs:=by
 obtain ⟨e,r,g⟩:=WT hok h hn
 rw [g.base]
 obtain ⟨_,h1,h2⟩:=qvc g.right g.chain
 exact ⟨h1,h2⟩
theorem G8 {x:Nat} (h:x≤281474976710657):bC (x:Int):=by unfold bC;omega
theorem qsv {k:Nat} (hk:k=1∨k=2) {l:List Nat} (hl:∀x∈l,x<256) {b:Bk} (h:xy k l=some b):b.kind=k∧b.Ok∧b.fits=true∧b.body=l∧b.evs.length≤4096:=by
 unfold xy at h
 split at h
 ·rename_i hk2
  unfold sQ at h
  split at h
  ·rename_i hc
   obtain ⟨c1,c2,c3⟩:=hc
   obtain ⟨x,m,v1,v2,v3,v4,v5,v6⟩:=yD hl c1
   injection h with h
   subst h
   rw [v2] at c3⊢
   refine ⟨hk2.symm,⟨by show 2<256;decide,by show 0<256;decide,by unfold bC;simp,G8 v3,by simp⟩,c3,?_,by simp⟩
   rw [List.length_eq_zero_iff] at c2
   rw [c2,List.append_nil] at v6
   unfold Bk.body
   rw [if_pos rfl]
   simpa using v6
  ·cases h
 ·rename_i hk2
  have hk1:k=1:=by omega
  unfold zb at h
  split at h
  ·rename_i hc
   obtain ⟨c1,c2⟩:=hc
   unfold rV at c1
   simp only [Bool.and_eq_true] at c1
   obtain ⟨⟨c1,c3⟩,c4⟩:=c1
   obtain ⟨x1,m1,_,u1,u2,_,_,u3⟩:=yD hl c1
   have hl1:=zk hl
   obtain ⟨x2,m2,_,u4,u5,_,_,u6⟩:=yD hl1 c3
   have hl2:=zk hl1
   obtain ⟨x3,m3,_,u7,u8,_,_,u9⟩:=yD hl2 c4
   have hl3:=zk hl2
   rw [u1,u4,u7] at h
   rw [u7] at c2
   generalize qb (qb (qb l))=l3 at h u9 hl3
   unfold sS at h
   split at h
   ·rename_i hd
    obtain ⟨d1,d2,d3,d4,d5,d6,d7⟩:=hd
    obtain ⟨y1,_,_,w1,w2,_,_,w3⟩:=yD hl3 d4
    have hl4:=zk hl3
    obtain ⟨y2,_,_,w4,w5,_,_,w6⟩:=yD hl4 d5
    have hl5:=zk hl4
    rw [w1,w4] at h d1 d2 d3 d6 d7
    generalize qb (qb l3)=l5 at h w6 hl5 d1 d2 d3 d6 d7
    generalize hq:gQ ⟨(y1:Int),(y2:Int)⟩ x1 (x3:Int) l5=q at h d1 d2 d3 d6 d7
    obtain ⟨es,u,er⟩:=q
    simp only at h d1 d2 d3 d6 d7
    subst d1
    injection h with h
    subst h
    obtain ⟨r1,r2,r3,r4,r5⟩:=Qg om hl5 hq
    have hes:es.length=x3:=by omega
    refine ⟨hk1.symm,⟨by show 1<256;decide,by show x1<256;omega,G8 (by show x2≤_;omega),by unfold bC;simp,fun e he=>(r5 e he).1⟩,d7,?_,by show es.length≤4096;omega⟩
    have hu:l5.take u=l5:=List.take_of_length_le (by rw [List.length_drop] at d6;omega)
    rw [hu] at r3
    have G9:recs ⟨(y1:Int),(y2:Int)⟩ es=l5:=by
     unfold zf at r3
     rw [if_pos r2] at r3
     exact r3
    unfold Bk.body
    rw [if_neg (by show ¬1=2;omega)]
    show ah x1++ah ((x2:Int)).toNat++ah es.length++(if es.length=0 then [] else ah (Bk.base ⟨1,x1,x2,0,es⟩).seq.toNat++ah (Bk.base ⟨1,x1,x2,0,es⟩).time.toNat++recs (Bk.base ⟨1,x1,x2,0,es⟩) es)=l
    have hbase:Bk.base ⟨1,x1,x2,0,es⟩=⟨(y1:Int),(y2:Int)⟩:=by
     unfold Bk.base Ev.at
     show (⟨(es.headD Ev.zero).seq,(es.headD Ev.zero).time⟩:Bs)=_
     rw [d2,d3]
    rw [hbase,G9,if_neg om,hes,Int.toNat_natCast,←u3,←u6,←u9,←w3,←w6]
    simp
   ·cases h
  ·split at h
   ·rename_i hc0 hc
    obtain ⟨c1,c2,c3⟩:=hc
    have c0:¬0<af 4096 (qb (qb l)):=fun hh=>hc0 ⟨c1,hh⟩
    unfold rV at c1
    simp only [Bool.and_eq_true] at c1
    obtain ⟨⟨c1,c5⟩,c4⟩:=c1
    obtain ⟨x1,m1,_,u1,u2,_,_,u3⟩:=yD hl c1
    have hl1:=zk hl
    obtain ⟨x2,m2,_,u4,u5,_,_,u6⟩:=yD hl1 c5
    have hl2:=zk hl1
    obtain ⟨x3,m3,_,u7,u8,_,_,u9⟩:=yD hl2 c4
    rw [u1,u4] at h c3
    rw [u7] at c0
    obtain rfl:x3=0:=by omega
    injection h with h
    subst h
    refine ⟨hk1.symm,⟨by show 1<256;decide,by show x1<256;omega,G8 (by show x2≤_;omega),by unfold bC;simp,by simp⟩,c3,?_,by simp⟩
    rw [List.length_eq_zero_iff] at c2
    rw [c2,List.append_nil] at u9
    unfold Bk.body
    rw [if_neg (by show ¬1=2;omega)]
    show ah x1++ah ((x2:Int)).toNat++ah 0++[]=l
    rw [Int.toNat_natCast,←u3,←u6,←u9]
    simp
   ·cases h
theorem take8:∀{l:List Nat} {n:Nat},8≤n→n≤l.length→l.take n=l.take 4++[l.getD 4 0,l.getD 5 0,l.getD 6 0,l.getD 7 0]++(l.take n).drop 8
 |a::b::c::d::e::f::g::h::r,n,h1,h2=>by
  obtain ⟨m,rfl⟩:∃m,n=m+8:=⟨n-8,by omega⟩
  simp
 |[],_,_,h=>by simp at h;omega
 |[_],_,_,h=>by simp at h;omega
 |[_,_],_,_,h=>by simp at h;omega
 |[_,_,_],_,_,h=>by simp at h;omega
 |[_,_,_,_],_,_,h=>by simp at h;omega
 |[_,_,_,_,_],_,_,h=>by simp at h;omega
 |[_,_,_,_,_,_],_,_,h=>by simp at h;omega
 |[_,_,_,_,_,_,_],_,_,h=>by simp at h;omega
theorem qzz {l:List Nat} (hl:∀x∈l,x<256) (hn:fO l=l.length) (h13:13≤l.length) {b:Bk} (h4:l.getD 4 0=113) (h5:l.getD 5 0=116) (h6:l.getD 6 0=1) (h7:l.getD 7 0=b.kind) (hb:b.body=(l.take (l.length-4)).drop 8):b.raw=l.take (l.length-4):=by
 rw [take8 om om,←hb,h4,h5,h6,h7,←WQ hl om,hn]
 unfold Bk.raw
 have:b.body.length=l.length-12:=by rw [hb,List.length_drop,List.length_take];omega
 rw [show 12+b.body.length=l.length by omega]
theorem XN {l:List Nat} (h:(aG l).2=0):fO l=(aG l).1∧13≤(aG l).1∧(aG l).1≤4096∧(aG l).1≤l.length:=by
 unfold aG at h⊢
 split at h
 ·cases h
 ·split at h
  ·cases h
  ·split at h
   ·cases h
   ·rename_i h1 h2 h3
    rw [if_neg h1,if_neg h2,if_neg h3]
    omega
theorem qvx {l:List Nat} {n:Nat} (h:4≤n):fO (l.take n)=fO l:=by
 have:∀i,i<4→(l.take n).getD i 0=l.getD i 0:=fun i hi=>by
  rw [List.getD_eq_getElem?_getD,List.getD_eq_getElem?_getD,List.getElem?_take,if_pos om]
 unfold fO
 rw [this 0 om,this 1 om,this 2 om,this 3 om]
set_option linter.all false
def QU (P:Program) (t:TypeId):Bool:=match P.underlying t with
 |some (.array n e)=>n==2&& (P.cellsOf e==1&& (fZ P e&&match P.underlying e with
  |some (.int _)=>true
  |_=>false))
 |_=>false
theorem qzy {P:Program} {t:TypeId} (ht:QU P t=true) {k:Go.IntKind} (a b c d:Int) (w:World):
  (Op.equal t (.agg #[.int k a,.int k b]) (.agg #[.int k c,.int k d])).run P w= .ok (a==c&&b==d) w:=by
 unfold QU at ht
 split at ht
 ·rename_i n e hu
  simp only [Bool.and_eq_true,beq_iff_eq] at ht
  obtain ⟨h1,h2,h3,h4⟩:=ht
  subst h1
  split at h4
  ·rename_i k' hk
   obtain ⟨i,hi⟩:=info_of_underlying hk
   show (Op.equalIn (9999+1) t _ _).run P w=_
   rw [run_equalIn_array w 9999 _ _ hu hi,h2]
   have hp:∀(xs:Array Value) (j:Nat) (v:Value),xs[j]?=some v→(part e xs j).run P w= .ok v w:=fun xs j v h=>by
    unfold part
    simp [PV h3,h]
   have he:∀x y,(Op.equalIn 9999 e (.int k x) (.int k y)).run P w= .ok (x==y) w:=fun x y=>run_equalIn_int w 9998 e k k' x y hk
   show (Op.eqItems 9999 e 1 _ _ [0,1]).run P w=_
   have p1:(part e #[.int k a,.int k b] 0).run P w= .ok (.int k a) w:=hp _ _ _ rfl
   have p2:(part e #[.int k c,.int k d] 0).run P w= .ok (.int k c) w:=hp _ _ _ rfl
   have p3:(part e #[.int k a,.int k b] 1).run P w= .ok (.int k b) w:=hp _ _ _ rfl
   have p4:(part e #[.int k c,.int k d] 1).run P w= .ok (.int k d) w:=hp _ _ _ rfl
   have q1:=he a c
   have q2:=he b d
   generalize (9999:Nat)=dd at q1 q2⊢
   simp only [Op.eqItems,Sem.run_bind,Nat.zero_mul,Nat.one_mul,p1,p2,q1,Result.andThen_ok]
   cases h5:(a==c)<;>cases h6:(b==d)<;>simp [p3,p4,q2,h6]
  ·cases h4
 ·cases ht
section
variable {P:Program} {S:World→Prop} {σ:List (Nat×Value)} {o:Oper}
theorem qnn {t:TypeId} (hg:P.eqGuardType P.depth t=false) (op:BinOp) (x y:Operand) (a b:Array Value) (w:World):(eqGuard op t x y (.agg a) (.agg b)).run P w= .ok () w:=by
 unfold eqGuard
 cases op<;>simp<;>simp [hg]
theorem Yl.q57 {t u:TypeId} {p q:Operand} {k:Go.IntKind} {a b c d:Int} (hop:o.op= .binOp .neq t p q u) (hx:look σ p=some (.agg #[.int k a,.int k b])) (hy:look σ q=some (.agg #[.int k c,.int k d])) (ht:QU P t=true) (hg:P.eqGuardType P.depth t=false):Yl P S σ o (.bool (!(a==c&&b==d))):=fun ac n D Z w hS=>by
 unfold execOp
 have e:(binOp .neq t (.agg #[.int k a,.int k b]) (.agg #[.int k c,.int k d])).run P w= .ok (.bool (!(a==c&&b==d))) w:=by
  show ((do Pure.pure (.bool (!(←Op.equal t (.agg #[.int k a,.int k b]) (.agg #[.int k c,.int k d])))):Sem Value)).run P w=_
  simp [qzy ht]
 simp only [hop,Z.eval hx,Z.eval hy,Sem.run_bind,qnn hg,Result.andThen_ok,e,Sem.run_pure]
end
theorem q6v {w:World} {B n g o k:Nat} {l:List Nat} (h:Rd w B 1 (some ⟨g,o,none⟩) n (l.map B8)) (hk:k+2≤l.length):w.rangeAt g (o+k) (#[B8 (l.getD k 0),B8 (l.getD (k+1) 0)]:Array Value).toList:=fun j v hv=>by
 have hr:=h.range
 rw [Nat.add_assoc]
 refine hr (k+j) v ?_
 rcases j with _|_|j
 ·simp at hv
  rw [Nat.add_zero,←hv]
  exact Cq (getD_at 0 om)
 ·simp at hv
  rw [←hv]
  exact Cq (getD_at 0 om)
 ·simp at hv
section
variable {P:Program} {S:World→Prop} {σ:List (Nat×Value)} {o:Oper}
theorem Yl.Im {t u:TypeId} {x y:Operand} {k k':Go.IntKind} {m n:Nat} (hop:o.op= .binOp .shr t x y u) (hx:look σ x=some (.int k (m:Int))) (hy:look σ y=some (.int k' (n:Int))) (hn:n≤k.bits):Yl P S σ o (.int k ((m/2^n:Nat):Int)):=fun a N D Z w hS=>by
 have hb:xk .shr (.int k (m:Int)) (.int k' (n:Int))=some (.int k ((m/2^n:Nat):Int)):=by
  show (if (n:Int)<0 then none else some (Value.int k (Int.fdiv (m:Int) (2^ (Min.min (n:Int).toNat k.bits)))))=_
  rw [if_neg om]
  exact congrArg some (yz k m (j:=n) rfl (by rw [Int.toNat_natCast,Nat.min_eq_left hn]))
 unfold execOp
 simp [hop,Z.eval hx,Z.eval hy,GJ (P:=P) .shr t x y (a:= .int k (m:Int)) rfl,V8 hb t]
end
section
variable {P:Program} {S:World→Prop} {σ:List (Nat×Value)} {o:Oper} {v:Value}
theorem Yl.nilCheck {x:Operand} {p:Addr} (hop:o.op= .nilCheck x) (hx:look σ x=some (.pointer (some p))):Yl P S σ o (.pointer (some p)):=fun _ n D Z w hS=>by
 unfold execOp
 simp only [hop,Z.eval hx]
 rfl
end
def nD (P:Program) (t:TypeId) (cs:Array Value) (off:Nat):Option Value:=
 match P.underlying t,P.info? t with
 |some (.struct _),some i=>some (.agg (cs.extract off (off+i.size)))
 |some (.int _),_=>cs[off]?
 |some .bool,_=>cs[off]?
 |some .string,_=>cs[off]?
 |_,_=>none
def CB (P:Program) (eq:TypeId→Value→Value→Option Bool) (xs ys:Array Value):List Field→Option Bool
 |[]=>some true
 | f :: fs => if f.name = "_" then none else
  match nD P f.type xs f.offset,nD P f.type ys f.offset with
  |some a,some b=>match eq f.type a b,CB P eq xs ys fs with
   |some r,some s=>some (r&&s)
   |_,_=>none
  |_,_=>none
def nE (P:Program):Nat→TypeId→Value→Value→Option Bool
 |0,_,_,_=>none
 |d+1,t,x,y=>match P.underlying t,x,y with
  |some (.int _),.int k a,.int k' b=>if k=k' then some (a==b) else none
  |some .bool,.bool a,.bool b=>some (a==b)
  |some .string,.string a,.string b=>some (a.toList==b.toList)
  |some (.struct fs),.agg xs,.agg ys=>if P.stoodInHeld t then none else CB P (nE P d) xs ys fs.toList
  |_,_,_=>none
theorem Qx {P:Program} {t:TypeId} {cs:Array Value} {off:Nat} {v:Value} (h:nD P t cs off=some v) (w:World):(part t cs off).run P w= .ok v w:=by
 unfold nD at h
 split at h
 ·rename_i fs i hu hi
  injection h with h;subst h
  simp [part,isAgg,run_underlying hu,sizeOf,typeInfo,hi]
 ·rename_i k _ hu
  simp [part,isAgg,run_underlying hu,h]
 ·rename_i _ hu
  simp [part,isAgg,run_underlying hu,h]
 ·rename_i _ hu
  simp [part,isAgg,run_underlying hu,h]
 ·cases h
theorem WZ {P:Program} {d:Nat} (ih:∀(t:TypeId) (x y:Value) (b:Bool),nE P d t x y=some b→∀w,(Op.equalIn d t x y).run P w= .ok b w) {xs ys:Array Value}:∀(fs:List Field) (b:Bool),CB P (nE P d) xs ys fs=some b→∀w,(Op.eqFields d xs ys fs).run P w= .ok b w
 |[],b,h,w=>by
  injection h with h;subst h;rfl
 | f :: fs, b, h, w => by
  unfold CB at h
  split at h
  ·cases h
  ·rename_i hn
   split at h
   ·rename_i p q hp hq
    split at h
    ·rename_i r s hr hs
     injection h with h;subst h
     unfold Op.eqFields
     rw [if_pos hn]
     simp only [Sem.run_bind,Qx hp,Qx hq,ih _ _ _ _ hr,Result.andThen_ok]
     cases r
     ·simp
     ·simp [WZ ih fs s hs w]
    ·cases h
   ·cases h
theorem Xa {P:Program}:∀(d:Nat) (t:TypeId) (x y:Value) (b:Bool),nE P d t x y=some b→∀w,(Op.equalIn d t x y).run P w= .ok b w
 |0,_,_,_,_,h,_=>by cases h
 | d + 1, t, x, y, b, h, w => by
  unfold nE at h
  split at h
  ·rename_i k' k a k2 b' hu
   split at h
   ·rename_i hk;subst hk;injection h with h;subst h;exact run_equalIn_int w d t _ _ _ _ hu
   ·cases h
  ·rename_i a b' hu;injection h with h;subst h;exact run_equalIn_bool' w d t _ _ hu
  ·rename_i a b' hu;injection h with h;subst h;exact run_equalIn_string w d t _ _ hu
  ·rename_i fs xs ys hu
   split at h
   ·cases h
   ·rename_i hs
    have hf:P.fieldsOf t=fs:=by unfold Program.fieldsOf;rw [hu]
    rw [run_equalIn_struct w d t xs ys (by rw [hu,hf]) (by simpa using hs),hf]
    exact WZ (Xa d) _ _ h w
  ·cases h
theorem Xb {P:Program}:∀(d:Nat) (t:TypeId) (x y:Value) (b:Bool),nE P d t x y=some b→nE P (d+1) t x y=some b
 |0,_,_,_,_,h=>by cases h
 | d + 1, t, x, y, b, h => by
  have hf : ∀ (fs : List Field) (xs ys : Array Value) (b : Bool), CB P (nE P d) xs ys fs = some b → CB P (nE P (d + 1)) xs ys fs = some b := by
   intro fs
   induction fs with
   |nil=>intro xs ys b h;exact h
   | cons f fs ih =>
    intro xs ys b h
    unfold CB at h⊢
    split at h
    ·cases h
    ·rename_i hn
     rw [if_neg hn]
     split at h
     ·rename_i p q hp hq
      split at h
      ·rename_i r s hr hs
       injection h with h;subst h
       simp only [Xb d _ _ _ _ hr,ih _ _ _ hs]
      ·cases h
     ·cases h
  unfold nE at h⊢
  split at h
  ·rename_i hu;(try simp only [hu]);exact h
  ·rename_i hu;(try simp only [hu]);exact h
  ·rename_i hu;(try simp only [hu]);exact h
  ·rename_i fs xs ys hu
   (try simp only [hu])
   split at h
   ·cases h
   ·rename_i hs
    rw [if_neg hs]
    exact hf _ _ _ _ h
  ·cases h
theorem Xc {P:Program} {d:Nat} {t:TypeId} {x y:Value} {b:Bool} (h:nE P d t x y=some b):∀k,nE P (d+k) t x y=some b
 |0=>h
 |k+1=>Xb _ _ _ _ _ (Xc h k)
section
variable {P:Program} {S:World→Prop} {σ:List (Nat×Value)} {o:Oper} {b:Bool}
theorem qo9 {t:TypeId} {xs ys:Array Value} {d:Nat} (h:nE P d t (.agg xs) (.agg ys)=some b) (hd:d≤10000) (w:World):(Op.equal t (.agg xs) (.agg ys)).run P w= .ok b w:=by
 unfold Op.equal
 have h2:=Xc h (10000-d)
 rw [show d+(10000-d)=10000 by omega] at h2
 exact Xa _ _ _ _ _ h2 w
theorem qpa {t:TypeId} (hm:P.eqGuardType P.depth t=false) (op:BinOp) (x y:Operand) (a c:Array Value) (w:World):(eqGuard op t x y (.agg a) (.agg c)).run P w= .ok () w:=run_eqGuard_agg w op t x y a c hm
theorem Yl.Xd {t u:TypeId} {p q:Operand} {xs ys:Array Value} {d:Nat} (hop:o.op= .binOp .neq t p q u) (hx:look σ p=some (.agg xs)) (hy:look σ q=some (.agg ys)) (h:nE P d t (.agg xs) (.agg ys)=some b) (hd:d≤10000:=by decide) (hm:P.eqGuardType P.depth t=false:=by kernel_rfl):Yl P S σ o (.bool !b):=fun a n D Z w hS=>by
 unfold execOp
 have e:(binOp .neq t (.agg xs) (.agg ys)).run P w= .ok (.bool !b) w:=by
  show ((do Pure.pure (.bool (!(←Op.equal t (.agg xs) (.agg ys)))):Sem Value)).run P w=_
  simp [qo9 h hd]
 simp only [hop,Z.eval hx,Z.eval hy,Sem.run_bind,qpa hm,Result.andThen_ok,e,Sem.run_pure]
end
def M6 (P:Program) (t:TypeId) (n sz:Nat):Bool:=match P.underlying t with
 |some (.array m e)=>m==n&& (match P.info? e with|some i=>i.size==sz|none=>false)
 |_=>false
theorem Yo {P:Program} {t:TypeId} {n sz:Nat} (h:M6 P t n sz=true):∃e i,P.underlying t=some (.array n e)∧P.info? e=some i∧i.size=sz:=by
 unfold M6 at h
 split at h
 ·rename_i m e hu
  rw [Bool.and_eq_true,beq_iff_eq] at h
  obtain ⟨rfl,h2⟩:=h
  split at h2
  ·rename_i i hi
   exact ⟨e,i,hu,hi,beq_iff_eq.1 h2⟩
  ·cases h2
 ·cases h
def Yp (P:Program) (t:TypeId) (sz:Nat) (vs:List (Nat×Value)):Option (Array Value):=match xu P t with
 |some zs=>Instr.fill (fun i=>some (i*sz,sz)) zs vs
 |none=>none
section
variable {P:Program} {S:World→Prop} {σ:List (Nat×Value)} {o:Oper} {t:TypeId} {n sz:Nat}
theorem Yl.Yq {x:Operand} {ad:Addr} (hop:o.op= .slice t x none none none) (hx:look σ x=some (.pointer (some ad))) (ht:M6 P t n sz=true) (hn:(n==0)=false:=by decide):Yl P S σ o (.slice (some ad) n n):=fun a N D Z w hS=>by
 obtain ⟨e,i,hu,hi,_⟩:=Yo ht
 have hl:P.arrayLen t=n:=by unfold Program.arrayLen;rw [hu]
 have he:P.elem t=e:=by unfold Program.elem;rw [hu]
 have e1:(Instr.sliceAt t (.pointer (some ad)) none none none).run P w= .ok (.slice (some ad) n n) w:=by
  rw [run_sliceAt_array_all w t ad (by rw [hl,he];exact hu),he,hl]
  have h0:n≠0:=by simpa using hn
  simp [sizeOf,typeInfo,hi,slicedAt,h0,Addr.add]
 unfold execOp
 simp only [hop,Z.eval hx,Option.map_none,Sem.run_bind,Sem.run_pure,e1,Result.andThen_ok]
theorem Yl.Rp {ps:Array (Nat×Operand)} {vs:List (Nat×Value)} {cs:Array Value} (hop:o.op= .build t ps) (hv:yx σ ps.toList=some vs) (ha:M6 P t n sz=true) (hb:Yp P t sz vs=some cs):Yl P S σ o (.agg cs):=fun a N D Z w hS=>by
 have hpm:=PX Z hv
 obtain ⟨e,ie,hu,he,hse⟩:=Yo ha
 obtain ⟨zs,hz,hb⟩:∃zs,xu P t=some zs∧Instr.fill (fun i=>some (i*sz,sz)) zs vs=some cs:=by
  unfold Yp at hb
  split at hb
  ·rename_i zs hz;exact ⟨zs,hz,hb⟩
  ·cases hb
 unfold xu at hz
 obtain ⟨zv,hz1,rfl⟩:=Option.map_eq_some_iff.1 hz
 obtain ⟨i,hi,hz2⟩:=Option.bind_eq_some_iff.1 hz1
 have e1:(Instr.build t (ps.map fun p=>(p.1,a.eval p.2))).run P w= .ok (.agg cs) w:=by
  rw [hpm]
  unfold Instr.build
  subst hse
  simp only [Sem.run_bind,zeroValue,sizeOf,typeInfo,program,Sem.run,hi,he,hz2,Sem.run_pure,Result.andThen_ok,run_underlying hu]
  rw [hb];rfl
 unfold execOp
 simp only [hop,Sem.run_bind,Sem.run_pure]
 show ((Instr.build t (ps.map fun p=>(p.1,a.eval p.2))).run P w).andThen _=_
 rw [e1]
 rfl
end
theorem Mem.Ir {W w:World} {fs:List ag} (h:Mem W w fs) {i g:Nat} {cs ds:Array Value} {t:TypeId} (hi:fs[i]?=some (.blk g cs t)) (he:cs=ds):Mem W w (fs.set i (.blk g ds t)):=by
 subst he
 obtain ⟨hl,h2⟩:=List.getElem?_eq_some_iff.1 hi
 rw [←h2,List.set_getElem_self]
 exact h
def q20 (P:Program) (t:TypeId) (cs:Array Value) (i:Nat):Option Value:=
 match P.underlying t with
 |some (.struct fs)=>match fs[i]? with
  |some f=>nD P f.type cs f.offset
  |none=>none
 |_=>none
section
variable {P:Program} {S:World→Prop} {σ:List (Nat×Value)} {o:Oper} {v:Value}
theorem Yl.field {t:TypeId} {p:Operand} {i:Nat} {xs:Array Value} (hop:o.op= .field t p i) (hx:look σ p=some (.agg xs)) (h:q20 P t xs i=some v):Yl P S σ o v:=fun a n D Z w hS=>by
 unfold execOp
 unfold q20 at h
 split at h
 ·rename_i fs hu
  split at h
  ·rename_i f hf
   simp [hop,Z.eval hx,Instr.field,run_underlying hu,hf,asAgg,Qx h]
  ·cases h
 ·cases h
end
section
variable {P:Program} {ops:Array Oper} {Q:Exit→Act→World→Prop} {a:Act} {W w:World} {n i j d fuel:Nat} {D:List Deferred} {σ σ':List (Nat×Value)} {o:Oper} {v:Value} {md:Region.Mode} {S:World→Prop} {K:Act→World→Prop} {listed:Array Bool} {fs fs':List ag} {ex:List Nat}
theorem Yl.o1 {α:Type} {F:α→Value} {l:List α} {g of m:Nat} {t:TypeId} {x:Operand} (hr:Rd W W.heap.size 1 (some ⟨g,of,none⟩) m (l.map F)) (kk:Nat) (dd:α) (hk:kk<l.length) (hop:o.op= .load t x) (hx:look σ x=some (.pointer (some ⟨g,of+kk*1,none⟩))) (ht:fZ P t=true:=by kernel_rfl) (hv:F (l.getD kk dd)=v:=by exact rfl):Yl P (fun wS=>Mem W wS fs) σ o v:=by
 subst hv
 exact Yl.ze hop hx ht fun _ h=>(h.old hr).Mo (k:=kk) (Cq (getD_at dd hk))
theorem Yl.r1 {α:Type} {F:α→Value} {l:List α} {g m c:Nat} {t e:TypeId} {x:Operand} (j kk:Nat) (dd:α) (hk:kk<l.length) (hop:o.op= .load t x) (hx:look σ x=some (.pointer (some ⟨g,kk*1,none⟩))) (hi:fs[j]?=some (.row (.slice (some ⟨g,0,none⟩) m c) m (l.map F) e 1)) (ht:fZ P t=true:=by kernel_rfl) (hv:F (l.getD kk dd)=v:=by exact rfl):Yl P (fun wS=>Mem W wS fs) σ o v:=by
 subst hv
 exact Yl.ze hop hx ht fun _ h=>h.q76 hi (Cq (getD_at dd hk))
def bt (n:Nat) (l:List Nat):Array Bool:=((List.range n).map fun i=> !l.contains i).toArray
def bf (n:Nat) (l:List Nat):Array Bool:=((List.range n).map fun i=>l.contains i).toArray
theorem nG (Z:Fr a n D σ) (hS:S w) (i:Nat) (ho:ops[i]?=some o) (hy:Yl P S σ o v) (k:∀a',Fr a' n D ((d,v)::σ)→qi P md ops Q S ex fuel (listed.setIfInBounds i true) a' w) (hw:bV ops σ o=some true:=by exact rfl) (hd:o.dst=some d:=by exact rfl)
  (hdn:d<n:=by decide) (hok:yt md ops ex listed i=true:=by kernel_rfl) (hQ:∀c (a:Act) w,Q (.panic c) (a.put o.dst v) w→Q (.panic c) a w:=by intro _ _ _ h;exact h):qi P md ops Q S ex (fuel+1) listed a w:=EE Z hS ho hw hd hdn hok hQ hy k
theorem eY {t:TypeId} {x:Operand} {g off:Nat} {cs:Array Value} {tb:TypeId} (Z:Fr a n D σ) (hS:Mem W w fs) (i j:Nat) (k:∀a',Fr a' n D ((d,v)::σ)→qi P md ops Q (fun wS=>Mem W wS fs) ex fuel (listed.setIfInBounds i true) a' w) (ho:ops[i]?=some o:=by exact rfl) (hop:o.op= .load t x:=by exact rfl) (hx:look σ x=some (.pointer (some ⟨g,off,none⟩)):=by exact rfl) (hi:fs[j]?=some (.blk g cs tb):=by exact rfl) (hv:cs[off]?=some v:=by exact rfl) (hw:bV ops σ o=some true:=by exact rfl) (hd:o.dst=some d:=by exact rfl)
  (ht:fZ P t=true:=by kernel_rfl) (hdn:d<n:=by decide) (hok:yt md ops ex listed i=true:=by kernel_rfl) (hQ:∀c (a:Act) w,Q (.panic c) (a.put o.dst v) w→Q (.panic c) a w:=by intro _ _ _ h;exact h):qi P md ops Q (fun wS=>Mem W wS fs) ex (fuel+1) listed a w:=EE Z hS ho hw hd hdn hok hQ (Yl.ze hop hx ht fun _ h=>h.cell hi hv) k
theorem Qy {t:TypeId} {x:Operand} {A:Option Addr} {m c:Nat} (Z:Fr a n D σ) (hS:S w) (i:Nat) (k:∀a',Fr a' n D ((d,.int .i64 (m:Int))::σ)→qi P md ops Q S ex fuel (listed.setIfInBounds i true) a' w) (ho:ops[i]?=some o:=by exact rfl) (hop:o.op= .call {callee:= .builtin .len,args:= #[x],argTypes:= #[t]}:=by exact rfl) (hx:look σ x=some (.slice A m c):=by exact rfl) (hw:bV ops σ o=some true:=by exact rfl) (hd:o.dst=some d:=by exact rfl)
  (ht:o7 P t=true:=by kernel_rfl) (hdn:d<n:=by decide) (hok:yt md ops ex listed i=true:=by kernel_rfl) (hQ:∀c (a:Act) w,Q (.panic c) (a.put o.dst (.int .i64 (m:Int))) w→Q (.panic c) a w:=by intro _ _ _ h;exact h):qi P md ops Q S ex (fuel+1) listed a w:=EE Z hS ho hw hd hdn hok hQ (Yl.len hop hx ht) k
theorem Ho {x:Operand} {p:Addr} (Z:Fr a n D σ) (hS:S w) (i:Nat) (k:∀a',Fr a' n D ((d,.pointer (some p))::σ)→qi P md ops Q S ex fuel (listed.setIfInBounds i true) a' w) (ho:ops[i]?=some o:=by exact rfl) (hop:o.op= .nilCheck x:=by exact rfl) (hx:look σ x=some (.pointer (some p)):=by exact rfl) (hw:bV ops σ o=some true:=by exact rfl) (hd:o.dst=some d:=by exact rfl)
  (hdn:d<n:=by decide) (hok:yt md ops ex listed i=true:=by kernel_rfl) (hQ:∀c (a:Act) w,Q (.panic c) (a.put o.dst (.pointer (some p))) w→Q (.panic c) a w:=by intro _ _ _ h;exact h):qi P md ops Q S ex (fuel+1) listed a w:=EE Z hS ho hw hd hdn hok hQ (Yl.nilCheck hop hx) k
theorem s_on (Z:Fr a n D σ) (i:Nat) (ho:ops[i]?=some o) (h:o.wp P a w (fun a' w'=>(bW ex (listed.setIfInBounds i true)=false→S w')∧qi P md ops Q S ex fuel (listed.setIfInBounds i true) a' w') Q) (hr:Region.ready md ops listed=[i]:=by kernel_rfl) (hw:bV ops σ o=some true:=by exact rfl):qi P md ops Q S ex (fuel+1) listed a w:=EF [i] hr rfl (all_cons (xn Z ho hw h) all_nil)
theorem Hq {f:FuncId} {xs:Array Operand} {ts:Array TypeId} {V:Option Addr→Nat→Value} {m sz:Nat} {e:TypeId} {ys:List Value} (Z:Fr a n D σ) (HM:Mem W w fs) (vs:List Value) (hC:Calls P f vs.toArray w (fun r w'=>(∃A c,r= .returned (V A c)∧w'.ownsRow w.heap.size e sz (.slice A m c) m ys∧m≤c)∧Below w.heap.size w w'))
  (k:∀A c w',m≤c→Mem W w' (.row (.slice A m c) m ys e sz::fs)→∀a',Fr a' n D ((d,V A c)::σ)→K a' w') (hop:o.op= .call {callee:= .value (.func f),args:=xs,argTypes:=ts}:=by exact rfl) (hd:o.dst=some d:=by exact rfl) (hv:looks σ xs.toList=some vs:=by kernel_rfl) (hf:callable P f=true:=by kernel_rfl) (hdn:d<n:=by decide):o.wp P a w K Q:=
 o8 Z vs hop hd hC (fun e w' ⟨⟨A,c,h1,h2,h3⟩,h4⟩=>⟨_,h1,fun a' Z=>k A c w' h3 (HM.bN h4 h2) a' Z⟩) hv hf hdn
theorem Ht {f:FuncId} {xs:Array Operand} {ts:Array TypeId} (Z:Fr a n D σ) (vs:List Value) (hC:Calls P f vs.toArray w (fun r w'=>r= .returned v∧Mem W w' fs')) (k:∀w',Mem W w' fs'→∀a',Fr a' n D ((d,v)::σ)→K a' w') (hop:o.op= .call {callee:= .value (.func f),args:=xs,argTypes:=ts}:=by exact rfl) (hd:o.dst=some d:=by exact rfl) (hv:looks σ xs.toList=some vs:=by kernel_rfl) (hf:callable P f=true:=by kernel_rfl) (hdn:d<n:=by decide):o.wp P a w K Q:=
 o8 Z vs hop hd hC (fun e w' ⟨h1,h2⟩=>⟨_,h1,k w' h2⟩) hv hf hdn
theorem pz {f N:Nat} {fn:Func} {c:Code} {R:Ending→World→Prop} (hf:P.funcs[f]?=some fn) (vs:List Value) (σ0:List (Nat×Value)) (k:∀a,Fr a N [] σ0→c.wp P (bodyPost P fn R) a w) (hb:fn.body=some c:=by exact rfl) (hn:fn.ntmps=N:=by exact rfl) (hl:decide (vs.length≤N)=true:=by kernel_rfl) (h0:Am 0 vs=σ0:=by exact rfl):Calls P f vs.toArray w R:=EH hf hb hn hl h0 k
theorem Mem.pk (h:Mem W w fs) (is:List Nat) (hn:is.Nodup:=by decide) (he:Go.Proofs.YtieeckeaijdaeaaGreatDoor.picks fs is=fs':=by exact rfl):Mem W w fs':=h.picks is hn he
theorem Mem.pt (h:Mem W w fs) (n:Nat) (is:List Nat) (hn:is.Nodup:=by decide) (hlt:(is.all (· <n))=true:=by decide) (he:Go.Proofs.YtieeckeaijdaeaaGreatDoor.picks fs is++fs.drop n=fs':=by exact rfl):Mem W w fs':=h.P8 n is hn hlt he
theorem yF (Z:Fr a n D σ) (HM:Mem W w fs) {e:TypeId} (cs:Array Value) (k:∀a' w' g,Fr a' n D ((d,.pointer (some ⟨g,0,none⟩))::σ)→Mem W w' (.blk g cs e::fs)→K a' w') (hop:o.op= .alloc e:=by exact rfl) (hz:xu P e=some cs:=by kernel_rfl) (hd:o.dst=some d:=by exact rfl) (hdn:d<n:=by decide):o.wp P a w K Q:=PW Z HM hop hz hd hdn k
theorem iN (Z:Fr a n D σ) (HM:Mem W w fs) (i:Nat) {t:TypeId} {x y:Operand} {g off:Nat} {cs:Array Value} {tb:TypeId} (k:∀w',Mem W w' (fs.set i (.blk g (cs.setIfInBounds off v) tb))→K a w') (hop:o.op= .store t x y:=by exact rfl) (hd:o.dst=none:=by exact rfl) (hx:look σ x=some (.pointer (some ⟨g,off,none⟩)):=by exact rfl) (hy:look σ y=some v:=by exact rfl) (hs:(P.info? t).map (·.size)=some 1:=by kernel_rfl) (hv:v.oneCell'=true:=by exact rfl) (hi:fs[i]?=some (.blk g cs tb):=by exact rfl) (ho:off<cs.size:=by simp):o.wp P a w K Q:=Mj Z HM hop hd hx hy hs hv hi ho k
theorem mh {t len e:Nat} {ps:Array (Nat×Operand)} {z:Value} {size bytes:Nat} (Z:Fr a n D σ) (HM:Mem W w fs) (ei:EI P t e z size bytes) (vs:List (Nat×Value)) (cs:Array Value) (k:∀a' w' g,Fr a' n D ((d,.slice (some ⟨g,0,none⟩) len len)::σ)→Mem W w' (.blk g cs e::fs)→K a' w') (hop:o.op= .buildSlice t len ps:=by exact rfl) (hl:decide (0<len∧len*size≤16777216)=true:=by decide) (hv:yx σ ps.toList=some vs:=by exact rfl)
  (hf:Instr.fill (fun i=>some (i*size,size)) (Ml z.cells (len*size)) vs=some cs:=by kernel_rfl) (hd:o.dst=some d:=by exact rfl) (hdn:d<n:=by decide):o.wp P a w K Q:=Wn Z HM hop ei hl hv hf hd hdn k
section
variable {fn:Func} {R:Ending→World→Prop} {t1 t2 t3:Nat} {v1 v2 v3:Value}
theorem iO (hr:fn.results= #[.tmp t1]) (Z:Fr a n [] σ) (h1:σ.lookup t1=some v1) (hR:R (.returned v1) w):bodyPost P fn R .ret a w:=uy hr Z (.tmp Z h1) hR
theorem lu (hr:fn.results= #[.tmp t1,.tmp t2]) (Z:Fr a n [] σ) (h1:σ.lookup t1=some v1) (h2:σ.lookup t2=some v2) (hR:R (.returned (.tuple #[v1,v2])) w):bodyPost P fn R .ret a w:=dP hr Z (.tmp Z h1) (.tmp Z h2) hR
end
end
section
variable {α:Type}
inductive At:List α→α→Prop
 |z {a:α} {l:List α}:At (a::l) a
 |s {a b:α} {l:List α} (h:At l a):At (b::l) a
inductive mi (a b:α):List α→List α→Prop
 |z {l:List α}:mi a b (a::l) (b::l)
 |s {c:α} {l m:List α} (h:mi a b l m):mi a b (c::l) (c::m)
inductive rX:List α→List α→Prop
 |n {l:List α}:rX l l
 |t {a:α} {l m:List α} (h:rX l m):rX (a::l) (a::m)
 |f {a:α} {l m:List α} (h:rX l m):rX (a::l) m
theorem At.get {l:List α} {a:α} (h:At l a):∃i:Nat,l[i]?=some a:=by
 induction h with
 |z=>exact ⟨0,rfl⟩
 |s _ ih=>obtain ⟨i,hi⟩:=ih;exact ⟨i+1,by simpa using hi⟩
theorem mi.get {a b:α} {l m:List α} (h:mi a b l m):∃i:Nat,l[i]?=some a∧m=l.set i b:=by
 induction h with
 |z=>exact ⟨0,rfl,rfl⟩
 |s _ ih=>obtain ⟨i,hi,rfl⟩:=ih;exact ⟨i+1,by simpa using hi,rfl⟩
theorem rX.sub {l m:List α} (h:rX l m):m.Sublist l:=by
 induction h with
 |n=>exact List.Sublist.refl _
 |t _ ih=>exact ih.cons₂ _
 |f _ ih=>exact ih.cons _
variable {a b x1 x2 x3 x4 x5 x6 x7 x8 x9 y1 y2:α} {l m:List α}
theorem O0:At (a::l) a:= .z
theorem O1:At (x1::a::l) a:= .s .z
theorem O2:At (x1::x2::a::l) a:= .s O1
theorem O3:At (x1::x2::x3::a::l) a:= .s O2
theorem O4:At (x1::x2::x3::x4::a::l) a:= .s O3
theorem O5:At (x1::x2::x3::x4::x5::a::l) a:= .s O4
theorem O6:At (x1::x2::x3::x4::x5::x6::a::l) a:= .s O5
theorem O7:At (x1::x2::x3::x4::x5::x6::x7::a::l) a:= .s O6
theorem O8:At (x1::x2::x3::x4::x5::x6::x7::x8::a::l) a:= .s O7
theorem bg:mi a b (a::l) (b::l):= .z
theorem fJ:mi a b (x1::a::l) (x1::b::l):= .s .z
theorem fA:mi a b (x1::x2::a::l) (x1::x2::b::l):= .s fJ
theorem sV:mi a b (x1::x2::x3::a::l) (x1::x2::x3::b::l):= .s fA
theorem sW:mi a b (x1::x2::x3::x4::a::l) (x1::x2::x3::x4::b::l):= .s sV
theorem yG:mi a b (x1::x2::x3::x4::x5::a::l) (x1::x2::x3::x4::x5::b::l):= .s sW
theorem Mw:mi a b (x1::x2::x3::x4::x5::x6::a::l) (x1::x2::x3::x4::x5::x6::b::l):= .s yG
theorem Hu:mi a b (x1::x2::x3::x4::x5::x6::x7::a::l) (x1::x2::x3::x4::x5::x6::x7::b::l):= .s Mw
theorem Xe:mi a b (x1::x2::x3::x4::x5::x6::x7::x8::a::l) (x1::x2::x3::x4::x5::x6::x7::x8::b::l):= .s Hu
theorem O9':mi a b (x1::x2::x3::x4::x5::x6::x7::x8::x9::a::l) (x1::x2::x3::x4::x5::x6::x7::x8::x9::b::l):= .s Xe
end
def nth {α:Type}:List α→Nat→Option α
 |[],_=>none
 |x::_,0=>some x
 |_::r,n+1=>nth r n
theorem Xf {α:Type}:∀(l:List α) (i:Nat),nth l i=l[i]?
 |[],_=>rfl
 |_::_,0=>rfl
 |_::r,n+1=>by rw [List.getElem?_cons_succ];exact Xf r n
theorem Mx {α:Type} {l:Array α} {i:Nat} {x:α} (h:nth l.toList i=some x):l[i]?=some x:=by
 rw [Xf] at h;simpa using h
def gV:Go.IntKind→Option Nat
 | .i8=>some 127| .i16=>some 32767| .i32=>some 2147483647| .i64=>some 9223372036854775807
 | .u8=>some 255| .u16=>some 65535| .u32=>some 4294967295| .u64=>some 18446744073709551615
theorem ER {k:Go.IntKind} {B m:Nat} (hB:gV k=some B) (h:m≤B):Go.IntKind.wrap k (m:Int)=(m:Int):=
 qc1 k (Nat.le_trans h (by cases k<;>(injection hB with hB;subst hB;exact Nat.le_refl _)))
section
variable {P:Program} {ops o2:Array Oper} {Q:Exit→Act→World→Prop} {a:Act} {W w:World} {n i j d d2:Nat} {D:List Deferred} {σ σ':List (Nat×Value)} {o o':Oper} {op:Op} {v v1 v2 v3:Value} {X:Act→World→Prop} {fs fs':List ag} {p q:Nat×Value}
def JJ (W w:World) (n:Nat) (D:List Deferred) (σ:List (Nat×Value)) (fs:List ag) (X:Act→World→Prop):Prop:=∀a,Fr a n D σ→Mem W w fs→X a w
theorem Jb (Z:Fr a n D σ) (HM:Mem W w fs) (h:JJ W w n D σ fs X):X a w:=h a Z HM
theorem Fr.lC {xs:List (Nat×Value)} (h:Fr a n D (q::(xs++σ))) (hn:(xs.all fun p=>p.1==q.1||(σ.lookup p.1).isNone)=true):Fr a n D (q::σ):=by
 refine ⟨h.size,h.defers,fun t v hv=>h.slot t v ?_⟩
 obtain ⟨q1,q2⟩:=q
 simp only [List.lookup_cons] at hv⊢
 split at hv
 ·exact hv
 ·rename_i e
  rw [GL]
  cases hl:xs.lookup t with
  |none=>exact hv
  |some u=>
   exfalso
   obtain ⟨r,hr,hrt⟩:=Mf (GM hl)
   have:=List.all_eq_true.1 hn r hr
   rw [hrt,Bool.or_eq_true] at this
   rcases this with h1|h1
   ·simp only [e] at h1;cases h1
   ·rw [hv] at h1;cases h1
theorem Fr.lD {xs:List (Nat×Value)} (h:Fr a n D (xs++σ)) (hn:(xs.all fun p=>(σ.lookup p.1).isNone)=true):Fr a n D σ:=by
 refine ⟨h.size,h.defers,fun t v hv=>h.slot t v ?_⟩
 rw [GL]
 cases hl:xs.lookup t with
 |none=>exact hv
 |some u=>
  exfalso
  obtain ⟨r,hr,hrt⟩:=Mf (GM hl)
  have:=List.all_eq_true.1 hn r hr
  rw [hrt,hv] at this
  cases this
section
variable {p1 p2 p3 p4 p5 p6 p7 p8:Nat×Value}
theorem aT (h:([p1].all fun p=>p.1==q.1||(σ.lookup p.1).isNone)=true:=by kernel_rfl) (k:JJ W w n D (q::σ) fs X):JJ W w n D (q::p1::σ) fs X:=fun a Z=>k a (Z.lC (xs:=[p1]) h)
theorem bK (h:([p1,p2].all fun p=>p.1==q.1||(σ.lookup p.1).isNone)=true:=by kernel_rfl) (k:JJ W w n D (q::σ) fs X):JJ W w n D (q::p1::p2::σ) fs X:=fun a Z=>k a (Z.lC (xs:=[p1,p2]) h)
theorem fC (h:([p1,p2,p3].all fun p=>p.1==q.1||(σ.lookup p.1).isNone)=true:=by kernel_rfl) (k:JJ W w n D (q::σ) fs X):JJ W w n D (q::p1::p2::p3::σ) fs X:=fun a Z=>k a (Z.lC (xs:=[p1,p2,p3]) h)
theorem gW (h:([p1,p2,p3,p4].all fun p=>p.1==q.1||(σ.lookup p.1).isNone)=true:=by kernel_rfl) (k:JJ W w n D (q::σ) fs X):JJ W w n D (q::p1::p2::p3::p4::σ) fs X:=fun a Z=>k a (Z.lC (xs:=[p1,p2,p3,p4]) h)
theorem qR (h:([p1,p2,p3,p4,p5].all fun p=>p.1==q.1||(σ.lookup p.1).isNone)=true:=by kernel_rfl) (k:JJ W w n D (q::σ) fs X):JJ W w n D (q::p1::p2::p3::p4::p5::σ) fs X:=fun a Z=>k a (Z.lC (xs:=[p1,p2,p3,p4,p5]) h)
theorem aN (h:([p1,p2,p3,p4,p5,p6].all fun p=>p.1==q.1||(σ.lookup p.1).isNone)=true:=by kernel_rfl) (k:JJ W w n D (q::σ) fs X):JJ W w n D (q::p1::p2::p3::p4::p5::p6::σ) fs X:=fun a Z=>k a (Z.lC (xs:=[p1,p2,p3,p4,p5,p6]) h)
theorem xA (h:([p1].all fun p=>(σ.lookup p.1).isNone)=true:=by kernel_rfl) (k:JJ W w n D σ fs X):JJ W w n D (p1::σ) fs X:=fun a Z=>k a (Z.lD (xs:=[p1]) h)
theorem sZ (h:([p1,p2].all fun p=>(σ.lookup p.1).isNone)=true:=by kernel_rfl) (k:JJ W w n D σ fs X):JJ W w n D (p1::p2::σ) fs X:=fun a Z=>k a (Z.lD (xs:=[p1,p2]) h)
theorem AA (h:([p1,p2,p3].all fun p=>(σ.lookup p.1).isNone)=true:=by kernel_rfl) (k:JJ W w n D σ fs X):JJ W w n D (p1::p2::p3::σ) fs X:=fun a Z=>k a (Z.lD (xs:=[p1,p2,p3]) h)
theorem ES (h:([p1,p2,p3,p4].all fun p=>(σ.lookup p.1).isNone)=true:=by kernel_rfl) (k:JJ W w n D σ fs X):JJ W w n D (p1::p2::p3::p4::σ) fs X:=fun a Z=>k a (Z.lD (xs:=[p1,p2,p3,p4]) h)
theorem CE (h:([p1,p2,p3,p4,p5].all fun p=>(σ.lookup p.1).isNone)=true:=by kernel_rfl) (k:JJ W w n D σ fs X):JJ W w n D (p1::p2::p3::p4::p5::σ) fs X:=fun a Z=>k a (Z.lD (xs:=[p1,p2,p3,p4,p5]) h)
theorem jc (h:([p1,p2,p3,p4,p5,p6].all fun p=>(σ.lookup p.1).isNone)=true:=by kernel_rfl) (k:JJ W w n D σ fs X):JJ W w n D (p1::p2::p3::p4::p5::p6::σ) fs X:=fun a Z=>k a (Z.lD (xs:=[p1,p2,p3,p4,p5,p6]) h)
end
theorem Mem.AB (h:Mem W w fs) (m:rX fs fs'):Mem W w fs':=⟨h.below,fun f hf=>h.holds f (m.sub.subset hf),h.apart.sublist m.sub⟩
theorem JM (m:rX fs fs') (k:JJ W w n D σ fs' X):JJ W w n D σ fs X:=fun a Z HM=>k a Z (HM.AB m)
def eZ (ops:Array Oper) (σ:List (Nat×Value)) (n i:Nat):Option (Nat×Op):=match ops[i]? with
 |some o=>match bV ops σ o,o.dst with
  |some true,some d=>if d<n then some (d,o.op) else none
  |_,_=>none
 |none=>none
theorem Hw (h:eZ ops σ n i=some (d,op)):∃o,ops[i]?=some o∧bV ops σ o=some true∧o.dst=some d∧d<n∧o.op=op:=by
 unfold eZ at h
 split at h
 ·rename_i o ho
  split at h
  ·rename_i d' hw hd
   split at h
   ·rename_i hdn
    injection h with h
    injection h with h1 h2
    subst h1;subst h2
    exact ⟨o,ho,hw,hd,hdn,rfl⟩
   ·cases h
  ·cases h
 ·cases h
theorem JJ.yl (h:eZ ops σ n i=some (d,op)) (hy:∀o:Oper,o.op=op→Yl P (fun wS=>Mem W wS fs) σ o v) (k:JJ W w n D ((d,v)::σ) fs (qf P ops Q (i+1))):JJ W w n D σ fs (qf P ops Q i):=by
 obtain ⟨o,ho,hw,hd,hdn,he⟩:=Hw h
 exact fun _ Z HM=>Me (S:=fun wS=>Mem W wS fs) Z HM ho hw hd hdn (hy o he) fun a Z=>k a Z HM
theorem JJ.rY (h:eZ ops σ n i=some (d,op)) (k:∀(o:Oper) a,o.op=op→o.dst=some d→d<n→Fr a n D σ→Mem W w fs→o.wp P a w (qf P ops Q (i+1)) Q):JJ W w n D σ fs (qf P ops Q i):=by
 obtain ⟨o,ho,hw,hd,hdn,he⟩:=Hw h
 exact fun a Z HM=>GK Z ho hw (k o a he hd hdn Z HM)
theorem Jp (m:Nat) (h:xm P ops n m i σ=some σ':=by exact rfl) (k:JJ W w n D σ' fs (qf P ops Q (i+m))):JJ W w n D σ fs (qf P ops Q i):=
 fun _ Z HM=>PP m i Z h rfl fun a' uu=>k a' uu HM
theorem Jv (m:Nat) (new:List (Nat×Value)) (h:(xm P ops n m i σ).map (fun s=>(thin s σ new,new.map fun p=>s.lookup p.1))=some (true,new.map fun p=>some p.2):=by kernel_rfl) (k:JJ W w n D (new++σ) fs (qf P ops Q (i+m))):JJ W w n D σ fs (qf P ops Q i):=
 fun _ Z HM=>fp Z m i new (fun a' uu=>k a' uu HM) h
theorem Jf (off:Nat) {s f g b:Nat} {x:Operand} (h:eZ ops σ n i=some (d,.fieldAddr s x f):=by exact rfl) (hx:look σ x=some (.pointer (some ⟨g,b,none⟩)):=by exact rfl) (hf:EC P s f=some off:=by kernel_rfl) (k:JJ W w n D ((d,.pointer (some ⟨g,b+off,none⟩))::σ) fs (qf P ops Q (i+1))):JJ W w n D σ fs (qf P ops Q i):=
 JJ.yl h (fun o ho=>Yl.pure (by rw [ho];simp only [rP,hx,hf];rw [Addr.add_mid])) k
theorem Jc {g off:Nat} {x:Operand} {t tb:TypeId} {cs:Array Value} (O:At fs (.blk g cs tb)) (h:eZ ops σ n i=some (d,.load t x):=by exact rfl) (hx:look σ x=some (.pointer (some ⟨g,off,none⟩)):=by exact rfl) (hv:nth cs.toList off=some v:=by exact rfl) (ht:fZ P t=true:=by kernel_rfl) (k:JJ W w n D ((d,v)::σ) fs (qf P ops Q (i+1))):JJ W w n D σ fs (qf P ops Q i):=
 JJ.yl h (fun o ho=>Yl.ze ho hx ht fun _ h=>let ⟨_,hi⟩:=O.get;h.cell hi (Mx hv)) k
theorem Jg (off:Nat) {s f g b:Nat} {x:Operand} {t tb:TypeId} {cs:Array Value} (O:At fs (.blk g cs tb)) (h:eZ ops σ n i=some (d,.fieldAddr s x f):=by exact rfl) (hx:look σ x=some (.pointer (some ⟨g,b,none⟩)):=by exact rfl) (h2:eZ ops ((d,.pointer (some ⟨g,b+off,none⟩))::σ) n (i+1)=some (d2,.load t (.tmp d)):=by exact rfl) (hv:nth cs.toList (b+off)=some v:=by exact rfl)
 (hk:(fZ P t&& (EC P s f==some off&& (d2==d||(σ.lookup d).isNone)))=true:=by kernel_rfl) (k:JJ W w n D ((d2,v)::σ) fs (qf P ops Q (i+2))):JJ W w n D σ fs (qf P ops Q i):=by
 simp only [Bool.and_eq_true,beq_iff_eq] at hk
 refine Jf off h hx hk.2.1 (Jc O h2 ?_ hv hk.1 (aT (by simpa [Bool.beq_comm] using hk.2.2) k))
 simp [look]
theorem Jl {x:Operand} {t:TypeId} {A:Option Addr} {m c:Nat} (h:eZ ops σ n i=some (d,.call {callee:= .builtin .len,args:= #[x],argTypes:= #[t]}):=by exact rfl) (hx:look σ x=some (.slice A m c):=by exact rfl) (ht:o7 P t=true:=by kernel_rfl) (k:JJ W w n D ((d,.int .i64 (m:Int))::σ) fs (qf P ops Q (i+1))):JJ W w n D σ fs (qf P ops Q i):=
 JJ.yl h (fun o ho=>Yl.len ho hx ht) k
theorem Jn {x:Operand} {p:Addr} (h:eZ ops σ n i=some (d,.nilCheck x):=by exact rfl) (hx:look σ x=some (.pointer (some p)):=by exact rfl) (k:JJ W w n D ((d,.pointer (some p))::σ) fs (qf P ops Q (i+1))):JJ W w n D σ fs (qf P ops Q i):=
 JJ.yl h (fun o ho=>Yl.nilCheck ho hx) k
theorem Jx {x:Operand} {e:Nat} {vs:Array Value} (h:eZ ops σ n i=some (d,.extract x e):=by exact rfl) (hx:look σ x=some (.tuple vs):=by exact rfl) (hv:nth vs.toList e=some v:=by exact rfl) (k:JJ W w n D ((d,v)::σ) fs (qf P ops Q (i+1))):JJ W w n D σ fs (qf P ops Q i):=
 JJ.yl h (fun o ho=>Yl.pure (by rw [ho];simp only [rP,hx];exact Mx hv)) k
theorem Jy (ho:ops[i]?=some o:=by exact rfl) (hw:bV ops σ o=some true:=by exact rfl) (hd:o.dst=some d:=by exact rfl) (hdn:d<n:=by decide) (h:Yl P (fun wS=>Mem W wS fs) σ o v) (k:JJ W w n D ((d,v)::σ) fs (qf P ops Q (i+1))):JJ W w n D σ fs (qf P ops Q i):=
 fun _ Z HM=>Me (S:=fun wS=>Mem W wS fs) Z HM ho hw hd hdn h fun a Z=>k a Z HM
theorem Jo (u:Value) (h:v=u) (k:JJ W w n D ((d,u)::σ) fs X):JJ W w n D ((d,v)::σ) fs X:=by subst h;exact k
section
variable {x y:Operand} {t t2:TypeId} {k:Go.IntKind} {m p B:Nat}
theorem JJ.bin {bo:BinOp} {u:Value} {a1 a2:Value} (h:eZ ops σ n i=some (d,.binOp bo t x y t2)) (hx:look σ x=some a1) (hy:look σ y=some a2) (hn:GI a1=true) (hb:xk bo a1 a2=some v) (e:v=u) (K:JJ W w n D ((d,u)::σ) fs (qf P ops Q (i+1))):JJ W w n D σ fs (qf P ops Q i):=by
 subst e
 exact JJ.yl h (fun o ho=>Yl.pure (by rw [ho];simp only [rP,hx,hy,hn,if_true];exact hb)) K
theorem Xg (k:Go.IntKind) (a b:Int):xk .add (.int k a) (.int k b)=some (.int k (k.wrap (a+b))):=by simp [xk,Mc]
theorem Xh (k:Go.IntKind) (a b:Int):xk .sub (.int k a) (.int k b)=some (.int k (k.wrap (a-b))):=by simp [xk,Mc]
theorem Ja (h:eZ ops σ n i=some (d,.binOp .add t x y t2):=by exact rfl) (hx:look σ x=some (.int k (m:Int)):=by exact rfl) (hy:look σ y=some (.int k (p:Int)):=by exact rfl) (hB:gV k=some B:=by exact rfl) (hb:m+p≤B:=by omega) (K:JJ W w n D ((d,.int k ((m+p:Nat):Int))::σ) fs (qf P ops Q (i+1))):JJ W w n D σ fs (qf P ops Q i):=
 JJ.bin h hx hy rfl (Xg _ _ _) (by rw [show ((m:Int)+(p:Int))=((m+p:Nat):Int) from rfl,ER hB hb]) K
theorem dR (p:Nat) {z:Int} (h:eZ ops σ n i=some (d,.binOp .add t x y t2):=by exact rfl) (hx:look σ x=some (.int k (m:Int)):=by exact rfl) (hy:look σ y=some (.int k z):=by exact rfl) (hz:z=(p:Int):=by exact rfl) (hB:gV k=some B:=by exact rfl) (hb:m+p≤B:=by omega) (K:JJ W w n D ((d,.int k ((m+p:Nat):Int))::σ) fs (qf P ops Q (i+1))):JJ W w n D σ fs (qf P ops Q i):=by
 subst hz;exact Ja h hx hy hB hb K
theorem Js (h:eZ ops σ n i=some (d,.binOp .sub t x y t2):=by exact rfl) (hx:look σ x=some (.int k (m:Int)):=by exact rfl) (hy:look σ y=some (.int k (p:Int)):=by exact rfl) (hB:gV k=some B:=by exact rfl) (hb:p≤m∧m-p≤B:=by omega) (K:JJ W w n D ((d,.int k ((m-p:Nat):Int))::σ) fs (qf P ops Q (i+1))):JJ W w n D σ fs (qf P ops Q i):=
 JJ.bin h hx hy rfl (Xh _ _ _) (by rw [show ((m:Int)- (p:Int))=((m-p:Nat):Int) by omega,ER hB hb.2]) K
theorem CF (p:Nat) {z:Int} (h:eZ ops σ n i=some (d,.binOp .sub t x y t2):=by exact rfl) (hx:look σ x=some (.int k (m:Int)):=by exact rfl) (hy:look σ y=some (.int k z):=by exact rfl) (hz:z=(p:Int):=by exact rfl) (hB:gV k=some B:=by exact rfl) (hb:p≤m∧m-p≤B:=by omega) (K:JJ W w n D ((d,.int k ((m-p:Nat):Int))::σ) fs (qf P ops Q (i+1))):JJ W w n D σ fs (qf P ops Q i):=by
 subst hz;exact Js h hx hy hB hb K
def yH (P:Program) (s t:TypeId):Option Go.IntKind:=match P.underlying s,P.underlying t with
 |some _,some (.int k)=>some k
 |_,_=>none
theorem Jw (k:Go.IntKind) {k0:Go.IntKind} (h:eZ ops σ n i=some (d,.convert t t2 x):=by exact rfl) (hx:look σ x=some (.int k0 (m:Int)):=by exact rfl) (hk:yH P t t2=some k:=by kernel_rfl) (hB:gV k=some B:=by exact rfl) (hb:m≤B:=by omega) (K:JJ W w n D ((d,.int k (m:Int))::σ) fs (qf P ops Q (i+1))):JJ W w n D σ fs (qf P ops Q i):=by
 refine JJ.yl h (fun o ho=>Yl.pure (by
  rw [ho]
  unfold yH at hk
  split at hk
  ·rename_i q1 q2 h1 h2
   injection hk with hk
   subst hk
   simp only [rP,h1,h2,hx,ER hB hb]
  ·cases hk)) K
end
theorem Ji {p:Prop} {inst:Decidable p} (h1:p→JJ W w n D ((d,.bool true)::σ) fs X) (h2:¬p→JJ W w n D ((d,.bool false)::σ) fs X):JJ W w n D ((d,.bool (@decide p inst))::σ) fs X:=by
 by_cases h:p
 ·rw [decide_eq_true h];exact h1 h
 ·rw [decide_eq_false h];exact h2 h
theorem Ji' {p:Prop} {inst:Decidable p} (h1:¬p→JJ W w n D ((d,.bool true)::σ) fs X) (h2:p→JJ W w n D ((d,.bool false)::σ) fs X):JJ W w n D ((d,.bool (!@decide p inst))::σ) fs X:=by
 by_cases h:p
 ·rw [decide_eq_true h];exact h2 h
 ·rw [decide_eq_false h];exact h1 h
theorem Je {α:Type} {ib:BEq α} [LawfulBEq α] {x y:α} (h1:x=y→JJ W w n D ((d,.bool true)::σ) fs X) (h2:x≠y→JJ W w n D ((d,.bool false)::σ) fs X):JJ W w n D ((d,.bool (x==y))::σ) fs X:=by
 cases h:x==y
 ·exact h2 (ne_of_beq_false h)
 ·exact h1 (eq_of_beq h)
theorem Jh {α:Type} {ib:BEq α} [LawfulBEq α] {x y:α} (h1:x≠y→JJ W w n D ((d,.bool true)::σ) fs X) (h2:x=y→JJ W w n D ((d,.bool false)::σ) fs X):JJ W w n D ((d,.bool (x !=y))::σ) fs X:=by
 cases h:x !=y
 ·exact h2 (bne_eq_false_iff_eq.1 h)
 ·exact h1 (bne_iff_ne.1 h)
theorem Ju {b:Bool} (h1:b=true→JJ W w n D ((d,.bool true)::σ) fs X) (h2:b=false→JJ W w n D ((d,.bool false)::σ) fs X):JJ W w n D ((d,.bool b)::σ) fs X:=by
 cases b
 ·exact h2 rfl
 ·exact h1 rfl
theorem Jr {id:Nat} {c:Code} {Q':Exit→Act→World→Prop} (hi:ops.size=i:=by exact rfl) (h:∀a w,Q' .normal a w=Code.wp P (.seq (.region id o2 false) c) Q a w:=by exact fun _ _=>rfl) (k:JJ W w n D σ fs (qf P o2 (Exit.then (Code.wp P c Q) Q) 0)):JJ W w n D σ fs (qf P ops Q' i):=
 fun a Z HM=>yo hi (by rw [h];exact wp_seq (zq (k a Z HM)))
theorem Jq (hi:ops.size=i:=by exact rfl) (k:JJ W w n D σ fs (Q .normal)):JJ W w n D σ fs (qf P ops Q i):=fun a Z HM=>yo hi (k a Z HM)
theorem Jj {c:Code} {Q':Exit→Act→World→Prop} (hi:ops.size=i:=by exact rfl) (h:∀a w,Q' .normal a w=Code.wp P c Q a w:=by exact fun _ _=>rfl) (k:JJ W w n D σ fs (Code.wp P c Q)):JJ W w n D σ fs (qf P ops Q' i):=fun a Z HM=>yo hi (by rw [h];exact k a Z HM)
theorem JR {id:Nat} (k:JJ W w n D σ fs (qf P ops Q 0)):JJ W w n D σ fs (Code.wp P (.region id ops false) Q):=fun a Z HM=>zq (k a Z HM)
theorem JQ {c c2:Code} (k:JJ W w n D σ fs (Code.wp P c (Exit.then (Code.wp P c2 Q) Q))):JJ W w n D σ fs (Code.wp P (.seq c c2) Q):=fun a Z HM=>wp_seq (k a Z HM)
theorem JP {id:Nat} {c:Code} (k:JJ W w n D σ fs (qf P ops (Exit.then (Code.wp P c Q) Q) 0)):JJ W w n D σ fs (Code.wp P (.seq (.region id ops false) c) Q):=fun a Z HM=>wp_seq (zq (k a Z HM))
theorem JG {Y:Act→World→Prop} {c:Code} (h:∀a w,Y a w=Code.wp P c Q a w:=by exact fun _ _=>rfl) (k:JJ W w n D σ fs (Code.wp P c Q)):JJ W w n D σ fs Y:=fun a Z HM=>by rw [h];exact k a Z HM
theorem aI {c:Code} {Q':Exit→Act→World→Prop} (h:∀a w,Q' .normal a w=Code.wp P c Q a w:=by exact fun _ _=>rfl) (k:JJ W w n D σ fs (Code.wp P c Q)):JJ W w n D σ fs (Code.wp P .skip Q'):=fun a Z HM=>wp_skip (by rw [h];exact k a Z HM)
theorem JT {c:Operand} {x y:Code} (hc:look σ c=some (.bool true):=by exact rfl) (k:JJ W w n D σ fs (Code.wp P x Q)):JJ W w n D σ fs (Code.wp P (.cond c x y) Q):=fun a Z HM=>qu1 Z hc (k a Z HM)
theorem JF {c:Operand} {x y:Code} (hc:look σ c=some (.bool false):=by exact rfl) (k:JJ W w n D σ fs (Code.wp P y Q)):JJ W w n D σ fs (Code.wp P (.cond c x y) Q):=fun a Z HM=>PZ Z hc (k a Z HM)
theorem JB {id:Nat} {c:Code} (k:JJ W w n D σ fs (Code.wp P c (Exit.inBlock id Q))):JJ W w n D σ fs (Code.wp P (.block id c) Q):=fun a Z HM=>wp_block (k a Z HM)
theorem JS (k:JJ W w n D σ fs (Q .normal)):JJ W w n D σ fs (Code.wp P .skip Q):=fun a Z HM=>wp_skip (k a Z HM)
theorem JX {id:Nat} (k:JJ W w n D σ fs (Q (.exit id))):JJ W w n D σ fs (Code.wp P (.exit id) Q):=fun a Z HM=>wp_exit (k a Z HM)
theorem JZ (k:JJ W w n D σ fs (Q .ret)):JJ W w n D σ fs (Code.wp P .ret Q):=fun a Z HM=>wp_ret (k a Z HM)
section
variable {fn:Func} {R:Ending→World→Prop} {t1 t2 t3:Nat}
theorem bq (hX:∀a w,bodyPost P fn R .ret a w→X a w:=by exact fun _ _ h=>h) (hr:fn.results= #[.tmp t1]:=by exact rfl) (h1:σ.lookup t1=some v1:=by exact rfl) (hR:Mem W w fs→R (.returned v1) w):JJ W w n [] σ fs X:=fun _ Z HM=>hX _ _ (iO hr Z h1 (hR HM))
theorem qU (hX:∀a w,bodyPost P fn R .ret a w→X a w:=by exact fun _ _ h=>h) (hr:fn.results= #[.tmp t1]:=by exact rfl) (h1:σ.lookup t1=some v1:=by exact rfl) (hR:Mem W w fs→R (.returned v1) w:=by exact fun M=>⟨rfl,M.below⟩):JJ W w n [] σ fs X:=fun _ Z HM=>hX _ _ (iO hr Z h1 (hR HM))
theorem dL (hX:∀a w,bodyPost P fn R .ret a w→X a w:=by exact fun _ _ h=>h) (hr:fn.results= #[.tmp t1,.tmp t2]:=by exact rfl) (h1:σ.lookup t1=some v1:=by exact rfl) (h2:σ.lookup t2=some v2:=by exact rfl) (hR:Mem W w fs→R (.returned (.tuple #[v1,v2])) w):JJ W w n [] σ fs X:=fun _ Z HM=>hX _ _ (lu hr Z h1 h2 (hR HM))
end
theorem JA (cs:Array Value) {e:TypeId} (h:eZ ops σ n i=some (d,.alloc e):=by exact rfl) (hz:xu P e=some cs:=by kernel_rfl) (k:∀w' g,JJ W w' n D ((d,.pointer (some ⟨g,0,none⟩))::σ) (.blk g cs e::fs) (qf P ops Q (i+1))):JJ W w n D σ fs (qf P ops Q i):=
 JJ.rY h fun _ _ he hd hdn Z HM=>PW Z HM he hz hd hdn fun a w' g Z HM=>k w' g a Z HM
theorem JE {cs:Array Value} {e:TypeId} {x:Operand} (h:eZ ops σ n i=some (d,.box e x):=by exact rfl) (hx:look σ x=some (.agg cs):=by exact rfl) (k:∀w' g,JJ W w' n D ((d,.pointer (some ⟨g,0,none⟩))::σ) (.blk g cs e::fs) (qf P ops Q (i+1))):JJ W w n D σ fs (qf P ops Q i):=
 JJ.rY h fun _ _ he hd hdn Z HM=>Ai Z HM he hx rfl hd hdn fun a w' g Z HM=>k w' g a Z HM
theorem CG {e:TypeId} {x:Operand} (h:eZ ops σ n i=some (d,.box e x):=by exact rfl) (hx:look σ x=some v:=by exact rfl) (hc:v.cells= #[v]:=by exact rfl) (k:∀w' g,JJ W w' n D ((d,.pointer (some ⟨g,0,none⟩))::σ) (.blk g #[v] e::fs) (qf P ops Q (i+1))):JJ W w n D σ fs (qf P ops Q i):=
 JJ.rY h fun _ _ he hd hdn Z HM=>Ai Z HM he hx hc hd hdn fun a w' g Z HM=>k w' g a Z HM
theorem JW {t:TypeId} {x y:Operand} {g off:Nat} {l m:List Value} {v0:Value} {tb:TypeId} (O:mi (.blk g l.toArray tb) (.blk g m.toArray tb) fs fs') (U:mi v0 v l m) (ho:ops[i]?=some o:=by exact rfl) (hop:o.op= .store t x y:=by exact rfl) (hw:bV ops σ o=some true:=by exact rfl) (hd:o.dst=none:=by exact rfl) (hx:look σ x=some (.pointer (some ⟨g,off,none⟩)):=by exact rfl) (hy:look σ y=some v:=by exact rfl) (hs:(P.info? t).map (·.size)=some 1:=by kernel_rfl) (hv:v.oneCell'=true:=by exact rfl)
 (hu:m=l.set off v:=by exact rfl) (hl:Nat.blt off l.length=true:=by exact rfl) (k:∀w',JJ W w' n D σ fs' (qf P ops Q (i+1))):JJ W w n D σ fs (qf P ops Q i):=by
 obtain ⟨j,hj,rfl⟩:=O.get
 refine fun a Z HM=>GK Z ho hw (Mj Z HM hop hd hx hy hs hv hj (by simpa using hl) fun w' HM=>k w' a Z ?_)
 subst hu
 simpa using HM
theorem JV {t:TypeId} {x y:Operand} {g m:Nat} {cs ds:Array Value} {tb:TypeId} (si:SI P t m) (O:mi (.blk g cs tb) (.blk g ds tb) fs fs') (ho:ops[i]?=some o:=by exact rfl) (hop:o.op= .store t x y:=by exact rfl) (hw:bV ops σ o=some true:=by exact rfl) (hd:o.dst=none:=by exact rfl) (hx:look σ x=some (.pointer (some ⟨g,0,none⟩)):=by exact rfl) (hy:look σ y=some (.agg ds):=by exact rfl)
 (hc:cs.size=m:=by exact rfl) (hm:ds.size=m:=by exact rfl) (h1:∀u∈ds.toList,u.oneCell'=true:=by simp [Value.oneCell']) (k:∀w',JJ W w' n D σ fs' (qf P ops Q (i+1))):JJ W w n D σ fs (qf P ops Q i):=by
 obtain ⟨j,hj,rfl⟩:=O.get
 exact fun a Z HM=>GK Z ho hw (Wl Z HM hop hd hx hy si hc hm h1 hj fun w' HM=>k w' a Z HM)
theorem JI {f:FuncId} {xs:Array Operand} {ts:Array TypeId} {vs:List Value} (h0:eZ ops σ n i=some (d,.call {callee:= .value (.func f),args:=xs,argTypes:=ts}):=by exact rfl) (hv:looks σ xs.toList=some vs:=by exact rfl) (h:Mem W w fs→Calls P f vs.toArray w (fun r w'=>r= .returned v∧Below w.heap.size w w')) (hf:callable P f=true:=by kernel_rfl)
 (k:∀w',Below w.heap.size w w'→JJ W w' n D ((d,v)::σ) fs (qf P ops Q (i+1))):JJ W w n D σ fs (qf P ops Q i):=
 JJ.rY h0 fun _ _ he hd hdn Z HM=>Aj Z he hv hf hd hdn (h HM) fun _ w' ⟨h1,h2⟩=>⟨v,h1,fun a Z=>k w' h2 a Z (HM.call h2)⟩
theorem JL {f:FuncId} {xs:Array Operand} {ts:Array TypeId} {vs:List Value} {R:Ending→World→Prop} (h0:eZ ops σ n i=some (d,.call {callee:= .value (.func f),args:=xs,argTypes:=ts}):=by exact rfl) (hv:looks σ xs.toList=some vs:=by exact rfl) (h:Mem W w fs→Calls P f vs.toArray w R) (hf:callable P f=true:=by kernel_rfl)
 (k:Mem W w fs→∀r w',R r w'→∃v,r= .returned v∧∃fs',Mem W w' fs'∧JJ W w' n D ((d,v)::σ) fs' (qf P ops Q (i+1))):JJ W w n D σ fs (qf P ops Q i):=
 JJ.rY h0 fun _ _ he hd hdn Z HM=>Aj Z he hv hf hd hdn (h HM) fun r w' hr=>let ⟨v,h1,_,h3,h4⟩:=k HM r w' hr;⟨v,h1,fun a Z=>h4 a Z h3⟩
theorem JK {f:FuncId} {xs:Array Operand} {ts:Array TypeId} {vs:List Value} {V:Option Addr→Nat→Value} {m sz:Nat} {e:TypeId} {ys:List Value} (h0:eZ ops σ n i=some (d,.call {callee:= .value (.func f),args:=xs,argTypes:=ts}):=by exact rfl) (hv:looks σ xs.toList=some vs:=by exact rfl) (h:Mem W w fs→Calls P f vs.toArray w (fun r w'=>(∃A c,r= .returned (V A c)∧w'.ownsRow w.heap.size e sz (.slice A m c) m ys∧m≤c)∧Below w.heap.size w w')) (hf:callable P f=true:=by kernel_rfl)
 (k:∀A c w',m≤c→JJ W w' n D ((d,V A c)::σ) (.row (.slice A m c) m ys e sz::fs) (qf P ops Q (i+1))):JJ W w n D σ fs (qf P ops Q i):=
 JJ.rY h0 fun _ _ he hd hdn Z HM=>Aj Z he hv hf hd hdn (h HM) fun r w' ⟨⟨A,c,h1,h2,h3⟩,h4⟩=>⟨_,h1,fun a Z=>k A c w' h3 a Z (HM.bN h4 h2)⟩
theorem JO {f:FuncId} {xs:Array Operand} {ts:Array TypeId} {vs:List Value} (h0:eZ ops σ n i=some (d,.call {callee:= .value (.func f),args:=xs,argTypes:=ts}):=by exact rfl) (hv:looks σ xs.toList=some vs:=by exact rfl) (h:Mem W w fs→Calls P f vs.toArray w (fun r w'=>r= .returned v∧Mem W w' fs')) (hf:callable P f=true:=by kernel_rfl)
 (k:∀w',JJ W w' n D ((d,v)::σ) fs' (qf P ops Q (i+1))):JJ W w n D σ fs (qf P ops Q i):=
 JJ.rY h0 fun _ _ he hd hdn Z HM=>Aj Z he hv hf hd hdn (h HM) fun r w' ⟨h1,h2⟩=>⟨v,h1,fun a Z=>k w' a Z h2⟩
theorem JU {t len e:Nat} {ps:Array (Nat×Operand)} {vs:List (Nat×Value)} {z:Value} {size bytes:Nat} (ei:EI P t e z size bytes) (cs:Array Value) (h:eZ ops σ n i=some (d,.buildSlice t len ps):=by exact rfl) (hl:decide (0<len∧len*size≤16777216)=true:=by decide) (hv:yx σ ps.toList=some vs:=by exact rfl)
 (hf:Instr.fill (fun i=>some (i*size,size)) (Ml z.cells (len*size)) vs=some cs:=by kernel_rfl) (k:∀w' g,JJ W w' n D ((d,.slice (some ⟨g,0,none⟩) len len)::σ) (.blk g cs e::fs) (qf P ops Q (i+1))):JJ W w n D σ fs (qf P ops Q i):=
 JJ.rY h fun _ _ he hd hdn Z HM=>Wn Z HM he ei hl hv hf hd hdn fun a w' g Z HM=>k w' g a Z HM
theorem JD {s x:Operand} {t e:TypeId} {z:Value} {size bytes m0 m c B:Nat} {A:Option Addr} {xs:List Value} {fa:Option Addr→Nat→List ag} (news:List Value) (j:Nat) (O:∀A' c',mi (.row v m0 xs e size) (.row (.slice A' (m0+m) c') (m0+m) (xs++news) e size) fs (fa A' c')) (ei:EI P t e z size bytes)
 (h0:eZ ops σ n i=some (d,.call {callee:= .builtin .append,args:= #[s,x],argTypes:= #[t,t]}):=by exact rfl) (hs:look σ s=some v:=by exact rfl) (hx:look σ x=some (.slice A m c):=by exact rfl) (hj:fs[j]?=some (.row v m0 xs e size):=by exact rfl) (hu:(fun A' c'=>fs.set j (.row (.slice A' (m0+m) c') (m0+m) (xs++news) e size))=fa:=by kernel_rfl)
 (hr:Mem W w fs→Rd w B size A m news) (h1:∀u∈news,u.oneCell'=true) (hb:(m0+m)*bytes≤140737488355328:=by omega) (h63:m0+m≤9223372036854775807:=by omega)
 (k:∀w' A' c',m0+m≤c'→JJ W w' n D ((d,.slice A' (m0+m) c')::σ) (fa A' c') (qf P ops Q (i+1))):JJ W w n D σ fs (qf P ops Q i):=
 JJ.rY h0 fun _ _ he hd hdn Z HM=>yw Z HM he ei hs hx hj (hr HM) h1 hb h63 hd hdn fun a w' A' c' Z HM' hc=>k w' A' c' hc a Z (by have h:=congrFun (congrFun hu A') c';rw [←h];exact HM')
theorem JH {p:Prop} (h:p) (k:p→JJ W w n D σ fs X):JJ W w n D σ fs X:=k h
section
variable {f N:Nat} {fn:Func} {c:Code} {R:Ending→World→Prop} {u1 u2 u3 u4 u5 u6 u7 u8:Value}
theorem JN0 (hf:P.funcs[f]?=some fn) (N:Nat) (hn:fn.ntmps=N:=by exact rfl) (hb:fn.body=some c:=by exact rfl) (hl:decide (0≤N)=true:=by kernel_rfl) (k:JJ w w N [] [] [] (Code.wp P c (bodyPost P fn R))):Calls P f #[] w R:=
 EH (vs:=[]) hf hb hn hl rfl fun a Z=>k a Z (Mem.start w)
theorem dM (hf:P.funcs[f]?=some fn) (N:Nat) (hn:fn.ntmps=N:=by exact rfl) (hb:fn.body=some c:=by exact rfl) (hl:decide (1≤N)=true:=by kernel_rfl) (k:JJ w w N [] [(0,u1)] [] (Code.wp P c (bodyPost P fn R))):Calls P f #[u1] w R:=
 EH (vs:=[u1]) hf hb hn hl rfl fun a Z=>k a Z (Mem.start w)
theorem lF (hf:P.funcs[f]?=some fn) (N:Nat) (hn:fn.ntmps=N:=by exact rfl) (hb:fn.body=some c:=by exact rfl) (hl:decide (2≤N)=true:=by kernel_rfl) (k:JJ w w N [] [(0,u1),(1,u2)] [] (Code.wp P c (bodyPost P fn R))):Calls P f #[u1,u2] w R:=
 EH (vs:=[u1,u2]) hf hb hn hl rfl fun a Z=>k a Z (Mem.start w)
theorem MB (hf:P.funcs[f]?=some fn) (N:Nat) (hn:fn.ntmps=N:=by exact rfl) (hb:fn.body=some c:=by exact rfl) (hl:decide (3≤N)=true:=by kernel_rfl) (k:JJ w w N [] [(0,u1),(1,u2),(2,u3)] [] (Code.wp P c (bodyPost P fn R))):Calls P f #[u1,u2,u3] w R:=
 EH (vs:=[u1,u2,u3]) hf hb hn hl rfl fun a Z=>k a Z (Mem.start w)
end
end
section
variable {P:Program} {ops o2:Array Oper} {Q:Exit→Act→World→Prop} {a:Act} {W w:World} {n d d2 fuel:Nat} {D:List Deferred} {σ σ':List (Nat×Value)} {o o':Oper} {op:Op} {v v1 v2 v3:Value} {X:Act→World→Prop} {fs gs fs':List ag} {md:Region.Mode} {listed:Array Bool} {ex:List Nat} {S:World→Prop}
def VV (W w:World) (n:Nat) (D:List Deferred) (σ:List (Nat×Value)) (fs gs:List ag) (X:Act→World→Prop):Prop:=∀a,Fr a n D σ→Mem W w fs→Mem W w gs→X a w
theorem Vb (Z:Fr a n D σ) (HM:Mem W w fs) (HS:Mem W w gs) (h:VV W w n D σ fs gs X):X a w:=h a Z HM HS
def CJ (l:Array Bool) (is:List Nat):Array Bool:=is.foldl (fun l i=>l.setIfInBounds i true) l
theorem Vs (m:rX fs gs) (ex:List Nat) {id f0:Nat} (hf:ops.size=f0:=by exact rfl) (hm:P.follows .mixedOrders=true:=by kernel_rfl) (k:∀w',VV W w' n D σ fs gs (qi P .any ops Q (fun wS=>Mem W wS gs) ex f0 (Array.replicate ops.size false))):JJ W w n D σ fs (Code.wp P (.region id ops true) Q):=
 fun a Z HM=>Wi hm (fun wS=>Mem W wS gs) ex (by have h:=k w.drew a Z HM.drew (HM.drew.AB m);subst hf;exact h)
theorem Vd (hr:Region.ready md ops listed=[]:=by kernel_rfl) (k:JJ W w n D σ fs (Q .normal)):VV W w n D σ fs gs (qi P md ops Q S ex fuel listed):=fun a Z HM _=>qh hr (k a Z HM)
def ET (P:Program) (ops:Array Oper) (n:Nat):List Nat→List (Nat×Value)→Option (List (Nat×Value))
 |[],σ=>some σ
 |i::is,σ=>match Ah P ops n i σ with
  |some σ'=>ET P ops n is σ'
  |none=>none
def nH (md:Region.Mode) (ops:Array Oper) (ex:List Nat):List Nat→Array Bool→Bool
 |[],_=>true
 |i::is,l=>nA md ops ex l i&&nH md ops ex is (l.setIfInBounds i true)
theorem Qz:∀(is:List Nat) {l:Array Bool} {σ σ':List (Nat×Value)},ET P ops n is σ=some σ'→nH md ops ex is l=true→yu P md ops n ex is l σ=some (CJ l is,σ')
 |[],_,_,_,h,_=>by injection h with h;subst h;rfl
 | i :: is, l, σ, σ', h, hk => by
  unfold ET at h
  unfold nH at hk
  rw [Bool.and_eq_true] at hk
  split at h
  ·rename_i s hs
   unfold yu
   rw [if_pos hk.1,hs]
   exact Qz is h hk.2
  ·cases h
theorem Vp (is:List Nat) (h:ET P ops n is σ=some σ':=by exact rfl) (hk:nH md ops ex is listed=true:=by kernel_rfl) (hQ:∀c (a:Act) d v w,Q (.panic c) (a.put d v) w→Q (.panic c) a w:=by intro _ _ d _ _ h;cases d<;>exact h)
 (k:VV W w n D σ' fs gs (qi P md ops Q S ex fuel (CJ listed is))) (hS:∀w,Mem W w gs→S w:=by exact fun _ h=>h):VV W w n D σ fs gs (qi P md ops Q S ex (fuel+is.length) listed):=
 fun a Z HM HS=>Mh hQ is Z (fun _=>hS _ HS) (Qz is h hk) fun a Z=>k a Z HM HS
theorem Vq (is:List Nat) (new:List (Nat×Value)) (h:(ET P ops n is σ).map (fun s=>(thin s σ new,new.map fun p=>s.lookup p.1))=some (true,new.map fun p=>some p.2):=by kernel_rfl) (hk:nH md ops ex is listed=true:=by kernel_rfl) (hQ:∀c (a:Act) d v w,Q (.panic c) (a.put d v) w→Q (.panic c) a w:=by intro _ _ d _ _ h;cases d<;>exact h)
 (k:VV W w n D (new++σ) fs gs (qi P md ops Q (fun wS=>Mem W wS gs) ex fuel (CJ listed is))):VV W w n D σ fs gs (qi P md ops Q (fun wS=>Mem W wS gs) ex (fuel+is.length) listed):=by
 cases hs:ET P ops n is σ with
 |none=>rw [hs] at h;cases h
 |some s=>
  rw [hs] at h
  injection h with h
  injection h with h1 h2
  have hA:=Qz is hs hk
  obtain ⟨full,hf⟩:=PU is hA
  exact fun a Z HM HS=>Mh hQ is Z (fun _=>HS) hA fun a Z=>k a (Z.thin hf h1 h2) HM HS
section
variable {i:Nat}
theorem VV.yl (h:eZ ops σ n i=some (d,op)) (hk:yt md ops ex listed i=true) (hQ:∀c (a:Act) v w,Q (.panic c) (a.put (some d) v) w→Q (.panic c) a w) (hy:∀o:Oper,o.op=op→Yl P (fun wS=>Mem W wS gs) σ o v)
 (k:VV W w n D ((d,v)::σ) fs gs (qi P md ops Q (fun wS=>Mem W wS gs) ex fuel (listed.setIfInBounds i true))):VV W w n D σ fs gs (qi P md ops Q (fun wS=>Mem W wS gs) ex (fuel+1) listed):=by
 obtain ⟨o,ho,hw,hd,hdn,he⟩:=Hw h
 exact fun a Z HM HS=>EE Z HS ho hw hd hdn hk (fun c a w=>by rw [hd];exact hQ c a v w) (hy o he) fun a Z=>k a Z HM HS
theorem VV.pu (h:eZ ops σ n i=some (d,op)) (hk:nA md ops ex listed i=true) (hQ:∀c (a:Act) v w,Q (.panic c) (a.put (some d) v) w→Q (.panic c) a w) (hy:∀o:Oper,o.op=op→∀S',Yl P S' σ o v)
 (k:VV W w n D ((d,v)::σ) fs gs (qi P md ops Q (fun wS=>Mem W wS gs) ex fuel (listed.setIfInBounds i true))):VV W w n D σ fs gs (qi P md ops Q (fun wS=>Mem W wS gs) ex (fuel+1) listed):=by
 obtain ⟨o,ho,hw,hd,hdn,he⟩:=Hw h
 exact fun a Z HM HS=>PT Z (fun _=>HS) ho hw hd hdn hk (fun c a w=>by rw [hd];exact hQ c a v w) (hy o he) fun a Z=>k a Z HM HS
theorem VV.rY (h:eZ ops σ n i=some (d,op)) (hr:Region.ready md ops listed=[i]) (k:∀(o:Oper) a,o.op=op→o.dst=some d→d<n→Fr a n D σ→Mem W w fs→o.wp P a w (fun a' w'=>(bW ex (listed.setIfInBounds i true)=false→Mem W w' gs)∧qi P md ops Q (fun wS=>Mem W wS gs) ex fuel (listed.setIfInBounds i true) a' w') Q):VV W w n D σ fs gs (qi P md ops Q (fun wS=>Mem W wS gs) ex (fuel+1) listed):=by
 obtain ⟨o,ho,hw,hd,hdn,he⟩:=Hw h
 exact fun a Z HM _=>EF [i] hr rfl (all_cons (xn Z ho hw (k o a he hd hdn Z HM)) all_nil)
end
theorem Vf (i off:Nat) {s f g b:Nat} {x:Operand} (h:eZ ops σ n i=some (d,.fieldAddr s x f):=by exact rfl) (hx:look σ x=some (.pointer (some ⟨g,b,none⟩)):=by exact rfl) (hf:(EC P s f==some off&&nA md ops ex listed i)=true:=by kernel_rfl) (hQ:∀c (a:Act) v w,Q (.panic c) (a.put (some d) v) w→Q (.panic c) a w:=by exact fun _ _ _ _ h=>h)
 (k:VV W w n D ((d,.pointer (some ⟨g,b+off,none⟩))::σ) fs gs (qi P md ops Q (fun wS=>Mem W wS gs) ex fuel (listed.setIfInBounds i true))):VV W w n D σ fs gs (qi P md ops Q (fun wS=>Mem W wS gs) ex (fuel+1) listed):=by
 rw [Bool.and_eq_true,beq_iff_eq] at hf
 exact VV.pu h hf.2 hQ (fun o ho _=>Yl.pure (by rw [ho];simp only [rP,hx,hf.1];rw [Addr.add_mid])) k
theorem Vc (i:Nat) {g off:Nat} {x:Operand} {t tb:TypeId} {cs:Array Value} (O:At gs (.blk g cs tb)) (h:eZ ops σ n i=some (d,.load t x):=by exact rfl) (hx:look σ x=some (.pointer (some ⟨g,off,none⟩)):=by exact rfl) (hv:nth cs.toList off=some v:=by exact rfl) (ht:(fZ P t&&yt md ops ex listed i)=true:=by kernel_rfl) (hQ:∀c (a:Act) v w,Q (.panic c) (a.put (some d) v) w→Q (.panic c) a w:=by exact fun _ _ _ _ h=>h)
 (k:VV W w n D ((d,v)::σ) fs gs (qi P md ops Q (fun wS=>Mem W wS gs) ex fuel (listed.setIfInBounds i true))):VV W w n D σ fs gs (qi P md ops Q (fun wS=>Mem W wS gs) ex (fuel+1) listed):=by
 rw [Bool.and_eq_true] at ht
 exact VV.yl h ht.2 hQ (fun o ho=>Yl.ze ho hx ht.1 fun _ h=>let ⟨_,hi⟩:=O.get;h.cell hi (Mx hv)) k
theorem Vl (i:Nat) {x:Operand} {t:TypeId} {A:Option Addr} {m c:Nat} (h:eZ ops σ n i=some (d,.call {callee:= .builtin .len,args:= #[x],argTypes:= #[t]}):=by exact rfl) (hx:look σ x=some (.slice A m c):=by exact rfl) (ht:(o7 P t&&nA md ops ex listed i)=true:=by kernel_rfl) (hQ:∀c (a:Act) v w,Q (.panic c) (a.put (some d) v) w→Q (.panic c) a w:=by exact fun _ _ _ _ h=>h)
 (k:VV W w n D ((d,.int .i64 (m:Int))::σ) fs gs (qi P md ops Q (fun wS=>Mem W wS gs) ex fuel (listed.setIfInBounds i true))):VV W w n D σ fs gs (qi P md ops Q (fun wS=>Mem W wS gs) ex (fuel+1) listed):=by
 rw [Bool.and_eq_true] at ht
 exact VV.pu h ht.2 hQ (fun o ho _=>Yl.len ho hx ht.1) k
theorem Vn (i:Nat) {x:Operand} {p:Addr} (h:eZ ops σ n i=some (d,.nilCheck x):=by exact rfl) (hx:look σ x=some (.pointer (some p)):=by exact rfl) (ht:nA md ops ex listed i=true:=by kernel_rfl) (hQ:∀c (a:Act) v w,Q (.panic c) (a.put (some d) v) w→Q (.panic c) a w:=by exact fun _ _ _ _ h=>h)
 (k:VV W w n D ((d,.pointer (some p))::σ) fs gs (qi P md ops Q (fun wS=>Mem W wS gs) ex fuel (listed.setIfInBounds i true))):VV W w n D σ fs gs (qi P md ops Q (fun wS=>Mem W wS gs) ex (fuel+1) listed):=
 VV.pu h ht hQ (fun o ho _=>Yl.nilCheck ho hx) k
theorem Vx (i:Nat) {x:Operand} {e:Nat} {vs:Array Value} (h:eZ ops σ n i=some (d,.extract x e):=by exact rfl) (hx:look σ x=some (.tuple vs):=by exact rfl) (hv:nth vs.toList e=some v:=by exact rfl) (ht:nA md ops ex listed i=true:=by kernel_rfl) (hQ:∀c (a:Act) v w,Q (.panic c) (a.put (some d) v) w→Q (.panic c) a w:=by exact fun _ _ _ _ h=>h)
 (k:VV W w n D ((d,v)::σ) fs gs (qi P md ops Q (fun wS=>Mem W wS gs) ex fuel (listed.setIfInBounds i true))):VV W w n D σ fs gs (qi P md ops Q (fun wS=>Mem W wS gs) ex (fuel+1) listed):=
 VV.pu h ht hQ (fun o ho _=>Yl.pure (by rw [ho];simp only [rP,hx];exact Mx hv)) k
theorem Vy (i:Nat) (ho:ops[i]?=some o:=by exact rfl) (hw:bV ops σ o=some true:=by exact rfl) (hd:o.dst=some d:=by exact rfl) (hdn:d<n:=by decide) (h:Yl P (fun wS=>Mem W wS gs) σ o v) (ht:yt md ops ex listed i=true:=by kernel_rfl) (hQ:∀c (a:Act) w,Q (.panic c) (a.put o.dst v) w→Q (.panic c) a w:=by exact fun _ _ _ h=>h)
 (k:VV W w n D ((d,v)::σ) fs gs (qi P md ops Q (fun wS=>Mem W wS gs) ex fuel (listed.setIfInBounds i true))):VV W w n D σ fs gs (qi P md ops Q (fun wS=>Mem W wS gs) ex (fuel+1) listed):=
 fun a Z HM HS=>EE Z HS ho hw hd hdn ht hQ h fun a Z=>k a Z HM HS
theorem Vu (i:Nat) (ho:ops[i]?=some o:=by exact rfl) (hw:bV ops σ o=some true:=by exact rfl) (hd:o.dst=some d:=by exact rfl) (hdn:d<n:=by decide) (h:∀S':World→Prop,Yl P S' σ o v) (ht:nA md ops ex listed i=true:=by kernel_rfl) (hQ:∀c (a:Act) w,Q (.panic c) (a.put o.dst v) w→Q (.panic c) a w:=by exact fun _ _ _ h=>h)
 (k:VV W w n D ((d,v)::σ) fs gs (qi P md ops Q (fun wS=>Mem W wS gs) ex fuel (listed.setIfInBounds i true))):VV W w n D σ fs gs (qi P md ops Q (fun wS=>Mem W wS gs) ex (fuel+1) listed):=
 fun a Z HM HS=>PT Z (fun _=>HS) ho hw hd hdn ht hQ h fun a Z=>k a Z HM HS
theorem Vo (u:Value) (h:v=u) (k:VV W w n D ((d,u)::σ) fs gs X):VV W w n D ((d,v)::σ) fs gs X:=by subst h;exact k
theorem VH {p:Prop} (h:p) (k:p→VV W w n D σ fs gs X):VV W w n D σ fs gs X:=k h
section
variable {x y:Operand} {t t2:TypeId} {k:Go.IntKind} {m p B:Nat}
theorem VV.bin (i:Nat) {bo:BinOp} {u:Value} {a1 a2:Value} (h:eZ ops σ n i=some (d,.binOp bo t x y t2)) (hx:look σ x=some a1) (hy:look σ y=some a2) (ht:nA md ops ex listed i=true) (hQ:∀c (a:Act) v w,Q (.panic c) (a.put (some d) v) w→Q (.panic c) a w) (hn:GI a1=true) (hb:xk bo a1 a2=some v) (e:v=u)
 (K:VV W w n D ((d,u)::σ) fs gs (qi P md ops Q (fun wS=>Mem W wS gs) ex fuel (listed.setIfInBounds i true))):VV W w n D σ fs gs (qi P md ops Q (fun wS=>Mem W wS gs) ex (fuel+1) listed):=by
 subst e
 exact VV.pu h ht hQ (fun o ho _=>Yl.pure (by rw [ho];simp only [rP,hx,hy,hn,if_true];exact hb)) K
theorem Va (i:Nat) (h:eZ ops σ n i=some (d,.binOp .add t x y t2):=by exact rfl) (hx:look σ x=some (.int k (m:Int)):=by exact rfl) (hy:look σ y=some (.int k (p:Int)):=by exact rfl) (hB:gV k=some B:=by exact rfl) (hb:m+p≤B:=by omega) (ht:nA md ops ex listed i=true:=by kernel_rfl) (hQ:∀c (a:Act) v w,Q (.panic c) (a.put (some d) v) w→Q (.panic c) a w:=by exact fun _ _ _ _ h=>h)
 (K:VV W w n D ((d,.int k ((m+p:Nat):Int))::σ) fs gs (qi P md ops Q (fun wS=>Mem W wS gs) ex fuel (listed.setIfInBounds i true))):VV W w n D σ fs gs (qi P md ops Q (fun wS=>Mem W wS gs) ex (fuel+1) listed):=
 VV.bin i h hx hy ht hQ rfl (Xg _ _ _) (by rw [show ((m:Int)+(p:Int))=((m+p:Nat):Int) from rfl,ER hB hb]) K
theorem EU (i p:Nat) {z:Int} (h:eZ ops σ n i=some (d,.binOp .add t x y t2):=by exact rfl) (hx:look σ x=some (.int k (m:Int)):=by exact rfl) (hy:look σ y=some (.int k z):=by exact rfl) (hz:z=(p:Int):=by exact rfl) (hB:gV k=some B:=by exact rfl) (hb:m+p≤B:=by omega) (ht:nA md ops ex listed i=true:=by kernel_rfl) (hQ:∀c (a:Act) v w,Q (.panic c) (a.put (some d) v) w→Q (.panic c) a w:=by exact fun _ _ _ _ h=>h)
 (K:VV W w n D ((d,.int k ((m+p:Nat):Int))::σ) fs gs (qi P md ops Q (fun wS=>Mem W wS gs) ex fuel (listed.setIfInBounds i true))):VV W w n D σ fs gs (qi P md ops Q (fun wS=>Mem W wS gs) ex (fuel+1) listed):=by
 subst hz;exact Va i h hx hy hB hb ht hQ K
theorem Hy (i p:Nat) {z:Int} (h:eZ ops σ n i=some (d,.binOp .sub t x y t2):=by exact rfl) (hx:look σ x=some (.int k (m:Int)):=by exact rfl) (hy:look σ y=some (.int k z):=by exact rfl) (hz:z=(p:Int):=by exact rfl) (hB:gV k=some B:=by exact rfl) (hb:p≤m∧m-p≤B:=by omega) (ht:nA md ops ex listed i=true:=by kernel_rfl) (hQ:∀c (a:Act) v w,Q (.panic c) (a.put (some d) v) w→Q (.panic c) a w:=by exact fun _ _ _ _ h=>h)
 (K:VV W w n D ((d,.int k ((m-p:Nat):Int))::σ) fs gs (qi P md ops Q (fun wS=>Mem W wS gs) ex fuel (listed.setIfInBounds i true))):VV W w n D σ fs gs (qi P md ops Q (fun wS=>Mem W wS gs) ex (fuel+1) listed):=by
 subst hz
 exact VV.bin i h hx hy ht hQ rfl (Xh _ _ _) (by rw [show ((m:Int)- (p:Int))=((m-p:Nat):Int) by omega,ER hB hb.2]) K
theorem Vw (i:Nat) (k:Go.IntKind) {k0:Go.IntKind} (h:eZ ops σ n i=some (d,.convert t t2 x):=by exact rfl) (hx:look σ x=some (.int k0 (m:Int)):=by exact rfl) (hk:(yH P t t2==some k&&nA md ops ex listed i)=true:=by kernel_rfl) (hB:gV k=some B:=by exact rfl) (hb:m≤B:=by omega) (hQ:∀c (a:Act) v w,Q (.panic c) (a.put (some d) v) w→Q (.panic c) a w:=by exact fun _ _ _ _ h=>h)
 (K:VV W w n D ((d,.int k (m:Int))::σ) fs gs (qi P md ops Q (fun wS=>Mem W wS gs) ex fuel (listed.setIfInBounds i true))):VV W w n D σ fs gs (qi P md ops Q (fun wS=>Mem W wS gs) ex (fuel+1) listed):=by
 rw [Bool.and_eq_true,beq_iff_eq] at hk
 obtain ⟨hk,ht⟩:=hk
 refine VV.pu h ht hQ (fun o ho _=>Yl.pure (by
  rw [ho]
  unfold yH at hk
  split at hk
  ·rename_i q1 q2 h1 h2
   injection hk with hk
   subst hk
   simp only [rP,h1,h2,hx,ER hB hb]
  ·cases hk)) K
end
theorem VA (i:Nat) (m:rX fs gs) (cs:Array Value) {e:TypeId} (h:eZ ops σ n i=some (d,.alloc e):=by exact rfl) (hz:xu P e=some cs:=by kernel_rfl) (hr:Region.ready md ops listed=[i]:=by kernel_rfl)
 (k:∀w' g,VV W w' n D ((d,.pointer (some ⟨g,0,none⟩))::σ) (.blk g cs e::fs) gs (qi P md ops Q (fun wS=>Mem W wS gs) ex fuel (listed.setIfInBounds i true))):VV W w n D σ fs gs (qi P md ops Q (fun wS=>Mem W wS gs) ex (fuel+1) listed):=
 VV.rY h hr fun _ _ he hd hdn Z HM=>PW Z HM he hz hd hdn fun a w' g Z HM=>⟨fun _=>HM.AB (.f m),k w' g a Z HM (HM.AB (.f m))⟩
theorem VI (i:Nat) (m:rX fs gs) {f:FuncId} {xs:Array Operand} {ts:Array TypeId} {vs:List Value} (h0:eZ ops σ n i=some (d,.call {callee:= .value (.func f),args:=xs,argTypes:=ts}):=by exact rfl) (hv:looks σ xs.toList=some vs:=by exact rfl) (h:Mem W w fs→Calls P f vs.toArray w (fun r w'=>r= .returned v∧Below w.heap.size w w')) (hf:callable P f=true:=by kernel_rfl) (hr:Region.ready md ops listed=[i]:=by kernel_rfl)
 (k:∀w',Below w.heap.size w w'→VV W w' n D ((d,v)::σ) fs gs (qi P md ops Q (fun wS=>Mem W wS gs) ex fuel (listed.setIfInBounds i true))):VV W w n D σ fs gs (qi P md ops Q (fun wS=>Mem W wS gs) ex (fuel+1) listed):=
 VV.rY h0 hr fun _ _ he hd hdn Z HM=>Aj Z he hv hf hd hdn (h HM) fun _ w' ⟨h1,h2⟩=>⟨v,h1,fun a Z=>⟨fun _=>(HM.call h2).AB m,k w' h2 a Z (HM.call h2) ((HM.call h2).AB m)⟩⟩
theorem VK (i:Nat) (m:rX fs gs) {f:FuncId} {xs:Array Operand} {ts:Array TypeId} {vs:List Value} {V:Option Addr→Nat→Value} {l sz:Nat} {e:TypeId} {ys:List Value} (h0:eZ ops σ n i=some (d,.call {callee:= .value (.func f),args:=xs,argTypes:=ts}):=by exact rfl) (hv:looks σ xs.toList=some vs:=by exact rfl) (h:Mem W w fs→Calls P f vs.toArray w (fun r w'=>(∃A c,r= .returned (V A c)∧w'.ownsRow w.heap.size e sz (.slice A l c) l ys∧l≤c)∧Below w.heap.size w w')) (hf:callable P f=true:=by kernel_rfl) (hr:Region.ready md ops listed=[i]:=by kernel_rfl)
 (k:∀A c w',l≤c→VV W w' n D ((d,V A c)::σ) (.row (.slice A l c) l ys e sz::fs) gs (qi P md ops Q (fun wS=>Mem W wS gs) ex fuel (listed.setIfInBounds i true))):VV W w n D σ fs gs (qi P md ops Q (fun wS=>Mem W wS gs) ex (fuel+1) listed):=
 VV.rY h0 hr fun _ _ he hd hdn Z HM=>Aj Z he hv hf hd hdn (h HM) fun r w' ⟨⟨A,c,h1,h2,h3⟩,h4⟩=>⟨_,h1,fun a Z=>⟨fun _=>(HM.bN h4 h2).AB (.f m),k A c w' h3 a Z (HM.bN h4 h2) ((HM.bN h4 h2).AB (.f m))⟩⟩
end
def iD (x:Gr):List Value:=[.int .i64 x.parent,.int .i64 x.weight]
def kT (x:Tk):List Value:=[.int .i64 x.id,.int .i64 x.group,.int .i64 x.weight,.int .i64 x.cpu,.int .u64 (x.mask:Int),.bool x.ready,.int .u64 (x.v:Int),.int .u32 (x.r:Int)]
def kU (x:Sp):List Value:=[.int .u64 (x.v:Int),.int .u32 (x.r:Int),.int .u64 (x.floor:Int)]
def Gr.cells (x:Gr):Array Value:= #[.int .i64 x.parent,.int .i64 x.weight]
def Tk.cells (x:Tk):Array Value:= #[.int .i64 x.id,.int .i64 x.group,.int .i64 x.weight,.int .i64 x.cpu,.int .u64 (x.mask:Int),.bool x.ready,.int .u64 (x.v:Int),.int .u32 (x.r:Int)]
def Sp.cells (x:Sp):Array Value:= #[.int .u64 (x.v:Int),.int .u32 (x.r:Int),.int .u64 (x.floor:Int)]
theorem yS (x:Gr):(iD x).length=2:=rfl
theorem AY (x:Tk):(kT x).length=8:=rfl
theorem MW (x:Sp):(kU x).length=3:=rfl
theorem q6w (x:Gr):∀v∈x.cells.toList,v.oneCell'=true:=by simp [Gr.cells,Value.oneCell']
theorem Rf (x:Tk):∀v∈x.cells.toList,v.oneCell'=true:=by simp [Tk.cells,Value.oneCell']
theorem Yh (x:Sp):∀v∈x.cells.toList,v.oneCell'=true:=by simp [Sp.cells,Value.oneCell']
structure Rw where
 A:Option Addr
 c:Nat
 l:List Sp
def Rw.zero:Rw:=⟨none,0,[]⟩
def Rw.val (x:Rw):Value:= .slice x.A x.l.length x.c
def Rw.own (x:Rw):Own:=⟨x.A,x.l.length,x.c,x.l.flatMap kU⟩
structure eu where
 az:Int
 au:Nat
 gA:Option Addr
 gc:Nat
 gs:List Gr
 lA:Option Addr
 lc:Nat
 cl:List Int
 uA:Option Addr
 uc:Nat
 cu:List Int
 tA:Option Addr
 tc:Nat
 ts:List Tk
 sA:Option Addr
 sc:Nat
 rs:List Rw
def eu.aB (x:eu):jE:=⟨x.az,x.au,x.gs,x.cl,x.cu,x.ts,x.rs.map Rw.l⟩
def eu.cells (x:eu):Array Value:= #[.int .i64 x.az,.int .u64 (x.au:Int),.slice x.gA x.gs.length x.gc,.slice x.lA x.cl.length x.lc,.slice x.uA x.cu.length x.uc,.slice x.tA x.ts.length x.tc,.slice x.sA x.rs.length x.sc]
structure eB (w:World) (x:eu):Prop where
 g:Rd w w.heap.size 2 x.gA x.gs.length (x.gs.flatMap iD)
 l:Rd w w.heap.size 1 x.lA x.cl.length (x.cl.map bR)
 u:Rd w w.heap.size 1 x.uA x.cu.length (x.cu.map bR)
 t:Rd w w.heap.size 8 x.tA x.ts.length (x.ts.flatMap kT)
 s:Rd w w.heap.size 1 x.sA x.rs.length (x.rs.map Rw.val)
 r:∀y∈x.rs,Rd w w.heap.size 3 y.A y.l.length (y.l.flatMap kU)
structure eU (x:eu):Prop where
 g:x.gs.length≤x.gc
 l:x.cl.length≤x.lc
 u:x.cu.length≤x.uc
 t:x.ts.length≤x.tc
 s:x.rs.length≤x.sc
 r:∀y∈x.rs,y.l.length≤y.c
structure bX (x:eu):Prop where
 g:x.gs.length≤1000000
 l:x.cl.length≤1000000
 u:x.cu.length≤1000000
 t:x.ts.length≤1000000
 s:x.rs.length≤1000000
 r:∀y∈x.rs,y.l.length≤1000000
theorem eB.old {W w:World} {fs:List ag} {x:eu} (h:eB W x) (HM:Mem W w fs):eB w x:=⟨HM.old h.g,HM.old h.l,HM.old h.u,HM.old h.t,HM.old h.s,fun y hy=>HM.old (h.r y hy)⟩
theorem jw {x:eu} {g:Nat} (h:g<x.rs.length):x.aB.sp.getD g []=(x.rs.getD g Rw.zero).l:=by
 show (x.rs.map Rw.l).getD g []=_
 rw [List.getD_eq_getElem?_getD,List.getD_eq_getElem?_getD,List.getElem?_map,List.getElem?_eq_getElem h]
 rfl
theorem eB.row {w:World} {x:eu} (h:eB w x) {g:Nat} (hg:g<x.rs.length):Rd w w.heap.size 3 (x.rs.getD g Rw.zero).A (x.rs.getD g Rw.zero).l.length ((x.rs.getD g Rw.zero).l.flatMap kU):=h.r _ (qs Rw.zero hg)
theorem lG:SI Tryz.prog 166 2:=⟨by kernel_rfl,by kernel_rfl⟩
theorem fM:SI Tryz.prog 222 8:=⟨by kernel_rfl,by kernel_rfl⟩
theorem lH:SI Tryz.prog 169 3:=⟨by kernel_rfl,by kernel_rfl⟩
theorem Rh:SI Tryz.prog 46 3:=⟨by kernel_rfl,by kernel_rfl⟩
theorem ku:SI Tryz.prog 50 7:=⟨by kernel_rfl,by kernel_rfl⟩
theorem Yi:SI Tryz.prog 300 3:=⟨by kernel_rfl,by kernel_rfl⟩
theorem zr:SI Tryz.prog 52 8:=⟨by kernel_rfl,by kernel_rfl⟩
theorem lI:EI Tryz.prog 44 166 (.agg Gr.zero.cells) 2 16:=⟨by kernel_rfl,by kernel_rfl,rfl,by omega⟩
theorem AZ:EI Tryz.prog 47 222 (.agg Tk.zero.cells) 8 64:=⟨by kernel_rfl,by kernel_rfl,rfl,by omega⟩
theorem nL:EI Tryz.prog 129 169 (.agg Sp.zero.cells) 3 24:=⟨by kernel_rfl,by kernel_rfl,rfl,by omega⟩
theorem uM:EI Tryz.prog 48 129 (.slice none 0 0) 1 24:=⟨by kernel_rfl,by kernel_rfl,rfl,by omega⟩
section
variable {w w':World} {p q:Prop} [Decidable p] [Decidable q]
theorem MX (h:q↔p) (hb:Below w.heap.size w w'):Is w (.bool (decide p)) (.returned (.bool (decide q))) w':=⟨by rw [decide_eq_decide.2 h],hb⟩
theorem q6x (h:p) (hb:Below w.heap.size w w'):Is w (.bool (decide p)) (.returned (.bool true)) w':=⟨by rw [decide_eq_true h],hb⟩
theorem nM (h:¬p) (hb:Below w.heap.size w w'):Is w (.bool (decide p)) (.returned (.bool false)) w':=⟨by rw [decide_eq_false h],hb⟩
theorem bz {a b:Bool} (h:a=b) (hb:Below w.heap.size w w'):Is w (.bool b) (.returned (.bool a)) w':=h▸ ⟨rfl,hb⟩
end
theorem Rk {l:List Gr} (h:¬(1≤l.length∧l.length≤256∧l.getD 0 Gr.zero=⟨0,1⟩)):gI l=false:=by unfold gI;rw [decide_eq_false h,Bool.false_and]
theorem MZ {l:List Gr} {g:Nat} (hg:g<l.length) (h:qW l g=false):gI l=false:=by unfold gI;rw [AV hg h,Bool.and_false]
theorem qz3 {l:List Gr} (h:1≤l.length∧l.length≤256∧l.getD 0 Gr.zero=⟨0,1⟩) (hu:dA l.length (qW l)):gI l=true:=by unfold gI;rw [decide_eq_true h,hu.all];rfl
theorem qz4 (l:List Gr):qW l 0=true:=rfl
theorem M0 {l:List Gr} {g:Nat} (h0:0<g) (h:¬(0≤(l.getD g Gr.zero).parent∧(l.getD g Gr.zero).parent<g∧(1≤(l.getD g Gr.zero).weight∧(l.getD g Gr.zero).weight≤65536)∧iC l g≤4)):qW l g=false:=by
 unfold qW AX
 rw [Bool.or_eq_false_iff,beq_eq_false_iff_ne,decide_eq_false_iff_not,decide_eq_true_eq]
 exact ⟨by omega,h⟩
theorem q34 {l:List Gr} {g:Nat} (h:0≤(l.getD g Gr.zero).parent∧(l.getD g Gr.zero).parent<g∧(1≤(l.getD g Gr.zero).weight∧(l.getD g Gr.zero).weight≤65536)∧iC l g≤4):qW l g=true:=by
 unfold qW AX
 rw [Bool.or_eq_true,decide_eq_true_eq,decide_eq_true_eq]
 exact .inr h
theorem qwg {l:List Gr} {g:Nat} (hu:dA g (qW l)) (h:0≤(l.getD g Gr.zero).parent∧(l.getD g Gr.zero).parent<g):∀i,0<i→i≤g→jF l i:=fun i h0 hi=>by
 rcases Nat.lt_or_ge i g with h1|h1
 ·exact Yg (hu i h1) h0
 ·obtain rfl:i=g:=by omega
  exact h
theorem qz5 (x y:Gr):nE Tryz.prog 4 166 (.agg x.cells) (.agg y.cells)=some (decide (x=y)):=by
 have h:nE Tryz.prog 4 166 (.agg x.cells) (.agg y.cells)=some ((x.parent==y.parent)&& ((x.weight==y.weight)&&true)):=by kernel_rfl
 refine h.trans (congrArg some ?_)
 obtain ⟨a,b⟩:=x
 obtain ⟨c,d⟩:=y
 rw [Bool.eq_iff_iff]
 simp only [Bool.and_eq_true,beq_iff_eq,decide_eq_true_eq,Gr.mk.injEq,and_true]
theorem q35 {m n:Nat} (h:1≤n):(((m/2^ (n-1)/2:Nat):Int) !=(0:Int))=decide (2^n≤m):=by
 have e:m/2^ (n-1)/2=m/2^n:=by rw [Nat.div_div_eq_div_mul,←Nat.pow_succ,show (n-1).succ=n by omega]
 rw [e,Bool.eq_iff_iff,bne_iff_ne,decide_eq_true_eq]
 have h1:= @Nat.div_pos_iff m (2^n)
 have h2:0<2^n:=Nat.two_pow_pos n
 generalize m/2^n=q at*
 constructor
 ·intro h3
  exact (h1.1 om).2
 ·intro h3
  have:=h1.2 ⟨h2,h3⟩
  omega
section
variable {x:eu} {t:Tk}
theorem E8 (h:¬(1≤t.id∧t.id≤65535∧0≤t.group∧t.group<x.rs.length∧0≤t.cpu∧t.cpu<x.az)):dm x.aB t=false:=by
 unfold dm
 rw [decide_eq_false (by rwa [show x.aB.sp.length=x.rs.length from List.length_map ..]),Bool.false_and]
theorem q6y (h:¬(1≤t.weight∧t.weight≤65536)):dm x.aB t=false:=by unfold dm AX;rw [decide_eq_false h,Bool.false_and,Bool.and_false]
theorem q6z (h:2^x.az.toNat≤t.mask):dm x.aB t=false:=by
 unfold dm Rc
 rw [show decide (2^x.aB.az.toNat≤t.mask)=true from decide_eq_true h]
 simp
theorem q60 (h:¬t.mask/2^t.cpu.toNat%2=1):dm x.aB t=false:=by unfold dm;rw [decide_eq_false h];simp
theorem q61 (h:1≤t.id∧t.id≤65535∧0≤t.group∧t.group<x.rs.length∧0≤t.cpu∧t.cpu<x.az) (h2:1≤t.weight∧t.weight≤65536) (h3:¬2^x.az.toNat≤t.mask) (h4:t.mask/2^t.cpu.toNat%2=1):dm x.aB t=gu t.v t.r t.weight:=by
 unfold dm AX Rc
 rw [decide_eq_true (by rwa [show x.aB.sp.length=x.rs.length from List.length_map ..]),decide_eq_true h2,show decide (2^x.aB.az.toNat≤t.mask)=false from decide_eq_false h3,decide_eq_true h4]
 simp
theorem Rl (h:¬(1≤x.az∧x.az≤64∧x.au≤1099511627776)):fK x.aB=false:=by unfold fK;rw [show decide (1≤x.aB.az∧x.aB.az≤64∧x.aB.au≤1099511627776)=false from decide_eq_false h];rfl
theorem q36 (h:1≤x.az∧x.az≤64∧x.au≤1099511627776):fK x.aB=gI x.gs:=by unfold fK;rw [show decide (1≤x.aB.az∧x.aB.az≤64∧x.aB.au≤1099511627776)=true from decide_eq_true h];rfl
theorem Dc (h:fK x.aB=true):1≤x.az∧x.az≤64∧x.au≤1099511627776∧gI x.gs=true:=by
 unfold fK at h
 rw [Bool.and_eq_true,decide_eq_true_eq] at h
 exact ⟨h.1.1,h.1.2.1,h.1.2.2,h.2⟩
end
def uN (w:World) (n:Nat) (p:Nat→Bool) (r:Ending) (w':World):Prop:=(∃i:Int,r= .returned (.int .i64 i)∧decide (i≥0)= !d9 n p)∧Below w.heap.size w w'
theorem qs6 {w w':World} {n k:Nat} {p:Nat→Bool} (hk:k<n) (h:p k=false) (hb:Below w.heap.size w w'):uN w n p (.returned (.int .i64 (k:Int))) w':=⟨⟨k,rfl,by rw [AV hk h,decide_eq_true om];rfl⟩,hb⟩
theorem qs7 {w w':World} {n:Nat} {p:Nat→Bool} (hu:dA n p) (hb:Below w.heap.size w w'):uN w n p (.returned (.int .i64 (-1))) w':=⟨⟨-1,rfl,by rw [hu.all];rfl⟩,hb⟩
def Rm (w:World) (l:List Gr) (r:Ending) (w':World):Prop:=(∃i e:Int,r= .returned (.tuple #[.int .i64 i,.int .i64 e])∧((e==0)=gI l))∧Below w.heap.size w w'
theorem De {w w':World} {l:List Gr} {i e:Int} (h:gI l=false) (he:e≠0) (hb:Below w.heap.size w w'):Rm w l (.returned (.tuple #[.int .i64 i,.int .i64 e])) w':=⟨⟨i,e,rfl,by rw [h];exact beq_false_of_ne he⟩,hb⟩
theorem qpl {w w':World} {l:List Gr} {i:Int} (h:gI l=true) (hb:Below w.heap.size w w'):Rm w l (.returned (.tuple #[.int .i64 i,.int .i64 0])) w':=⟨⟨i,0,rfl,by rw [h];rfl⟩,hb⟩
section
variable {x:eu} {g c i:Nat}
theorem tC:x.aB.sp.length=x.rs.length:=List.length_map ..
theorem Rn:Re x.aB=decide ((x.cl.length:Int)=x.az∧(x.cu.length:Int)=x.az∧x.rs.length=x.gs.length):=by unfold Re;rw [tC];rfl
theorem q62 (h:fK x.aB=false):mG x.aB=false:=by unfold mG;rw [h];rfl
theorem Ro (h:¬((x.cl.length:Int)=x.az∧(x.cu.length:Int)=x.az∧x.rs.length=x.gs.length)):mG x.aB=false:=by unfold mG;rw [Rn,decide_eq_false h,Bool.and_false,Bool.false_and]
theorem Ip (h:d9 x.cl.length (fun c=>gJ (x.cl.getD c 0))=false):mG x.aB=false:=by unfold mG;rw [show d9 x.aB.cl.length (fun c=>gJ (x.aB.cl.getD c 0))=false from h];simp
theorem Ym (hg:g<x.rs.length) (h:rowOk x.aB g=false):mG x.aB=false:=by unfold mG;rw [AV (n:=x.aB.sp.length) (by rwa [tC]) h];simp
theorem Iq (hi:i<x.ts.length) (h:gy x.aB i=false):mG x.aB=false:=by unfold mG;rw [AV (n:=x.aB.ts.length) hi h];simp
theorem q63 (h1:fK x.aB=true) (h2:(x.cl.length:Int)=x.az∧(x.cu.length:Int)=x.az∧x.rs.length=x.gs.length) (h3:d9 x.cl.length (fun c=>gJ (x.cl.getD c 0))=true) (h4:dA x.rs.length (rowOk x.aB)) (h5:dA x.ts.length (gy x.aB)):mG x.aB=true:=by
 unfold mG
 rw [h1,Rn,decide_eq_true h2,show d9 x.aB.cl.length (fun c=>gJ (x.aB.cl.getD c 0))=true from h3,tC,h4.all,show d9 x.aB.ts.length (gy x.aB)=true from h5.all]
 rfl
structure ShAt (x:eu):Prop where
 Fa:fK x.aB=true
 cl:(x.cl.length:Int)=x.az
 cu:(x.cu.length:Int)=x.az
 rs:x.rs.length=x.gs.length
 cls:∀c,c<x.cl.length→gJ (x.cl.getD c 0)=true
 row:∀g,g<x.rs.length→rowOk x.aB g=true
 tk:∀i,i<x.ts.length→gy x.aB i=true
theorem Ba (h:mG x.aB=true):ShAt x:=by
 unfold mG at h
 simp only [Bool.and_eq_true] at h
 obtain ⟨⟨h1,h2⟩,h3,h4,h5⟩:=h
 rw [Rn,decide_eq_true_eq] at h2
 rw [tC] at h4
 exact ⟨h1,h2.1,h2.2.1,h2.2.2,fun c hc=>Db h3 hc,fun g hg=>Db h4 hg,fun i hi=>Db h5 hi⟩
theorem M3 (hg:g<x.rs.length):rowOk x.aB g=(decide (((x.rs.getD g Rw.zero).l.length:Int)=x.az)&&d9 (x.rs.getD g Rw.zero).l.length fun c=>fF x.aB g ((x.rs.getD g Rw.zero).l.getD c Sp.zero)):=by
 unfold rowOk jE.spot
 rw [jw hg]
 rfl
theorem q37 (hg:g<x.rs.length) (h:((x.rs.getD g Rw.zero).l.length:Int)≠x.az):rowOk x.aB g=false:=by rw [M3 hg,decide_eq_false h];rfl
theorem q38 (hg:g<x.rs.length) (hc:c<(x.rs.getD g Rw.zero).l.length) (h:fF x.aB g ((x.rs.getD g Rw.zero).l.getD c Sp.zero)=false):rowOk x.aB g=false:=by rw [M3 hg,AV hc h,Bool.and_false]
theorem q39 (hg:g<x.rs.length) (h:((x.rs.getD g Rw.zero).l.length:Int)=x.az) (hu:dA (x.rs.getD g Rw.zero).l.length (fun c=>fF x.aB g ((x.rs.getD g Rw.zero).l.getD c Sp.zero))):rowOk x.aB g=true:=by rw [M3 hg,decide_eq_true h,hu.all];rfl
theorem M4 (hg:g<x.rs.length) (h:rowOk x.aB g=true):((x.rs.getD g Rw.zero).l.length:Int)=x.az∧∀c,c<(x.rs.getD g Rw.zero).l.length→fF x.aB g ((x.rs.getD g Rw.zero).l.getD c Sp.zero)=true:=by
 rw [M3 hg,Bool.and_eq_true,decide_eq_true_eq] at h
 exact ⟨h.1,fun c hc=>Db h.2 hc⟩
variable {z:Sp}
theorem q64 (h:gu z.v z.r (x.gs.getD g Gr.zero).weight=false):fF x.aB g z=false:=by unfold fF;rw [show gu z.v z.r (x.aB.gs.getD g Gr.zero).weight=false from h];rfl
theorem q65 (h0:g=0) (h:¬(z.v=0∧z.r=0)):fF x.aB g z=false:=by unfold fF;rw [decide_eq_false h,h0];simp
theorem q4a (h:gu z.v z.r (x.gs.getD g Gr.zero).weight=true) (h0:g≠0):fF x.aB g z=true:=by unfold fF;rw [show gu z.v z.r (x.aB.gs.getD g Gr.zero).weight=true from h];simp [h0]
theorem q4b (h:gu z.v z.r (x.gs.getD g Gr.zero).weight=true) (h0:g=0) (hv:z.v=0):((z.r:Int) !=(0:Int))= !fF x.aB g z:=by
 unfold fF
 rw [show gu z.v z.r (x.aB.gs.getD g Gr.zero).weight=true from h,h0,hv]
 rw [Bool.eq_iff_iff,bne_iff_ne]
 simp
theorem Yn (h0:i=0∨(x.ts.getD (i-1) Tk.zero).id<(x.ts.getD i Tk.zero).id):gy x.aB i=dm x.aB (x.ts.getD i Tk.zero):=by
 unfold gy
 rw [show (i==0||decide ((x.aB.ts.getD (i-1) Tk.zero).id<(x.aB.ts.getD i Tk.zero).id))=true from by rw [Bool.or_eq_true,beq_iff_eq,decide_eq_true_eq];exact h0]
 rfl
theorem qz6 (h0:0<i) (h:¬(x.ts.getD (i-1) Tk.zero).id<(x.ts.getD i Tk.zero).id):gy x.aB i=false:=by
 unfold gy
 rw [show decide ((x.aB.ts.getD (i-1) Tk.zero).id<(x.aB.ts.getD i Tk.zero).id)=false from decide_eq_false h,show (i==0)=false from by rw [beq_eq_false_iff_ne];omega]
 rfl
theorem M5 (h:gy x.aB i=true):(i=0∨(x.ts.getD (i-1) Tk.zero).id<(x.ts.getD i Tk.zero).id)∧dm x.aB (x.ts.getD i Tk.zero)=true:=by
 unfold gy at h
 rw [Bool.and_eq_true,Bool.or_eq_true,beq_iff_eq,decide_eq_true_eq] at h
 exact h
end
theorem Bb {l:List Gr} (h:gI l=true) {g:Nat} (hg:g<l.length):1≤(l.getD g Gr.zero).weight∧(l.getD g Gr.zero).weight≤65536:=by
 obtain ⟨_,_,h3,h4⟩:=MV h
 rcases Nat.eq_zero_or_pos g with h0|h0
 ·subst h0;rw [h3];decide
 ·have:=h4 g hg
  unfold qW AX at this
  rw [Bool.or_eq_true,beq_iff_eq,decide_eq_true_eq,decide_eq_true_eq] at this
  rcases this with h|h
  ·omega
  ·exact h.2.2.1
def gL (a b:Int):Int:=if a<b then -1 else if b<a then 1 else 0
theorem Yr {a b:Int}:decide (gL a b<0)=decide (a<b):=by
 unfold gL
 split
 ·rename_i h;rw [decide_eq_true h];rfl
 ·rename_i h;rw [decide_eq_false h];split<;>rfl
theorem Yt {a b:Int}:(gL a b==0)=decide (a=b):=by
 unfold gL
 split
 ·rename_i h;rw [decide_eq_false om];rfl
 ·split
  ·rw [decide_eq_false om];rfl
  ·rw [decide_eq_true om];rfl
theorem q4c {a b:Int}:(gL a b !=0)=decide (a≠b):=by
 rw [bne,Yt,decide_not]
def lJ (l:List Tk):Prop:=∀i j,i<j→j<l.length→(l.getD i Tk.zero).id<(l.getD j Tk.zero).id
theorem q4d {x:eu} (h:ShAt x):lJ x.ts:=by
 have step:∀i,i+1<x.ts.length→(x.ts.getD i Tk.zero).id<(x.ts.getD (i+1) Tk.zero).id:=fun i hi=>by
  have:=(M5 (h.tk (i+1) hi)).1
  rw [Nat.add_sub_cancel] at this
  rcases this with h|h
  ·omega
  ·exact h
 intro i j hij
 induction j with
 |zero=>omega
 | succ j ih =>
  intro hj
  have h1:=step j hj
  rcases Nat.lt_or_ge i j with h2|h2
  ·have:=ih h2 om;omega
  ·obtain rfl:i=j:=by omega
   exact h1
theorem qwm {l:List Tk} {id:Int} {i:Nat} (hi:i<l.length) (h:(l.getD i Tk.zero).id=id) (hn:∀k,k<i→(l.getD k Tk.zero).id≠id):dU l id=some i:=by
 unfold dU
 rw [List.findIdx?_eq_some_iff_getElem]
 have e:∀k (hk:k<l.length),l.getD k Tk.zero=l[k]:=fun k hk=>by rw [List.getD_eq_getElem?_getD,List.getElem?_eq_getElem hk];rfl
 refine ⟨hi,by rw [←e i hi];exact beq_iff_eq.2 h,fun k hk=>?_⟩
 have:=hn k hk
 rw [e k om] at this
 simpa using this
theorem Yu {l:List Tk} {id:Int} (hn:∀k,k<l.length→(l.getD k Tk.zero).id≠id):dU l id=none:=by
 unfold dU
 rw [List.findIdx?_eq_none_iff]
 intro t ht
 obtain ⟨k,hk,rfl⟩:=List.getElem_of_mem ht
 have:=hn k hk
 rw [List.getD_eq_getElem?_getD,List.getElem?_eq_getElem hk] at this
 simpa using this
theorem Yv {l:List Tk} {id:Int} {i:Nat} (h:dU l id=some i):i<l.length∧(l.getD i Tk.zero).id=id:=by
 unfold dU at h
 rw [List.findIdx?_eq_some_iff_getElem] at h
 obtain ⟨hi,h1,_⟩:=h
 exact ⟨hi,by rw [List.getD_eq_getElem?_getD,List.getElem?_eq_getElem hi];exact beq_iff_eq.1 h1⟩
def jg (l:List Tk) (id:Int):Int:=match dU l id with
 |some i=>(i:Int)
 |none=> -1
def M7 (w:World) (l:List Tk) (id:Int) (r:Ending) (w':World):Prop:=(∃(i:Nat) (b:Bool),r= .returned (.tuple #[.int .i64 (i:Int),.bool b])∧i≤l.length∧(if b=true then (i:Int) else -1)=jg l id)∧Below w.heap.size w w'
theorem qwo {w w':World} {l:List Tk} {id:Int} {i:Nat} (hs:lJ l) (hi:i<l.length) (h1:∀k,k<i→(l.getD k Tk.zero).id<id) (h2:∀k,i≤k→k<l.length→id≤(l.getD k Tk.zero).id) (hb:Below w.heap.size w w'):M7 w l id (.returned (.tuple #[.int .i64 (i:Int),.bool (decide ((l.getD i Tk.zero).id=id))])) w':=by
 refine ⟨⟨i,_,rfl,by omega,?_⟩,hb⟩
 unfold jg
 by_cases h:(l.getD i Tk.zero).id=id
 ·rw [decide_eq_true h,if_pos rfl,qwm hi h (fun k hk=>by have:=h1 k hk;omega)]
 ·rw [decide_eq_false h,if_neg de,Yu (fun k hk=>?_)]
  rcases Nat.lt_or_ge k i with h3|h3
  ·have:=h1 k h3;omega
  ·have h4:=h2 i (Nat.le_refl _) hi
   rcases Nat.lt_or_ge i k with h5|h5
   ·have:=hs i k h5 hk;omega
   ·obtain rfl:k=i:=by omega
    exact h
theorem search_end {w w':World} {l:List Tk} {id:Int} (h1:∀k,k<l.length→(l.getD k Tk.zero).id<id) (hb:Below w.heap.size w w'):M7 w l id (.returned (.tuple #[.int .i64 (l.length:Int),.bool false])) w':=by
 refine ⟨⟨_,_,rfl,Nat.le_refl _,?_⟩,hb⟩
 unfold jg
 rw [if_neg de,Yu (fun k hk=>by have:=h1 k hk;omega)]
theorem Yw {x:eu} {c:Nat} (h0:x.cu.getD c 0≠0) {i:Nat} (hi:dU x.ts (x.cu.getD c 0)=some i):dV x.aB c=((x.ts.getD i Tk.zero).ready&&decide ((x.ts.getD i Tk.zero).cpu=c)):=by
 unfold dV
 rw [show dU x.aB.ts (x.aB.cu.getD c 0)=some i from hi,show decide (x.aB.cu.getD c 0=0)=false from decide_eq_false h0]
 rfl
theorem qs8 {x:eu} {c:Nat} (h0:x.cu.getD c 0≠0) (hi:dU x.ts (x.cu.getD c 0)=none):dV x.aB c=false:=by
 unfold dV
 rw [show dU x.aB.ts (x.aB.cu.getD c 0)=none from hi,show decide (x.aB.cu.getD c 0=0)=false from decide_eq_false h0]
 rfl
theorem qs9 {x:eu} {c:Nat} (h0:x.cu.getD c 0=0):dV x.aB c=true:=by
 unfold dV
 rw [show decide (x.aB.cu.getD c 0=0)=true from decide_eq_true h0]
 rfl
theorem Yx (l:List Tk) (id:Int):(jg l id= -1∧dU l id=none)∨∃i:Nat,jg l id=i∧dU l id=some i∧i<l.length∧(l.getD i Tk.zero).id=id:=by
 unfold jg
 cases h:dU l id with
 |none=>exact .inl ⟨rfl,rfl⟩
 |some i=>exact .inr ⟨i,rfl,rfl,Yv h⟩
def Mb.nums (m:Mb):List Nat:=[m.v,m.k,m.id]
def Mb.cells (m:Mb):Array Value:= #[.int .u64 (m.v:Int),.int .u64 (m.k:Int),.int .u64 (m.id:Int)]
def Mb.Ok (m:Mb):Prop:=m.v<18446744073709551616∧m.k<18446744073709551616∧m.id<18446744073709551616
theorem M8 (x:Mb):∀v∈x.cells.toList,v.oneCell'=true:=by simp [Mb.cells,Value.oneCell']
theorem qz7 {a b:Mb} {k:Nat} (hk:k<3) (he:∀i,i<k→a.nums.getD i 0=b.nums.getD i 0) (hn:a.nums.getD k 0≠b.nums.getD k 0):decide (gL (a.nums.getD k 0:Int) (b.nums.getD k 0:Int)<0)=a.lt b:=by
 rw [Yr]
 obtain ⟨a0,a1,a2⟩:=a
 obtain ⟨b0,b1,b2⟩:=b
 unfold Mb.lt
 rw [decide_eq_decide]
 dsimp only
 rcases k with _|_|_|k
 ·simp [Mb.nums] at hn⊢;omega
 ·have h0:=he 0 om
  simp [Mb.nums] at hn h0⊢;omega
 ·have h0:=he 0 om
  have h1:=he 1 om
  simp [Mb.nums] at hn h0 h1⊢;omega
 ·omega
theorem qz8 {a b:Mb} (he:∀i,i<3→a.nums.getD i 0=b.nums.getD i 0):a.lt b=false:=by
 obtain ⟨a0,a1,a2⟩:=a
 obtain ⟨b0,b1,b2⟩:=b
 have h0:=he 0 om
 have h1:=he 1 om
 have h2:=he 2 om
 simp [Mb.nums] at h0 h1 h2
 subst h0;subst h1;subst h2
 unfold Mb.lt
 rw [decide_eq_false_iff_not]
 simp
def uO (w:World) (a b:Mb) (r:Ending) (w':World):Prop:=(∃c:Int,r= .returned (.int .i64 c)∧decide (c<0)=a.lt b)∧Below w.heap.size w w'
theorem qta (b:Mb) (l:List Mb) (m:Mb):dn b (l++[m])=if m.lt (dn b l) then m else dn b l:=by unfold dn;rw [List.foldl_append];rfl
theorem Rq {α β:Type} {f:α→Option β} {l:List α} {k:Nat} (d:α) (hk:k<l.length):(l.take (k+1)).filterMap f=(l.take k).filterMap f++(f (l.getD k d)).toList:=by
 rw [takeSnoc' d hk,List.filterMap_append]
 congr 1
where
 takeSnoc' {α:Type} {l:List α} {k:Nat} (d:α) (hk:k<l.length):l.take (k+1)=l.take k++[l.getD k d]:=by
  rw [List.take_add_one,List.getElem?_eq_getElem hk,List.getD_eq_getElem?_getD,List.getElem?_eq_getElem hk]
  rfl
theorem qz9 {w w':World} {a b:Mb} {k:Nat} (hk:k<3) (he:∀i,i<k→a.nums.getD i 0=b.nums.getD i 0) (hn:a.nums.getD k 0≠b.nums.getD k 0) (hb:Below w.heap.size w w'):uO w a b (.returned (.int .i64 (gL (a.nums.getD k 0:Int) (b.nums.getD k 0:Int)))) w':=⟨⟨_,rfl,qz7 hk he hn⟩,hb⟩
theorem q0a {w w':World} {a b:Mb} (he:∀i,i<3→a.nums.getD i 0=b.nums.getD i 0) (hb:Below w.heap.size w w'):uO w a b (.returned (.int .i64 0)) w':=⟨⟨_,rfl,by rw [qz8 he];rfl⟩,hb⟩
theorem qpn {n g h:Nat} (h1:g+1≤h) (h2:h<n):((List.range n).drop (g+1)).getD (h- (g+1)) 0=h∧h- (g+1)<((List.range n).drop (g+1)).length:=by
 have hl:h- (g+1)<((List.range n).drop (g+1)).length:=by simp;omega
 refine ⟨?_,hl⟩
 rw [List.getD_eq_getElem?_getD,List.getElem?_eq_getElem hl,List.getElem_drop,List.getElem_range]
 show g+1+(h- (g+1))=h
 omega
theorem q0b {β:Type} {f:Nat→Option β} {n g h:Nat} (h1:g+1≤h) (h2:h<n):(((List.range n).drop (g+1)).take (h+1- (g+1))).filterMap f=(((List.range n).drop (g+1)).take (h- (g+1))).filterMap f++(f h).toList:=by
 obtain ⟨e,hl⟩:=qpn h1 h2
 have:=Rq (f:=f) 0 hl
 rw [e] at this
 rw [show h+1- (g+1)=h- (g+1)+1 by omega]
 exact this
theorem q4e {β:Type} {f:Nat→Option β} {n g:Nat}:(((List.range n).drop (g+1)).take (n- (g+1))).filterMap f=((List.range n).drop (g+1)).filterMap f:=by rw [List.take_of_length_le (by simp)]
section
variable {x:eu} {g c h:Nat} {m:Nat→List Mb}
theorem qwp (hp:(x.gs.getD h Gr.zero).parent≠g):kR x.aB c m g h=none:=if_neg (fun hh=>hp hh.1)
theorem qwq (hm:m h=[]):kR x.aB c m g h=none:=if_neg (fun hh=>hh.2 hm)
theorem q0c (hr:h<x.rs.length) (hp:(x.gs.getD h Gr.zero).parent=g) (hm:m h≠[]):kR x.aB c m g h=some ⟨((x.rs.getD h Rw.zero).l.getD c Sp.zero).v,1,h⟩:=by
 unfold kR
 rw [if_pos ⟨hp,hm⟩]
 unfold jE.spot
 rw [jw hr]
theorem Iu (h0:mG x.aB=false):oN x.aB=false:=by unfold oN;rw [h0];rfl
theorem Iw (hc:c<x.cu.length) (h:dV x.aB c=false):oN x.aB=false:=by unfold oN;rw [AV (n:=x.aB.cu.length) hc (by rw [h];rfl),Bool.and_false]
theorem Iy (hc:c<x.cu.length) (hg:g<x.rs.length) (h:jG x.aB g c=false):oN x.aB=false:=by
 unfold oN
 rw [AV (n:=x.aB.cu.length) hc (by rw [AV (n:=x.aB.sp.length) (p:=fun g=>jG x.aB g c) (i:=g) (by rwa [tC]) h,Bool.and_false]),Bool.and_false]
theorem Iz (h0:mG x.aB=true) (hu:dA x.cu.length fun c=>dV x.aB c&&d9 x.rs.length fun g=>jG x.aB g c):oN x.aB=true:=by
 unfold oN
 rw [h0,tC,show d9 x.aB.cu.length _=true from hu.all]
 rfl
theorem q4f (h:fG x.aB g c=[]):jG x.aB g c=true:=decide_eq_true (.inl h)
theorem q66 (h:fG x.aB g c≠[]):jG x.aB g c=decide ((dn gK (fG x.aB g c)).v≤(x.aB.spot g c).floor):=by
 unfold jG
 exact decide_eq_decide.2 ⟨fun hh=>hh.resolve_left h,.inr⟩
theorem q4g (hr:g<x.rs.length):x.aB.spot g c=(x.rs.getD g Rw.zero).l.getD c Sp.zero:=by unfold jE.spot;rw [jw hr]
end
section
variable {P:Program} {S:World→Prop} {σ:List (Nat×Value)} {o:Oper}
end
section
variable {P:Program} {Q:Exit→Act→World→Prop} {W:World} {a:Act} {w:World} {n d:Nat} {D:List Deferred} {σ:List (Nat×Value)} {fs:List ag} {o:Oper} {K:Act→World→Prop}
end
theorem q4i {l:List Gr} {g:Nat} (h:∀i,0<i→i≤g→jF l i):iC l g≤g:=by
 induction g using Nat.strongRecOn with
 | _ g ih =>
  rcases Nat.eq_zero_or_pos g with h0|h0
  ·subst h0;exact Nat.le_refl _
  ·have hg:=h g h0 (Nat.le_refl _)
   unfold jF at hg
   have:=ih (l.getD g Gr.zero).parent.toNat om (fun i h1 h2=>h i h1 om)
   rw [Yf h h0]
   omega
theorem qnx (x:Int) (w:World):Calls Tryz.prog 253 #[vI x] w (Is w (.bool (decide (1≤x∧x≤65536)))):=by
 refine (dM Tryz.func253 9) ?_
 refine (JP∘Jp 1∘Jr∘Jp 3) (Ji (fun hd5=>?_) fun hd5=>?_)
 ·
  exact (Jp 4∘aN∘Jj∘JZ∘bq) fun HM=>MX om HM.below
 exact (Jp 4∘aN∘Jj∘JZ∘bq) fun HM=>nM om HM.below
theorem qny (x:Int) (w:World):Calls Tryz.prog 223 #[vI x] w (Is w (.bool (decide (1≤x∧x≤65536)))):=by
 refine (dM Tryz.func223 9) ?_
 refine (JP∘Jp 1∘Jr∘Jp 3) (Ji (fun hd5=>?_) fun hd5=>?_)
 ·
  exact (Jp 4∘aN∘Jj∘JZ∘bq) fun HM=>MX om HM.below
 exact (Jp 4∘aN∘Jj∘JZ∘bq) fun HM=>nM om HM.below
theorem qnz (x:Int) (w:World):Calls Tryz.prog 224 #[vI x] w (Is w (.bool (decide (1≤x∧x≤65536)))):=by
 refine (dM Tryz.func224 9) ?_
 refine (JP∘Jp 1∘Jr∘Jp 3) (Ji (fun hd5=>?_) fun hd5=>?_)
 ·
  exact (Jp 4∘aN∘Jj∘JZ∘bq) fun HM=>MX om HM.below
 exact (Jp 4∘aN∘Jj∘JZ∘bq) fun HM=>nM om HM.below
theorem q4j (W w:World) (gg gl lp:Nat) (A:Option Addr) (c:Nat) (l:List Gr) (g:Nat) (Inv:Nat→List ag→Prop) (F0:List ag) (hr:Rd W W.heap.size 2 A l.length (l.flatMap iD)) (hn:l.length≤1000000) (hg:g<l.length) (hp:∀i,0<i→i≤g→jF l i)
    (hy:Yk Tryz.prog W lp (iC l g+1) Inv) (hI0:Inv 0 F0) (HM:Mem W w (.blk gg #[vI g] 3:: .blk gl #[.slice A l.length c] 44::F0)):
    Calls Tryz.prog 257 (.func (.yield lp) #[] #[]:: [vP gg 0,vP gl 0]).toArray w (Yj W (Inv (iC l g+1))):=by
 refine pz Tryz.func257 [.func (.yield lp) #[] #[],vP gg 0,vP gl 0] [(0,.func (.yield lp) #[] #[]),(1,vP gg 0),(2,vP gl 0)] fun a Z=>?_
 refine Jb Z HM ((JB) fun a Z HM=>?_)
 refine qj (fun mS aS wS=>∃(x:Nat) (i:Nat) (F:List ag),(Inv i F)∧(x≤g)∧(iC l x+i=iC l g)∧mS=0+x∧Fr aS 16 [] [(0,.func (.yield lp) #[] #[]),(1,vP gg 0),(2,vP gl 0)]∧Mem W wS (.blk gg #[vI x] 3:: .blk gl #[.slice A l.length c] 44::F)) (m:=0+g) ⟨g,0,F0,hI0,Nat.le_refl _,Nat.add_zero _,rfl,Z.sub kr,HM.pt 2 [0,1]⟩ ?_
 clear Z HM;rintro mS a w_ ⟨x,i,F,hI,hxg,hd,rfl,Z,HM⟩
 refine Jb Z HM ((JQ) fun a Z HM=>?_)
 refine wp_seq ?_
 refine Qw (i:=2) ?_
 refine Jb Z HM ((Jp 1∘Jc O0∘Jq) fun a Z HM=>?_)
 refine xz Z (i:=2) (vs:=[vI x]) rfl rfl rfl rfl rfl rfl de (hy i F [.blk gg #[vI x] 3,.blk gl #[.slice A l.length c] 44] _ (x:Int) hI om (Mem.rW (es:=F) HM)) zd ?_
 clear Z HM;rintro v jv a ⟨F2,HM,hv,hI2⟩ Z;injection hv with hv;subst hv
 replace HM:Mem W jv (.blk gg #[vI x] 3:: .blk gl #[.slice A l.length c] 44::F2):=Mem.rW (es:=[.blk gg #[vI x] 3,.blk gl #[.slice A l.length c] 44]) HM
 refine Jb Z HM ((Jp 1∘Jc O0∘Jp 2∘aN∘Jq) (Ju (fun j6=>?_) fun j6=>?_))
 ·
  intro a Z HM
  have mq:=of_decide_eq_true j6
  have hx0:0<x:=by omega
  obtain ⟨hp1,hp2⟩:=hp x hx0 hxg
  obtain ⟨y,hy2⟩:∃y:Nat,(l.getD x Gr.zero).parent=(y:Int):=⟨(l.getD x Gr.zero).parent.toNat,by omega⟩
  have Lt:=Yf (l:=l) (g:=x) (fun i h0 hi=>hp i h0 om) hx0
  rw [hy2,Int.toNat_natCast] at Lt
  refine Jb Z HM ((JT∘aI∘JB∘JR∘Jc O1∘Jc O0) ?_)
  repeat (first|clear Z|clear HM)
  intro a Z HM
  obtain ⟨gA,oA,rfl,_⟩:=hr.qp (Nat.lt_of_le_of_lt (Nat.zero_le _) (show x<l.length from by omega)) de
  refine Jb Z HM ((Jy (h:=by exact Yl.ix gA oA x 2 rfl rfl rfl)∘Jf 0∘Jy (v:=vI ((l.getD x Gr.zero).parent)) (h:=by exact Yl.ze rfl rfl kr (fun _ h=>(by have:=(h.old hr).partAt yS (k:=x) (j:=0) (x:=(l.getD x Gr.zero)) ((getD_at Gr.zero om)) rfl;simpa using this)))∘Jo (vI y) (by rw [hy2])∘JW bg bg) fun Ru=>(CE∘Jq) fun a Z HM=>?_)
  exact ⟨_,om,y,i+1,F2,hI2,by omega,by omega,rfl,Z.sub kr,HM.pt 2 [0,1]⟩
 intro a Z HM
 have mq:=of_decide_eq_false j6
 revert HM;revert a;repeat (first|clear Z|clear HM)
 intro a Z HM
 obtain rfl:x=0:=by omega
 have hd0:=qv7 l
 refine Jb Z HM ((JF∘JX) fun a Z HM=>?_)
 have hin:i+1=iC l g+1:=by omega
 rw [hin] at hI2
 exact iM rfl Z ⟨_,rfl,F2,Mem.EQ [.blk gg #[vI 0] 3,.blk gl #[.slice A l.length c] 44] HM,hI2⟩
theorem q67 (A:Option Addr) (n c:Nat) (g:Int) (w:World):
    Calls Tryz.prog 256 #[.slice A n c,vI g] w fun r w'=>∃gg gl,r= .returned (.func (.func 257) #[] #[vP gg 0,vP gl 0])∧Mem w w' [.blk gg #[vI g] 3,.blk gl #[.slice A n c] 44]:=by
 refine (lF Tryz.func256 6) ?_
 exact (JP∘CG) fun w2 g2=>(CG) fun w3 g3=>(Jp 1∘Jr∘Jy (h:=by exact Yl.makeFunc (fst:=[]) (aJ:=[vP g3 0,vP g2 0]) rfl rfl rfl)∘Jp 1∘aT∘Jj∘JZ∘bq) fun HM=>by exact ⟨_,_,rfl,HM.pk [0,1]⟩
theorem qwu (A:Option Addr) (c:Nat) (l:List Gr) (g:Nat) (w:World) (hr:Rd w w.heap.size 2 A l.length (l.flatMap iD)) (hn:l.length≤1000000) (hg:g<l.length) (hp:∀i,0<i→i≤g→jF l i):
    Calls Tryz.prog 254 #[.slice A l.length c,vI g] w (Is w (vI (iC l g:Int))):=by
 have Rv:=q4i hp
 refine Hl (vs:=[.slice A l.length c,vI g]) Tryz.func254 rfl rfl kr (σ0:=[(0,.slice A l.length c),(1,vI g)]) rfl ?_
 intro a Z
 have HM:=Mem.start w
 refine Jb Z HM ((JP∘Jp 1∘Jr∘JA #[vI 0]) fun w5 g5=>(JW bg bg) fun QV=>(Jj∘JQ∘JP∘Jp 2∘JL (h:=by exact fun HM=>q67 A l.length c (g:Int) _)) ?_)
 rintro HM _ w8 ⟨gg,gl,rfl,hm⟩
 refine ⟨_,rfl,_,HM.join hm,?_⟩
 refine (bK∘Jj∘JB) fun a Z HM=>?_
 refine Hg Z HM (fun F=>F=[.blk g5 #[vI (((iC l g+1):Int)-1)] 3]) (fun _ _=>False) rfl kr ?_ ?_ (fun _ _ _ _ _ h=>h.elim)
 ·
  clear Z HM;intro lp B rec w1 hrec HM
  have hy:Yk Tryz.prog w lp (iC l g+1) (fun i F=>F=(.obj lp (.loop (rec .ready none)):: .obj B (.deferred (some [])):: [.blk g5 #[vI ((i:Int)-1)] 3])):=by
   rintro i F fr w3 x rfl hi HM
   replace HM:Mem w _ (.obj lp (.loop (rec .ready none)):: .obj B (.deferred (some [])):: .blk g5 #[vI ((i:Int)-1)] 3::fr):=HM
   refine qnu (v1:=vI x) hrec HM de fun a Z=>?_
   refine wpIn_skip ?_
   refine ⟨(.obj B (.deferred (some [])):: .blk g5 #[vI ((i:Int)-1)] 3::fr),HM.pt (fs':=(.obj lp (.loop (rec .ready none)):: .obj B (.deferred (some [])):: .blk g5 #[vI ((i:Int)-1)] 3::fr)) 3 [0,1,2],fun w4 HM=>?_⟩
   refine wpIn_block ?_
   refine qr ?_
   refine Jb Z HM ((Jc O2∘Jp 1∘Jo (vI (((i+1:Nat):Int)-1)) (by have hdl:=Rv;exact (EL ⟨by omega,by omega⟩).trans (congrArg (Value.int .i64) om))∘JW fA bg) fun uK=>(AA∘Jq) fun a Z HM=>?_)
   refine ⟨(.obj B (.deferred (some [])):: .blk g5 #[vI (((i+1:Nat):Int)-1)] 3::fr),HM.pt (fs':=(.obj lp (.loop (rec .busy none)):: .obj B (.deferred (some [])):: .blk g5 #[vI (((i+1:Nat):Int)-1)] 3::fr)) 3 [0,1,2],fun w5 HM=>?_⟩
   exact ⟨(.obj lp (.loop (rec .ready none)):: .obj B (.deferred (some [])):: .blk g5 #[vI (((i+1:Nat):Int)-1)] 3:: []),HM,rfl,rfl⟩
  refine (q4j w w1 gg gl lp A c l g _ _ hr hn hg hp hy rfl (HM.pk [2,3,0,1,4])).mono ?_
  rintro r w2 ⟨v,rfl,F2,dh,rfl⟩
  exact ⟨v,rfl,.inl ⟨_,rfl,dh⟩⟩
 clear Z HM;rintro B a w6 _ rfl Z HM
 refine Jb Z HM ((JG∘JP∘Jc O1∘Jp 1∘aT∘Jj∘JZ) fun a Z HM=>?_)
 refine Cy Z HM (i:=0) rfl fun a w7 Z HM=>?_
 exact iO rfl Z rfl (⟨by congr 2;omega,HM.below⟩)
theorem qtb (A:Option Addr) (c:Nat) (l:List Gr) (hok:∀x∈l,x.Ok) (w:World) (hr:Rd w w.heap.size 2 A l.length (l.flatMap iD)) (hn:l.length≤1000000):
    Calls Tryz.prog 247 #[.slice A l.length c] w (Rm w l):=by
 refine (dM Tryz.func247 58) ?_
 refine (JP∘Jp 2∘Jj∘JQ∘JB∘JP∘Jp 1∘Jl∘Jp 2∘fC∘Jj) (Ji (fun hd5=>?_) fun hd5=>?_)
 ·
  exact (JT∘JP∘Jp 2∘Jj∘JZ∘dL) fun HM=>De (Rk om) de HM.below
 refine (JF∘JP∘Jp 1∘Jl∘Jp 2) (Ju (fun cB=>?_) fun cB=>?_)
 ·
  intro a Z HM
  have iE:=eq_of_beq cB
  exact Jb Z HM ((Jp 7∘aN∘Jj∘JT∘JP∘Jp 2∘Jj∘JZ∘dL) fun HM=>De (Rk om) de HM.below)
 intro a Z HM
 have iE:=ne_of_beq_false cB
 revert HM;revert a;repeat (first|clear Z|clear HM)
 intro a Z HM
 obtain ⟨gA,oA,rfl,_⟩:=hr.qp (Nat.lt_of_le_of_lt (Nat.zero_le _) (show 0<l.length from by omega)) de
 refine Jb Z HM ((Jp 1∘Jy (v:=vP gA oA) (h:=by exact Yl.indexAddr (ad:=⟨gA,oA,none⟩) (y:=0) (sz:=2) rfl rfl rfl om kr)∘Jy (v:= .agg ((l.getD 0 Gr.zero).cells)) (h:=by exact Yl.qm rfl rfl lG rfl (fun _ h=>(h.old hr).qQ yS ((getD_at Gr.zero om))))∘Jy (v:= .agg #[vI 0,vI 1]) (h:=by exact Yl.build (vs:=[(1,vI 1)]) rfl kr kr)∘Jy (v:= .bool (!(decide ((l.getD 0 Gr.zero)=⟨0,1⟩)))) (h:=by exact Yl.Xd rfl rfl rfl (qz5 (l.getD 0 Gr.zero) ⟨0,1⟩))∘Jp 2∘aN∘Jj) (Ju (fun dO=>?_) fun dO=>?_))
 ·
  intro a Z HM
  have yJ:=of_decide_eq_false ((Bool.not_eq_true' _).mp dO)
  exact Jb Z HM ((JT∘JP∘Jp 2∘Jj∘JZ∘dL) fun HM=>De (Rk (fun h=>by rw [h.2.2] at dO;simp at dO)) de HM.below)
 intro a Z HM
 have yJ:=of_decide_eq_true ((Bool.not_eq_false' _).mp dO)
 refine Jb Z HM ((JF∘aI∘JQ∘JP∘Jp 1∘Jj∘JB) fun a Z HM=>?_)
 refine qj (fun mS aS wS=>∃(g:Nat),(1≤g)∧(g≤l.length)∧(dA g (qW l))∧mS=l.length-g∧Fr aS 58 [] [(4,vI g),(9,.bool false),(5,.bool false),(3,vI 0),(2,vI 0),(0,.slice (some ⟨gA,oA,none⟩) l.length c)]∧Mem w wS []) (m:=l.length-1) ⟨1,Nat.le_refl _,by omega,dA.zero.succ (qz4 l),rfl,Z.sub kr,HM.pk []⟩ ?_
 clear Z HM;rintro mS a w_ ⟨g,hg1,hgl,hu,rfl,Z,HM⟩
 refine Jb Z HM ((JQ∘JP∘Jp 2∘Jl∘Jp 1∘fC∘Jj) (Ju (fun kv=>?_) fun kv=>?_))
 ·
  intro a Z HM
  have uT:=of_decide_eq_true kv
  have uU:g<l.length:=by omega
  have YE:=hok _ (qs Gr.zero uU)
  have hOp:=YE.parent
  unfold bC at hOp
  have hOw:=YE.weight
  unfold bC at hOw
  refine Jb Z HM ((JT∘aI∘JQ∘JB∘JB∘JP∘Jp 2∘Jy (h:=by exact Yl.ix gA oA g 2 rfl rfl rfl)∘Jf 0∘Jy (v:=vI ((l.getD g Gr.zero).parent)) (h:=by exact Yl.ze rfl rfl kr (fun _ h=>(by have:=(h.old hr).partAt yS (k:=g) (j:=0) (x:=(l.getD g Gr.zero)) ((getD_at Gr.zero om)) rfl;simpa using this)))∘Jp 2) (Ji (fun Df=>?_) fun Df=>?_))
  ·
   exact (Jv 9 [(26,.bool true)]∘aN∘Jj∘JT∘JP∘Jp 3∘Jj∘JZ∘dL) fun HM=>De (MZ uU (M0 om om)) de HM.below
  refine (Jp 2∘Jy (h:=by exact Yl.ix gA oA g 2 rfl rfl rfl)∘Jf 0∘Jy (v:=vI ((l.getD g Gr.zero).parent)) (h:=by exact Yl.ze rfl rfl kr (fun _ h=>(by have:=(h.old hr).partAt yS (k:=g) (j:=0) (x:=(l.getD g Gr.zero)) ((getD_at Gr.zero om)) rfl;simpa using this)))∘Jp 4∘aN∘Jj) (Ju (fun pO=>?_) fun pO=>?_)
  ·
   intro a Z HM
   have Dg:=of_decide_eq_true pO
   exact Jb Z HM ((JT∘JP∘Jp 3∘Jj∘JZ∘dL) fun HM=>De (MZ uU (M0 om om)) de HM.below)
  intro a Z HM
  have Dg:=of_decide_eq_false pO
  have Po:=qwg hu ⟨by omega,by omega⟩
  refine Jb Z HM ((JF∘JP∘Jp 2∘Jy (h:=by exact Yl.ix gA oA g 2 rfl rfl rfl)∘Jf 1∘Jy (v:=vI ((l.getD g Gr.zero).weight)) (h:=by exact Yl.ze rfl rfl kr (fun _ h=>(h.old hr).partAt yS (k:=g) (j:=1) (x:=(l.getD g Gr.zero)) ((getD_at Gr.zero om)) rfl))∘JL (h:=by exact fun HM=>qnx ((l.getD g Gr.zero).weight) _)) ?_)
  rintro HM _ Rx ⟨rfl,hbw⟩
  refine ⟨_,rfl,_,HM.call hbw,?_⟩
  refine (Jp 2∘aN∘Jj) (Ji' (fun Ry=>?_) fun Ry=>?_)
  ·
   exact (JT∘JP∘Jp 3∘Jj∘JZ∘dL) fun HM=>De (MZ uU (M0 om om)) de HM.below
  refine (JF∘JP∘Jp 2∘JI (h:=by exact fun HM=>qwu (some ⟨gA,oA,none⟩) c l g _ (HM.old hr) hn om Po)) fun w55 hbw=>(Jp 2∘gW∘Jj) (Ji (fun Rz=>?_) fun Rz=>?_)
  ·
   exact (JT∘JP∘Jp 3∘Jj∘JZ∘dL) fun HM=>De (MZ uU (M0 om om)) de HM.below
  refine (JF∘aI∘JR∘Jp 1∘dR 1∘Jp 1∘bK∘Jq) fun a Z HM=>?_
  exact ⟨_,om,g+1,by omega,by omega,hu.succ (q34 ⟨by omega,by omega,by omega,by omega⟩),rfl,Z.sub kr,HM.pk []⟩
 intro a Z HM
 have uT:=of_decide_eq_false kv
 exact Jb Z HM ((JF∘JX∘JG∘JP∘Jp 2∘Jj∘JZ∘dL) fun HM=>by exact qpl (qz3 ⟨by omega,by omega,by simpa using dO⟩ (fun i hi=>hu i om)) HM.below)
theorem qtc (A:Option Addr) (c:Nat) (l:List Gr) (hok:∀x∈l,x.Ok) (w:World) (hr:Rd w w.heap.size 2 A l.length (l.flatMap iD)) (hn:l.length≤1000000):
    Calls Tryz.prog 221 #[.slice A l.length c] w (Is w (.bool (gI l))):=by
 refine (dM Tryz.func221 12) ?_
 refine (JP∘Jp 1∘Jr∘Jp 1∘JL (h:=by exact fun HM=>qtb A c l hok _ (HM.old hr) hn)) ?_
 rintro HM _ w7 ⟨⟨i,e,rfl,he⟩,hbw⟩
 refine ⟨_,rfl,_,HM.call hbw,?_⟩
 exact (Jp 1∘Jx∘Jx∘Jp 2∘aN∘Jr∘Jp 3∘fC∘Jj∘JZ∘bq) fun HM=>bz he HM.below
theorem YF (v r:Nat) (wt:Int) (hv:v<18446744073709551616) (hr:r<4294967296) (hw:0≤wt∧wt<4294967296) (w:World):
    Calls Tryz.prog 177 #[.agg #[vQ v,vW r,vW wt]] w (Is w (.bool (gu v r wt))):=by
 obtain ⟨z,rfl⟩:∃z:Nat,wt=(z:Int):=⟨wt.toNat,by omega⟩
 refine (dM Tryz.func177 24) ?_
 refine (JP∘JE) fun w1 g1=>(Jp 1∘Jr∘Jg 2 O0∘Jw .i64∘JL (h:=by exact fun HM=>qny (z:Int) _)) ?_
 rintro HM _ w6 ⟨rfl,hbw⟩
 refine ⟨_,rfl,_,HM.call hbw,?_⟩
 refine (Jp 1) (Ji (fun hd7=>?_) fun hd7=>?_)
 ·
  refine (Jg 1 O0∘Jg 2 O0∘Jp 3) (Ji (fun Dh=>?_) fun Dh=>?_)
  ·
   refine (Jg 0 O0∘Jp 2) (Ji (fun iw=>?_) fun iw=>?_)
   ·
    exact (Jp 6∘aN∘Jj∘JZ∘bq) fun HM=>q6x om HM.below
   exact (Jg 1 O0∘Jp 4∘aN∘Jj∘JZ∘bq) fun HM=>MX om HM.below
  exact (Jv 10 [(2,.bool false)]∘aN∘Jj∘JZ∘bq) fun HM=>nM om HM.below
 exact (Jv 17 [(2,.bool false)]∘gW∘Jj∘JZ∘bq) fun HM=>nM om HM.below
theorem YG (v r:Nat) (wt:Int) (hw:0≤wt∧wt<4294967296) (w:World):
    Calls Tryz.prog 178 #[vQ v,vW r,vI wt] w (Is w (.agg #[vQ v,vW r,vW wt])):=by
 obtain ⟨z,rfl⟩:∃z:Nat,wt=(z:Int):=⟨wt.toNat,by omega⟩
 refine (MB Tryz.func178 12) ?_
 refine (JP∘JA #[vQ 0,vW 0,vW 0]) fun w6 g6=>(Jr∘Jp 3∘Jv 1 [(10,vW (IntKind.u32.wrap (z:Int)))]∘Jo (vW z) (by exact Mq rfl om)∘Jy (v:= .agg #[vQ v,vW r,vW z]) (h:=by exact Yl.build (vs:=[(0,vQ v),(1,vW r),(2,vW z)]) rfl kr kr)∘JV Yi bg) fun Ru=>(CE∘Jj∘JZ) fun a Z HM=>?_
 exact uy rfl Z (.cellS (i:=0) Z HM rfl rfl Yi rfl) (⟨rfl,HM.below⟩)
theorem q0f (m n:Nat) (hm:m<18446744073709551616) (hn:1≤n∧n≤64) (w:World):
    Calls Tryz.prog 225 #[vQ m,vI n] w (Is w (.bool (decide (2^n≤m)))):=by
 refine (lF Tryz.func225 11) ?_
 exact (JP∘Jp 1∘Jr∘Jp 2∘CF 1∘Jy (v:=vQ (m/2^ (n-1):Nat)) (h:=by exact Yl.Im (m:=m) (n:=(n-1)) rfl rfl rfl (by show _≤64;omega))∘Jp 1∘Jo (vQ ((m/2^ (n-1))/2:Nat)) (by exact yz .u64 (m/2^ (n-1)) (j:=1) (q:=2) rfl rfl)∘Jp 2∘aN∘Jj∘JZ∘bq) fun HM=>bz (q35 hn.1) HM.below
theorem YH (x : eu) (t : Tk) (hok : t.Ok) (hx : 1 ≤ x.az ∧ x.az ≤ 64) (hf : x.rs.length ≤ 1000000) (w : World) :
    Calls Tryz.prog 179 #[.agg x.cells,.agg t.cells] w (Is w (.bool (dm x.aB t))):=by
 obtain ⟨n,hn⟩:∃n:Nat,x.az=(n:Int):=⟨x.az.toNat,by omega⟩
 have RA:1≤n∧n≤64:=by omega
 have hv:=hok.v
 have hr:=hok.r
 have hi:=hok.id
 have hg:=hok.group
 have hc:=hok.cpu
 have hw:=hok.weight
 have hm:=hok.mask
 unfold bC at hi hg hc hw
 refine (lF Tryz.func179 72) ?_
 refine (JP∘JE) fun w2 g2=>(JE) fun w3 g3=>(Jp 1∘Jr∘Jg 0 O0∘Jp 2) (Ji (fun uG=>?_) fun uG=>?_)
 ·
  refine (Jg 0 O0∘Jp 3) (Ji (fun iE=>?_) fun iE=>?_)
  ·
   refine (Jg 1 O0∘Jp 3) (Ji (fun iw=>?_) fun iw=>?_)
   ·
    refine (Jg 1 O0∘Jg 6 O1∘Jl∘Jp 3) (Ji (fun Dg=>?_) fun Dg=>?_)
    ·
     refine (Jg 3 O0∘Jp 3) (Ji (fun hd31=>?_) fun hd31=>?_)
     ·
      refine (Jg 3 O0∘Jf 0∘Jg 0 O1∘Jp 3) (Ju (fun nN=>?_) fun nN=>?_)
      ·
       intro a Z HM
       have hd39:=of_decide_eq_true nN
       obtain ⟨k,hk⟩:∃k:Nat,t.cpu=(k:Int):=⟨t.cpu.toNat,by omega⟩
       refine Jb Z HM ((Jg 2 O0∘JL (h:=by exact fun HM=>qnz t.weight _)) ?_)
       rintro HM _ Na ⟨rfl,hbw⟩
       refine ⟨_,rfl,_,HM.call hbw,?_⟩
       refine (Jp 2) (Ji (fun Di=>?_) fun Di=>?_)
       ·
        refine (Jg 4 O0∘Jf 0∘Jf 0∘Jc O1∘Jo (vI n) (by rw [hn])∘JI (h:=by exact fun HM=>q0f t.mask n hok.mask RA _)) fun MH hbw=>(Jp 3) (Ju (fun uV=>?_) fun uV=>?_)
        ·
         intro a Z HM
         have RB:=of_decide_eq_false ((Bool.not_eq_true' _).mp uV)
         have hsh:=Nat.div_le_self t.mask (2^k)
         refine Jb Z HM ((Jg 4 O0∘Jf 3∘Jc O0∘Jo (vI k) (by rw [hk])∘Jy (v:=vQ (t.mask/2^k:Nat)) (h:=by exact Yl.Im (m:=t.mask) (n:=k) rfl rfl rfl (by show _≤64;omega))∘Jp 1∘Jo (vQ ((t.mask/2^k)%2:Nat)) (by exact qze (n:=1) (j:=1) rfl de om)∘Jp 3) (Je (fun RD=>?_) fun RD=>?_))
         ·
          refine (Jg 6 O0∘Jg 7 O0∘Jg 2 O0∘JI (h:=by exact fun HM=>YG t.v t.r t.weight om _)) fun w69 hbw=>(JI (h:=by exact fun HM=>YF t.v t.r t.weight om om om _)) fun w70 hbw=>(Jp 2∘aN∘Jq) fun a Z HM=>?_
          replace Z:=Z.to [(4,.bool (gu t.v t.r t.weight))]
          exact Jb Z HM ((JG∘JZ∘bq) fun HM=>bz (q61 om om (by rw [hn,Int.toNat_natCast];simpa using uV) (by rw [hk,Int.toNat_natCast];omega)).symm HM.below)
         refine (Jv 10 [(4,.bool false)]∘aN∘Jq) fun a Z HM=>?_
         replace Z:=Z.to [(4,.bool false)]
         exact Jb Z HM ((JG∘JZ∘bq) fun HM=>bz (q60 (by rw [hk,Int.toNat_natCast];omega)).symm HM.below)
        intro a Z HM
        have RB:=of_decide_eq_true ((Bool.not_eq_false' _).mp uV)
        exact Jb Z HM ((Jv 19 [(4,.bool false)]∘aN∘Jj∘JZ∘bq) fun HM=>bz (q6z (by rw [hn,Int.toNat_natCast];simpa using uV)).symm HM.below)
       exact (Jv 28 [(4,.bool false)]∘aN∘Jj∘JZ∘bq) fun HM=>bz (q6y om).symm HM.below
      intro a Z HM
      have hd39:=of_decide_eq_false nN
      exact Jb Z HM ((Jv 33 [(4,.bool false)]∘aN∘Jj∘JZ∘bq) fun HM=>bz (E8 om).symm HM.below)
     exact (Jv 41 [(4,.bool false)]∘aN∘Jj∘JZ∘bq) fun HM=>bz (E8 om).symm HM.below
    exact (Jv 46 [(4,.bool false)]∘aN∘Jj∘JZ∘bq) fun HM=>bz (E8 om).symm HM.below
   exact (Jv 54 [(4,.bool false)]∘aN∘Jj∘JZ∘bq) fun HM=>bz (E8 om).symm HM.below
  exact (Jv 59 [(4,.bool false)]∘aN∘Jj∘JZ∘bq) fun HM=>bz (E8 om).symm HM.below
 exact (Jv 64 [(4,.bool false)]∘fC∘Jj∘JZ∘bq) fun HM=>bz (E8 om).symm HM.below
theorem qi8 (x:eu) (hok:x.aB.Ok) (hf:bX x) (w:World) (hx:eB w x):
    Calls Tryz.prog 174 #[.agg #[vI x.az,vQ (x.au:Int),.slice x.gA x.gs.length x.gc]] w (Is w (.bool (fK x.aB))):=by
 have hc:=hok.az
 have hcr:=hok.au
 replace hc:bC x.az:=hc
 replace hcr:x.au<18446744073709551616:=hcr
 unfold bC at hc
 refine (dM Tryz.func174 21) ?_
 refine (JP∘JE) fun w1 g1=>(Jp 1∘Jr∘Jg 0 O0∘Jp 2) (Ji (fun hd6=>?_) fun hd6=>?_)
 ·
  refine (Jg 0 O0∘Jp 3) (Ji (fun uW=>?_) fun uW=>?_)
  ·
   refine (Jg 1 O0∘Jp 3) (Ju (fun iF=>?_) fun iF=>?_)
   ·
    intro a Z HM
    have jf:=of_decide_eq_true iF
    exact Jb Z HM ((Jg 2 O0∘JI (h:=by exact fun HM=>qtc x.gA x.gc x.gs hok.gs _ (HM.old hx.g) hf.g)) fun Dj hbw=>(Jp 2∘aN∘Jj∘JZ∘bq) fun HM=>bz (q36 om).symm HM.below)
   intro a Z HM
   have jf:=of_decide_eq_false iF
   exact Jb Z HM ((Jp 5∘aN∘Jj∘JZ∘bq) fun HM=>bz (Rl om).symm HM.below)
  exact (Jv 10 [(2,.bool false)]∘aN∘Jj∘JZ∘bq) fun HM=>bz (Rl om).symm HM.below
 exact (Jv 15 [(2,.bool false)]∘fC∘Jj∘JZ∘bq) fun HM=>bz (Rl om).symm HM.below
theorem qwv (t:Int) (w:World):Calls Tryz.prog 176 #[vI t] w (Is w (.bool (!gJ t))):=by
 refine (dM Tryz.func176 9) ?_
 refine (JP∘Jp 1∘Jr∘Jp 3) (Ji (fun hd5=>?_) fun hd5=>?_)
 ·
  exact (Jp 4∘aN∘Jj∘JZ∘bq) fun HM=>bz (by first|(unfold gJ;rw [decide_eq_false om];rfl)|(unfold gJ;rw [←decide_not];exact decide_eq_decide.2 om)) HM.below
 exact (Jp 4∘aN∘Jj∘JZ∘bq) fun HM=>bz (by first|(unfold gJ;rw [decide_eq_false om];rfl)|(unfold gJ;rw [←decide_not];exact decide_eq_decide.2 om)) HM.below
theorem qps (A:Option Addr) (c:Nat) (l:List Int) (w:World) (hr:Rd w w.heap.size 1 A l.length (l.map bR)) (hn:l.length≤1000000):
    Calls Tryz.prog 222 #[.slice A l.length c,.func (.func 176) #[] #[]] w (uN w l.length (fun c=>gJ (l.getD c 0))):=by
 refine (lF Tryz.func222 19) ?_
 refine (JP∘Jp 1∘Jj∘JQ∘JP∘Jp 1∘Jl∘Jp 1∘Jj∘JB) fun a Z HM=>?_
 refine qj (fun mS aS wS=>∃(k:Nat),(k≤l.length)∧(dA k (fun c=>gJ (l.getD c 0)))∧mS=l.length-k∧Fr aS 19 [] [(8,vI k),(7,vI l.length),(4,vI 0),(0,.slice A l.length c),(1,.func (.func 176) #[] #[])]∧Mem w wS []) (m:=l.length-0) ⟨0,Nat.zero_le _,dA.zero,rfl,Z.sub kr,HM.pk []⟩ ?_
 clear Z HM;rintro mS a w_ ⟨k,hk,hu,rfl,Z,HM⟩
 refine Jb Z HM ((JP∘Jp 1∘Jj∘JQ) (Ju (fun dO=>?_) fun dO=>?_))
 ·
  intro a Z HM
  have yJ:=of_decide_eq_true dO
  have Nb:k<l.length:=by omega
  refine Jb Z HM ((JT∘aI∘JQ∘JB∘JP∘Jp 2∘aT∘Jr∘Jp 3) ?_)
  repeat (first|clear Z|clear HM)
  intro a Z HM
  obtain ⟨gA,oA,rfl,_⟩:=hr.qp (Nat.lt_of_le_of_lt (Nat.zero_le _) (show k<l.length from by omega)) de
  refine Jb Z HM ((Jy (h:=by exact Yl.ix gA oA k 1 rfl rfl rfl)∘Jy (h:=by exact Yl.o1 hr k 0 om rfl rfl)) fun a Z HM=>?_)
  refine fo Z 5 rfl rfl ?_
  refine zg Z (f:=176) (vs:=[vI (l.getD k 0)]) (fst:=[]) (aJ:=[]) rfl rfl rfl kr rfl de (qwv (l.getD k 0) _) ?_
  rintro _ w16 ⟨rfl,hbw⟩
  refine ⟨_,rfl,?_⟩
  replace HM:=HM.call hbw
  clear Z;intro a Z
  refine Jb Z HM ((qR∘Jj) (Ju (fun iF=>?_) fun iF=>?_))
  ·
   exact (JT∘JP∘Jp 2∘aT∘Jj∘JZ∘bq) fun HM=>qs6 Nb (by simpa using iF) HM.below
  refine (JF∘aI∘JR∘dR 1∘Jp 1∘aT∘Jq) fun a Z HM=>?_
  exact ⟨_,om,k+1,by omega,hu.succ (by simpa using iF),rfl,Z.sub kr,HM.pk []⟩
 intro a Z HM
 have yJ:=of_decide_eq_false dO
 exact Jb Z HM ((JF∘JX∘JG∘JP∘Jp 1∘Jj∘JZ∘bq) fun HM=>qs7 (fun i hi=>hu i om) HM.below)
theorem qjz (A:Option Addr) (c:Nat) (l:List Int) (w:World) (hr:Rd w w.heap.size 1 A l.length (l.map bR)) (hn:l.length≤1000000):
    Calls Tryz.prog 175 #[.slice A l.length c,.func (.func 176) #[] #[]] w (Is w (.bool (!d9 l.length (fun c=>gJ (l.getD c 0))))):=by
 refine (lF Tryz.func175 9) ?_
 refine (JP∘Jp 1∘Jr∘Jp 2∘JL (h:=by exact fun HM=>qps A c l _ (HM.old hr) hn)) ?_
 rintro HM _ w7 ⟨⟨i,rfl,he⟩,hbw⟩
 refine ⟨_,rfl,_,HM.call hbw,?_⟩
 exact (Jp 2∘gW∘Jj∘JZ∘bq) fun HM=>bz he HM.below
end Go.Proofs.YtieeckeaijdaeaaGreatDoor
