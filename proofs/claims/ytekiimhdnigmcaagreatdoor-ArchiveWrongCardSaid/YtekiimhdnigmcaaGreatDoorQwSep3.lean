/- A part of the proof. -/
import Derived.Test.YtekiimhdnigmcaaGreatDoorQwSep2
set_option linter.all false
namespace Go.Proofs.YtekiimhdnigmcaaGreatDoor
open Go.RowKit
open Bool renaming and_eq_true→abC,not_eq_true'→adI
open _root_.List renaming mem_cons→abQ,drop_eq_getElem_cons→acu,all_eq_true→acH,lookup_cons→acR,any_eq_true→aee
open Region renaming ready→acG,Mode→adS,noSelect_spec→aer,binds→aeE,free_spec→aeK,noSelect→agh,free→agH
open Addr renaming add_mid→acT
open _root_.Array renaming getElem?_eq_some_iff→adz,getElem_toList→adV,setIfInBounds_comm→aff
open Code renaming region→ael
open Instr renaming sureAddr→afm,loadAt→agI
variable {t:TypeId} {l:Array Bool} {ex:List Nat} {p:Prop} {x:Operand} {m:Nat} {k:IntKind}
def qh (P:Program) (ops:Array Oper) (Q:Exit→Act→World→Prop) (i:Nat) (a:Act) (w:World):Prop:=wpList P ops Q (ops.toList.drop i) a w
def Yl (P:Program) (S:World→Prop) (σ:List (Nat×Value)) (o:Oper) (v:Value):Prop:=∀(a:Act) (n:Nat) (D:List Deferred),Fr a n D σ→∀w,S w→(execOp a.eval o).run P w= .ok (.value v) w
section
variable {P:Program} {ops:Array Oper} {Q:Exit→Act→World→Prop} {a:Act} {w:World} {n i j d fuel:Nat} {D:List Deferred} {σ σ':List (Nat×Value)} {o:Oper} {v:Value} {md:Region.Mode} {S:World→Prop} {K:Act→World→Prop} {listed:Array Bool}
theorem zx {id:Nat} (h:qh P ops Q 0 a w):(ael id ops false).wp P Q a w:=wp_region_list (by simpa [qh] using h)
def xE (hi:ops.size=i) (h:Q .normal a w):qh P ops Q i a w:=by
 unfold qh
 rw [List.drop_of_length_le (by simp [hi])]
 exact h
def EB (Z:Fr a n D σ) (b:ops[i]?=some o) (c:dH ops σ o=some true) (h:o.wp P a w (qh P ops Q (i+1)) Q):qh P ops Q i a w:=by
 obtain ⟨e,f⟩:=adz.1 b
 unfold qh
 rw [acu (by simpa using e),adV,f]
 unfold wpList
 rw [if_pos (C9 Z c)]
 exact .inl h
def q1m (Z:Fr a n D σ) (e:ops[i]?=some o) (f:dH ops σ o=some false) (g:o.dst=some d) (b:d<n) (k:∀c,Fr c n D ((d,undef)::σ)→qh P ops Q (i+1) c w):qh P ops Q i a w:=by
 obtain ⟨h,l⟩:=adz.1 e
 unfold qh
 rw [acu (by simpa using h),adV,l]
 unfold wpList
 rw [if_neg (by rw [C9 Z f];simp),g]
 exact k _ (Z.put b _)
theorem Yl.wp (hy:Yl P S σ o v) (Z:Fr a n D σ) (e:S w) (f:o.dst=some d) (b:d<n) (k:∀c,Fr c n D ((d,v)::σ)→K c w):o.wp P a w K Q:=by
 unfold Oper.wp
 rw [hy a n D Z w e,Oper.upon_value,f]
 exact k _ (Z.put b _)
def Ki (Z:Fr a n D σ) (e:S w) (f:ops[i]?=some o) (g:dH ops σ o=some true) (h:o.dst=some d) (b:d<n) (hy:Yl P S σ o v) (k:∀c,Fr c n D ((d,v)::σ)→qh P ops Q (i+1) c w):qh P ops Q i a w:=
 EB Z f g (hy.wp Z e h b k)
theorem Yl.pure (h:rY P σ o.op=some v):Yl P S σ o v:=λ_ _ _ Z w _=>UQ Z h w
def qc6 (P:Program) (ops:Array Oper) (n i:Nat) (σ:List (Nat×Value)):Option (List (Nat×Value)):=
 match ops[i]? with
 |none=>none
 | some o => match dH ops σ o, o.dst with
  |some true,some d=>if d<n then match rY P σ o.op with
   |some v=>some ((d,v)::σ)
   |none=>none else none
  |some false,some d=>if d<n then some ((d,undef)::σ) else none
  |_,_=>none
def wJ (P:Program) (ops:Array Oper) (n:Nat):Nat→Nat→List (Nat×Value)→Option (List (Nat×Value))
 |0,_,σ=>some σ
 |m+1,i,σ=>match qc6 P ops n i σ with
  |none=>none
  |some σ'=>wJ P ops n m (i+1) σ'
def Nt:∀(m i:Nat) {j:Nat} {a:Act} {σ:List (Nat×Value)},Fr a n D σ→wJ P ops n m i σ=some σ'→i+m=j→(∀f,Fr f n D σ'→qh P ops Q j f w)→qh P ops Q i a w
 |0,i,j,a,σ,Z,h,q,k=>by
  injection h with h
  subst h
  have e:i=j:=q
  subst e
  exact k a Z
 | m + 1, i, j, a, σ, Z, h, q, k => by
  unfold wJ at h
  split at h
  ·cases h
  ·rename_i σ1 h1
   have b:=λf g=>Nt m (i+1) (a:=f) (σ:=σ1) g h om k
   unfold qc6 at h1
   split at h1
   ·cases h1
   ·rename_i o r
    split at h1
    ·rename_i d l p
     split at h1
     ·rename_i c
      split at h1
      ·rename_i v s
       injection h1 with h1
       subst h1
       exact Ki (S:=λ_=>True) Z trivial r l p c (Yl.pure s) b
      ·cases h1
     ·cases h1
    ·rename_i d l p
     split at h1
     ·rename_i c
      injection h1 with h1
      subst h1
      exact q1m Z r l p c b
     ·cases h1
    ·cases h1
theorem Fr.sp {v:Value} (h:Fr a n D σ) (t:Nat) (u:Value) (c:σ.lookup t=some v) (e:v=u):Fr a n D ((t,u)::σ):=by
 subst e
 refine ⟨h.size,h.defers,λs x b=>?_⟩
 rw [acR] at b
 split at b
 ·rename_i hs
  rw [beq_iff_eq] at hs
  subst hs
  injection b with b
  subst b
  exact h.slot _ _ c
 ·exact h.slot _ _ b
theorem Fr.to (h:Fr a n D σ) (σ':List (Nat×Value)) (hs:σ'.map (λp=>σ.lookup p.1)=σ'.map (λp=>some p.2):=by kernel_rfl):Fr a n D σ':=h.sub hs
def Fr.on {b c:Bool} (h:Fr a n D σ) (t:Nat) (hb:b=c) (f:σ.lookup t=some (.bool b):=by rfl):Fr a n D ((t,.bool c)::σ):=by
 subst hb
 refine ⟨h.size,h.defers,λs x e=>?_⟩
 rw [acR] at e
 split at e
 ·rename_i hs
  rw [beq_iff_eq] at hs
  subst hs
  injection e with e
  subst e
  exact h.slot _ _ f
 ·exact h.slot _ _ e
def Fr.tf {b:Bool} (h:Fr a n D σ) (t:Nat) (c:σ.lookup t=some (.bool b)):(b=true∧Fr a n D ((t,.bool true)::σ))∨(b=false∧Fr a n D ((t,.bool false)::σ)):=by
 cases b
 ·exact .inr ⟨rfl,h.on t rfl c⟩
 ·exact .inl ⟨rfl,h.on t rfl c⟩
def UW {i:Nat} {s:List (Nat×Value)} (h:qc6 P ops n i σ=some s):∃p,s=p::σ:=by
 unfold qc6 at h
 split at h
 ·cases h
 ·split at h
  ·split at h
   ·split at h
    ·injection h with h;exact ⟨_,h.symm⟩
    ·cases h
   ·cases h
  ·split at h
   ·injection h with h;exact ⟨_,h.symm⟩
   ·cases h
  ·cases h
def UY:∀(m i:Nat) {σ s:List (Nat×Value)},wJ P ops n m i σ=some s→∃full,s=full++σ
 |0,_,σ,s,h=>by injection h with h;exact ⟨[],h.symm⟩
 | m + 1, i, σ, s, h => by
  cases h1:qc6 P ops n i σ with
  |none=>rw [wJ,h1] at h;cases h
  |some s1=>
   rw [wJ,h1] at h
   obtain ⟨p,rfl⟩:=UW h1
   obtain ⟨full,b⟩:=UY m (i+1) h
   exact ⟨full++[p],by rw [b];simp⟩
def thin (s σ new:List (Nat×Value)):Bool:=(s.take (s.length-σ.length)).all λp=>(new.any λq=>q.1==p.1)|| !(σ.any λq=>q.1==p.1)
theorem EC {t:Nat}:∀{l m:List (Nat×Value)},(l++m).lookup t=match l.lookup t with|some v=>some v|none=>m.lookup t
 |[],m=>rfl
 |q::l,m=>by
  rw [List.cons_append,acR,acR]
  split
  ·rfl
  ·exact EC
theorem ED {t:Nat} {v:Value}:∀{l:List (Nat×Value)},l.lookup t=some v→(l.any λq=>q.1==t)=true
 |[],h=>by cases h
 | q :: l, h => by
  rw [acR] at h
  split at h
  ·rename_i b
   rw [beq_iff_eq] at b
   simp [b]
  ·simp only [List.any_cons,Bool.or_eq_true]
   exact .inr (ED h)
def Kj {t:Nat} {l:List (Nat×Value)} (h:(l.any λq=>q.1==t)=true):∃p∈l,p.1=t:=by
 rw [aee] at h
 obtain ⟨p,h1,h2⟩:=h
 exact ⟨p,h1,by simpa using h2⟩
theorem Fr.thin {s full new:List (Nat×Value)} (h:Fr a n D s) (hs:s=full++σ) (ht:Go.Proofs.YtekiimhdnigmcaaGreatDoor.thin s σ new=true) (x:new.map (λp=>s.lookup p.1)=new.map (λp=>some p.2)):Fr a n D (new++σ):=by
 have h1:=h.sub x
 refine ⟨h.size,h.defers,λt v b=>?_⟩
 rw [EC] at b
 cases hl:new.lookup t with
 |some u=>
  rw [hl] at b
  injection b with b
  subst b
  exact h1.slot t u hl
 | none =>
  rw [hl] at b
  have b:σ.lookup t=some v:=b
  refine h.slot t v ?_
  rw [hs,EC]
  cases hf:full.lookup t with
  |none=>exact b
  | some u =>
   exfalso
   unfold Go.Proofs.YtekiimhdnigmcaaGreatDoor.thin at ht
   have c:s.take (s.length-σ.length)=full:=by rw [hs,List.length_append,Nat.add_sub_cancel];exact List.take_left
   rw [c,acH] at ht
   obtain ⟨p,e,f⟩:=Kj (ED hf)
   have:=ht p e
   rw [f,ED b] at this
   simp only [Bool.not_true,Bool.or_false] at this
   obtain ⟨q,g,k⟩:=Kj this
   have h3:new.lookup t≠none:=by
    intro h4
    have h5:∀(l:List (Nat×Value)),q∈l→l.lookup t≠none:=by
     intro l
     induction l with
     |nil=>intro h6;cases h6
     | cons r l y =>
      intro h6
      rw [acR]
      split
      ·simp
      ·rename_i m
       rcases abQ.1 h6 with rfl|h6
       ·exfalso;rw [k] at m;simp at m
       ·exact y h6
    exact h5 new g h4
   exact h3 hl
def fp (Z:Fr a n D σ) (m i:Nat) (new:List (Nat×Value)) (k:∀b,Fr b n D (new++σ)→qh P ops Q (i+m) b w) (h:(wJ P ops n m i σ).map (λs=>(thin s σ new,new.map λp=>s.lookup p.1))=some (true,new.map λp=>some p.2):=by kernel_rfl):qh P ops Q i a w:=by
 cases hs:wJ P ops n m i σ with
 |none=>rw [hs] at h;cases h
 |some s=>
  rw [hs] at h
  injection h with h
  injection h with h1 h2
  obtain ⟨full,e⟩:=UY m i hs
  exact Nt m i Z hs rfl λb c=>k b (c.thin e h1 h2)
def fo (Z:Fr a n D σ) (i:Nat) (b:ops[i]?=some o) (c:dH ops σ o=some true) (h:o.wp P a w (qh P ops Q (i+1)) Q):qh P ops Q i a w:=EB Z b c h
def fy {W:World} {fs:List Fact} (Z:Fr a n D σ) (f:Mem W w fs) (i:Nat) (g:ops[i]?=some o) (h:dH ops σ o=some true) (l:o.dst=some d) (hy:Yl P (λb=>Mem W b fs) σ o v) (k:∀e,Fr e n D ((d,v)::σ)→qh P ops Q (i+1) e w) (c:d<n:=by decide):qh P ops Q i a w:=
 Ki (S:=λb=>Mem W b fs) Z f g h l c hy k
def dI (ex:List Nat) (listed:Array Bool):Bool:=ex.any λj=>listed.getD j false
def qj (P:Program) (md:adS) (ops:Array Oper) (Q:Exit→Act→World→Prop) (S:World→Prop) (ex:List Nat):Nat→Array Bool→Act→World→Prop
 |0,listed,a,w=>acG md ops listed=[]∧Q .normal a w
 |fuel+1,listed,a,w=>
  (acG md ops listed=[]→Q .normal a w)∧
  ∀i∈acG md ops listed,wpOp P ops Q i (λc b=>(dI ex (listed.setIfInBounds i true)=false→S b)∧qj P md ops Q S ex fuel (listed.setIfInBounds i true) c b) a w
theorem Nu:∀(fuel:Nat) (listed:Array Bool) (a:Act) (w:World),qj P md ops Q S ex fuel listed a w→wpAny P md ops Q fuel listed a w
 |0,_,_,_,h=>h
 |fuel+1,_,_,_,h=>⟨h.1,λi hi=>wpOp_mono (λb c e=>Nu fuel _ b c e.2) (h.2 i hi)⟩
def AV (md:adS) (ops:Array Oper) (ex:List Nat) (i:Nat):Bool:=ex.all λj=>match ops[j]? with
 |some o=>o.after.any λe=>aeE md e&&e.on==i
 |none=>true
theorem UZ {i:Nat} (h:ex.contains i=false):dI ex (l.setIfInBounds i true)=dI ex l:=by
 unfold dI
 rw [Bool.eq_iff_iff,aee,aee]
 have c:∀j∈ex,i≠j:=λj b e=>by
  subst e
  have:ex.contains i=true:=by simpa using b
  rw [h] at this;cases this
 constructor
 ·rintro ⟨j,b,f⟩;exact ⟨j,b,by rwa [getD_set_ne false (c j b)] at f⟩
 ·rintro ⟨j,b,f⟩;exact ⟨j,b,by rwa [getD_set_ne false (c j b)]⟩
def Nv {i:Nat} (h:dI ex (l.setIfInBounds i true)=false):dI ex l=false:=by
 cases hp:dI ex l with
 |false=>rfl
 |true=>
  unfold dI at h hp
  obtain ⟨j,b,c⟩:=aee.1 hp
  rw [List.any_eq_false] at h
  exact absurd (getD_set_true (i:=i) c) (h j b)
def Nw {t:Oper} {T:World→Prop} (hi:ops[i]?=some t) (q:∀(j:Nat) (o:Oper) y b,ops[j]?=some o→o.op≠ .select y b)
  (X:∀c (a:Act) w,Q (.panic c) (a.put t.dst v) w→Q (.panic c) a w) (z:ex.contains i=false):
  ∀(fuel:Nat) (listed:Array Bool) (a:Act) (w:World),((∀w,T w)∨(T=S∧AV md ops ex i=true∧dI ex listed=false))→
   (∀j u,ops[j]?=some u→j≠i→listed.getD j true=false→(∀e∈u.after,aeE md e=true→e.on≠i)→t.apart ops u=true)→
   i∈acG md ops listed→YieldsIf P ops T t v a→(dI ex listed=false→S w)→
   qj P md ops Q S ex fuel (listed.setIfInBounds i true) (a.put t.dst v) w→qj P md ops Q S ex (fuel+1) listed a w:=by
 intro fuel
 induction fuel with
 | zero =>
  intro listed a w I _ x J A H
  have M:T w:=by rcases I with h|⟨h,_,l⟩<;>first|exact h w|(rw [h];exact A l)
  refine ⟨λh=>(by rw [h] at x;cases x),λj L=>?_⟩
  by_cases f:j=i
  ·subst f;exact J.wpOp hi M ⟨λl=>A (Nv l),H⟩
  ·have:=ready_mono L f
   rw [H.1] at this
   cases this
 | succ fuel Y =>
  intro listed a w I g x J A H
  have M:T w:=by rcases I with h|⟨h,_,l⟩<;>first|exact h w|(rw [h];exact A l)
  refine ⟨λh=>(by rw [h] at x;cases x),λj L=>?_⟩
  by_cases f:j=i
  ·subst f;exact J.wpOp hi M ⟨λl=>A (Nv l),H⟩
  ·have h1:=H.2 j (ready_mono L f)
   obtain ⟨r,u,m,B⟩:=mem_ready.1 L
   have s:∀e∈u.after,aeE md e=true→e.on≠i:=λe N C heq=>by
    have h1:=B e N C
    have h0:=(mem_ready.1 x).1
    rw [heq] at h1
    rcases Nat.lt_or_ge i listed.size with O|O
    ·simp [O] at h0 h1;rw [h0] at h1;cases h1
    ·simp [Array.getElem?_eq_none O] at h1
   have R:(∀w,T w)∨(T=S∧AV md ops ex i=true∧dI ex (listed.setIfInBounds j true)=false):=by
    rcases I with h|⟨h,h2,h3⟩
    ·exact .inl h
    ·refine .inr ⟨h,h2,?_⟩
     rw [UZ ?_]
     ·exact h3
     ·cases hc:ex.contains j with
      |false=>rfl
      |true=>
       have hm:j∈ex:=by simpa using hc
       have h2:=acH.1 h2 j hm
       rw [m] at h2
       obtain ⟨e,N,C⟩:=Array.any_eq_true'.1 h2
       rw [abC,beq_iff_eq] at C
       exact absurd C.2 (s e N C.1)
   have h2:=wpOp_putIf m (g j u m f r s) (λy b=>q i t y b hi) (λy b=>q j u y b m) X J h1
   have p:∀k ok,ops[k]?=some ok→k≠i→(listed.setIfInBounds j true).getD k true=false→
     (∀e∈ok.after,aeE md e=true→e.on≠i)→t.apart ops ok=true:=λk ok Z U E V=>by
    refine g k ok Z U ?_ V
    by_cases F:j=k
    ·subst F;exact r
    ·rw [getD_set_ne true F] at E;exact E
   refine wpOp_mono (λa' W h3=>?_) h2
   have G:dI ex (listed.setIfInBounds j true)=false→S W:=λl=>h3.2.1 (by rw [aff _ _ (Ne.symm f),UZ z];exact l)
   refine ⟨G,Y (listed.setIfInBounds j true) a' W R p (ready_mono x (Ne.symm f)) h3.1 G ?_⟩
   rw [aff _ _ f]
   exact h3.2.2
section
variable {ex:List Nat}
def U0 {id:Nat} (hm:P.follows .mixedOrders=true) (S:World→Prop) (ex:List Nat) (h:qj P .any ops Q S ex ops.size (Array.replicate ops.size false) a w.drew):(ael id ops true).wp P Q a w:=
 wp_region_any hm (Nu _ _ _ _ h)
def EF {id:Nat} {W:World} {fs:List Fact} (c:Mem W w fs) (fs':List Fact) (b ex:List Nat) (h:Mem W w.drew fs→Mem W w.drew fs'→qj P .any ops Q (λe=>Mem W e fs') ex ops.size (Array.replicate ops.size false) a w.drew)
  (hm:P.follows .mixedOrders=true:=by kernel_rfl) (f:b.Nodup:=by decide) (g:picks fs b=fs':=by rfl):(ael id ops true).wp P Q a w:=
 U0 hm _ ex (h c.drew (c.drew.picks b f g))
def rZ (md:adS) (ops:Array Oper) (ex:List Nat) (listed:Array Bool) (i:Nat):Bool:=
 agh ops&& (agH md ops listed i&& ((acG md ops listed).contains i&& (!ex.contains i&& (AV md ops ex i&& !dI ex listed))))
def oG (md:adS) (ops:Array Oper) (ex:List Nat) (listed:Array Bool) (i:Nat):Bool:=
 agh ops&& (agH md ops listed i&& ((acG md ops listed).contains i&& !ex.contains i))
def Dc (Z:Fr a n D σ) (l:S w) (g:ops[i]?=some o) (e:dH ops σ o=some true) (m:o.dst=some d) (f:d<n) (b:rZ md ops ex listed i=true) (p:∀c (a:Act) w,Q (.panic c) (a.put o.dst v) w→Q (.panic c) a w) (hy:Yl P S σ o v)
  (k:∀h,Fr h n D ((d,v)::σ)→qj P md ops Q S ex fuel (listed.setIfInBounds i true) h w):qj P md ops Q S ex (fuel+1) listed a w:=by
 simp only [rZ,abC,adI] at b
 obtain ⟨h1,h2,h3,h4,h5,h6⟩:=b
 exact Nw (T:=S) g (aer h1) p h4 fuel listed a w (.inr ⟨rfl,h5,h6⟩) (aeK g h2) (by simpa using h3) (.inl ⟨C9 Z e,λw e=>hy a n D Z w e⟩) (λ_=>l) (by rw [m];exact k _ (Z.put f _))
def r9 (Z:Fr a n D σ) (h:dI ex listed=false→S w) (f:ops[i]?=some o) (l:dH ops σ o=some true) (m:o.dst=some d) (e:d<n) (b:oG md ops ex listed i=true) (p:∀c (a:Act) w,Q (.panic c) (a.put o.dst v) w→Q (.panic c) a w) (hy:∀q,Yl P q σ o v)
  (k:∀g,Fr g n D ((d,v)::σ)→qj P md ops Q S ex fuel (listed.setIfInBounds i true) g w):qj P md ops Q S ex (fuel+1) listed a w:=by
 simp only [oG,abC,adI] at b
 obtain ⟨h1,h2,h3,h4⟩:=b
 exact Nw (T:=λ_=>True) f (aer h1) p h4 fuel listed a w (.inl λ_=>trivial) (aeK f h2) (by simpa using h3) (.inl ⟨C9 Z l,λw _=>hy (λ_=>True) a n D Z w trivial⟩) h (by rw [m];exact k _ (Z.put e _))
def q70 (Z:Fr a n D σ) (h:dI ex listed=false→S w) (f:ops[i]?=some o) (l:dH ops σ o=some false) (m:o.dst=some d) (e:d<n) (b:oG md ops ex listed i=true) (p:∀c (a:Act) w,Q (.panic c) (a.put o.dst undef) w→Q (.panic c) a w)
  (k:∀g,Fr g n D ((d,undef)::σ)→qj P md ops Q S ex fuel (listed.setIfInBounds i true) g w):qj P md ops Q S ex (fuel+1) listed a w:=by
 simp only [oG,abC,adI] at b
 obtain ⟨h1,h2,h3,h4⟩:=b
 exact Nw (T:=λ_=>True) f (aer h1) p h4 fuel listed a w (.inl λ_=>trivial) (aeK f h2) (by simpa using h3) (.inr ⟨C9 Z l,rfl⟩) h (by rw [m];exact k _ (Z.put e _))
def xG (P:Program) (md:adS) (ops:Array Oper) (n:Nat) (ex:List Nat):List Nat→Array Bool→List (Nat×Value)→Option (Array Bool×List (Nat×Value))
 |[],l,σ=>some (l,σ)
 | i :: b, l, σ => if oG md ops ex l i then match qc6 P ops n i σ with
   |some σ'=>xG P md ops n ex b (l.setIfInBounds i true) σ'
   |none=>none
  else none
def Kk {b : Array Bool} (m : ∀ c (a : Act) d v w, Q (.panic c) (a.put d v) w → Q (.panic c) a w) :
  ∀(g:List Nat) {a:Act} {σ:List (Nat×Value)} {listed:Array Bool},Fr a n D σ→(dI ex listed=false→S w)→xG P md ops n ex g listed σ=some (b,σ')→(∀l,Fr l n D σ'→qj P md ops Q S ex fuel b l w)→qj P md ops Q S ex (fuel+g.length) listed a w
 |[],a,σ,listed,Z,_,h,k=>by
  injection h with h
  injection h with h1 h2
  subst h1;subst h2
  exact k a Z
 | i :: g, a, σ, listed, Z, p, h, k => by
  unfold xG at h
  split at h
  ·rename_i hc
   split at h
   ·rename_i σ1 h1
    have e:=λl q=>Kk m g (a:=l) (σ:=σ1) q (λu=>p (Nv u)) h k
    unfold qc6 at h1
    split at h1
    ·cases h1
    ·rename_i o t
     split at h1
     ·rename_i d r s
      split at h1
      ·rename_i f
       split at h1
       ·rename_i v x
        injection h1 with h1
        subst h1
        exact r9 Z p t r s f hc (λc a w=>m c a _ _ w) (λ_=>Yl.pure x) e
       ·cases h1
      ·cases h1
     ·rename_i d r s
      split at h1
      ·rename_i f
       injection h1 with h1
       subst h1
       exact q70 Z p t r s f hc (λc a w=>m c a _ _ w) e
      ·cases h1
     ·cases h1
   ·cases h
  ·cases h
def Ny:∀(b:List Nat) {l c:Array Bool} {σ s:List (Nat×Value)},xG P md ops n ex b l σ=some (c,s)→∃full,s=full++σ
 |[],_,_,σ,s,h=>by injection h with h;injection h with _ h;exact ⟨[],h.symm⟩
 | i :: b, l, c, σ, s, h => by
  unfold xG at h
  split at h
  ·split at h
   ·rename_i s1 h1
    obtain ⟨p,rfl⟩:=UW h1
    obtain ⟨full,e⟩:=Ny b h
    exact ⟨full++[p],by rw [e];simp⟩
   ·cases h
  ·cases h
def ap (Z:Fr a n D σ) (l:dI ex listed=false→S w) (e:List Nat) (b:Array Bool) (new:List (Nat×Value)) (k:∀f,Fr f n D (new++σ)→qj P md ops Q S ex fuel b f w)
  (m:∀c (a:Act) d v w,Q (.panic c) (a.put d v) w→Q (.panic c) a w:=by intro _ _ d _ _ h;cases d<;>exact h) (h:(xG P md ops n ex e listed σ).map (λr=>(r.1,thin r.2 σ new,new.map λp=>r.2.lookup p.1))=some (b,true,new.map λp=>some p.2):=by kernel_rfl):qj P md ops Q S ex (fuel+e.length) listed a w:=by
 cases hs:xG P md ops n ex e listed σ with
 |none=>rw [hs] at h;cases h
 |some r=>
  obtain ⟨t,s⟩:=r
  rw [hs] at h
  injection h with h
  injection h with h0 h1
  injection h1 with h1 h2
  simp only at h0
  subst h0
  obtain ⟨full,q⟩:=Ny e hs
  exact Kk m e Z l hs λf g=>k f (g.thin q h1 h2)
def qd (hr:acG md ops listed=[]) (h:Q .normal a w):qj P md ops Q S ex fuel listed a w:=by
 cases fuel with
 |zero=>exact ⟨hr,h⟩
 |succ f=>exact ⟨λ_=>h,by rw [hr];simp⟩
theorem all_nil {X:Nat→Prop}:∀i∈([]:List Nat),X i:=λ_ h=>by cases h
theorem all_cons {X:Nat→Prop} {r:List Nat} (h:X i) (t:∀i∈r,X i):∀j∈i::r,X j:=λj b=>by
 rcases abQ.1 b with rfl|b
 ·exact h
 ·exact t j b
def zd (rs:List Nat) (hr:acG md ops listed=rs) (b:rs.isEmpty=false) (h:∀i∈rs,wpOp P ops Q i (λf c=>(dI ex (listed.setIfInBounds i true)=false→S c)∧qj P md ops Q S ex fuel (listed.setIfInBounds i true) f c) a w):qj P md ops Q S ex (fuel+1) listed a w:=
 ⟨λe=>(by rw [hr] at e;subst e;cases b),hr▸h⟩
def EG {f:Nat} (J:Act→World→Prop) (h:∀a w,J a w→qj P md ops Q S ex f l a w) (k:(∀a w,J a w→qj P md ops Q S ex f l a w)→qj P md ops Q S ex fuel listed a w):qj P md ops Q S ex fuel listed a w:=k h
def bO (h:dI ex l=true):dI ex l=false→p:=λe=>by rw [h] at e;cases e
def ay {c X:Prop} (h:p) (k:p→X):(c→p)∧X:=⟨λ_=>h,k h⟩
def dM {X:Prop} (h:dI ex l=true) (k:X):(dI ex l=false→p)∧X:=⟨λe=>(by rw [h] at e;cases e),k⟩
def qt (Z:Fr a n D σ) (b:ops[i]?=some o) (c:dH ops σ o=some true) (h:o.wp P a w K Q):wpOp P ops Q i K a w:=by
 unfold wpOp
 rw [b]
 simp only [C9 Z c,if_true]
 exact .inl h
end
def gu (P:Program) (t:TypeId):Bool:=match P.underlying t with
 |some (.struct _)=>false
 |some (.array _ _)=>false
 |some _=>true
 |none=>false
def AX (P:Program) (t:TypeId):Option Nat:=match P.underlying t with
 |some (.slice e)=>(P.info? e).map (·.size)
 |_=>none
theorem Kl (h:gu P t=true) (w:World):(isAgg t).run P w= .ok false w:=by
 unfold gu at h
 cases hu:P.underlying t with
 |none=>rw [hu] at h;cases h
 |some d=>rw [hu] at h;simp only [isAgg,Sem.run_bind,run_underlying hu,Result.andThen_ok];cases d<;>first|rfl|cases h
theorem Pd {p:Addr} (b:o.op= .load t x) (c:look σ x=some (.pointer (some p))) (ht:gu P t=true) (hc:∀w,S w→w.cell? p=some v):Yl P S σ o v:=λa n D Z w e=>by
 unfold execOp
 simp [b,Z.eval c,agI,afm,loadVar,Kl ht,load,Sem.run,hc w e]
theorem Pe {b off:Nat} {C:Array Value} (c:o.op= .load t x) (f:look σ x=some (.pointer (some ⟨b,off,none⟩))) (e:SI P t m) (hm:C.size=m) (hc:∀w,S w→w.rangeAt b off C.toList):Yl P S σ o (.agg C):=λa n D Z w g=>by
 obtain ⟨h,k,l⟩:=e.desc
 have p:=run_loadVar_mid (P:=P) w b off t C.toList h (hc w g) k l (by rw [e.size,←hm];simp)
 unfold execOp
 simp [c,Z.eval f,agI,afm,p]
theorem Yl.indexAddr {ix:Operand} {ad:Addr} {c y sz:Nat} (f:o.op= .indexAddr t x ix) (h:look σ x=some (.slice (some ad) m c)) (hi:look σ ix=some (.int k (y:Int))) (hy:y<m) (b:AX P t=some sz):Yl P S σ o (.pointer (some (ad.add (y*sz)))):=λa n D Z w p=>by
 unfold AX at b
 split at b
 ·rename_i e l
  obtain ⟨i,g,rfl⟩:=Option.map_eq_some_iff.1 b
  unfold execOp
  have h1:¬m≤y:=by omega
  simp [f,Z.eval h,Z.eval hi,Instr.indexAt,asIntOf,run_underlying l,hy,sizeOf,typeInfo,g]
 ·cases b
def mW (P:Program) (t:TypeId):Bool:=match P.underlying t with
 |some (.slice _)=>true
 |_=>false
theorem Yl.len {A:Option Addr} {c:Nat} (b:o.op= .call {callee:= .builtin .len,args:= #[x],argTypes:= #[t]}) (f:look σ x=some (.slice A m c)) (ht:mW P t=true):Yl P S σ o (.int .i64 (m:Int)):=λa n D Z w h=>by
 unfold mW at ht
 split at ht
 ·rename_i e g
  unfold execOp
  simp [b,resolve,invoke,builtin,Z.eval f,Builtin.len_,run_underlying g,goInt]
 ·cases ht
theorem Yl.min {y:Operand} {ts:Array TypeId} {p q:Int} (b:o.op= .call {callee:= .builtin .min,args:= #[x,y],argTypes:=ts}) (c:look σ x=some (.int k p)) (hy:look σ y=some (.int k q)):Yl P S σ o (.int k (if q<p then q else p)):=λa n D Z w e=>by
 unfold execOp
 simp [b,resolve,invoke,builtin,Z.eval c,Z.eval hy,Builtin.min_,Builtin.min2]
theorem Yl.max {y:Operand} {ts:Array TypeId} {p q:Int} (b:o.op= .call {callee:= .builtin .max,args:= #[x,y],argTypes:=ts}) (c:look σ x=some (.int k p)) (hy:look σ y=some (.int k q)):Yl P S σ o (.int k (if q>p then q else p)):=λa n D Z w e=>by
 unfold execOp
 simp [b,resolve,invoke,builtin,Z.eval c,Z.eval hy,Builtin.max_,Builtin.max2]
theorem Yl.as {u:Value} (h:Yl P S σ o v) (e:v=u):Yl P S σ o u:=e▸h
theorem Yl.ix {ix:Operand} (g of y sz:Nat) {m c:Nat} {k:IntKind} (b:o.op= .indexAddr t x ix) (e:look σ x=some (.slice (some ⟨g,of,none⟩) m c)) (hi:look σ ix=some (.int k (y:Int))) (hy:y<m:=by omega) (f:AX P t=some sz:=by kernel_rfl):Yl P S σ o (.pointer (some ⟨g,of+y*sz,none⟩)):=
 (Yl.indexAddr (ad:=⟨g,of,none⟩) b e hi hy f).as (by rw [acT])
theorem Yl.iH {ix:Operand} (g y sz:Nat) {m c:Nat} {k:IntKind} (b:o.op= .indexAddr t x ix) (e:look σ x=some (.slice (some ⟨g,0,none⟩) m c)) (hi:look σ ix=some (.int k (y:Int))) (hy:y<m:=by omega) (f:AX P t=some sz:=by kernel_rfl):Yl P S σ o (.pointer (some ⟨g,y*sz,none⟩)):=
 (Yl.indexAddr (ad:=⟨g,0,none⟩) b e hi hy f).as (by rw [acT,Nat.zero_add])
end
end Go.Proofs.YtekiimhdnigmcaaGreatDoor
