/- Parts. -/
import Derived.Test.YtieeckeaijdaeaaGreatDoorQaRef01
import Derived.Test.YtieeckeaijdaeaaGreatDoorQaOneWay
import Derived.Test.YtieeckeaijdaeaaGreatDoorQaBack
import Derived.Test.YtieeckeaijdaeaaGreatDoorQaVarRead
import Derived.Test.YtieeckeaijdaeaaGreatDoorQaZ2
set_option linter.all false
set_option maxRecDepth 100000
set_option maxHeartbeats 4000000
namespace Go.Proofs.YtieeckeaijdaeaaGreatDoor
open Go.RowKit
structure It where
 e:Ev
 before:Int
structure It.Ok (x:It):Prop where
 e:x.e.Ok
 before:bC x.before
def It.cells (x:It):Array Value:= #[.int .i64 x.e.seq,.int .i64 x.e.time,.int .u8 (x.e.cpu:Int),.int .u8 (x.e.kind:Int),.int .i64 x.e.bD,.int .i64 x.e.group,.int .i64 x.e.to,.int .i64 x.e.weight,.int .i64 x.e.aL,.int .u64 (x.e.mask:Int),.int .i64 x.e.got,.int .i64 x.before]
def mF (l:List It):List Ev:=l.map It.e
def kP (l:List It):List Int:=l.map It.before
def C9:Int→List Int→Bool
 |_,[]=>true
 |r,n::t=>decide (0≤n∧n≤r)&&C9 (r-n) t
def Q5:Int:=281474976710656
def AU (cpu:Nat):List It→Bool
 |[]=>true
 |x::_=>decide (x.e.cpu=cpu)
def XQ (cpu:Nat) (l:List It) (opn:Int):Bool:=decide ((bH (mF l)).2=0)&& (C9 Q5 (opn::kP l)&&AU cpu l)
def fP:List Int→Int
 |[]=>0
 |n::t=>n+fP t
theorem XR:∀{l:List Int} {r:Int},C9 r l=true→∀n∈l,0≤n∧n≤r
 |[],_,_,n,hn=>by cases hn
 | x :: t, r, h, n, hn => by
  simp only [C9,Bool.and_eq_true,decide_eq_true_eq] at h
  rcases List.mem_cons.1 hn with rfl|hn
  ·exact h.1
  ·have:=XR h.2 n hn
   omega
theorem XT:∀{l:List Int} {r:Int},0≤r→C9 r l=true→0≤fP l∧fP l≤r
 |[],r,hr,_=>⟨Int.le_refl _,hr⟩
 |x::t,r,hr,h=>by
  simp only [C9,Bool.and_eq_true,decide_eq_true_eq] at h
  have:=XT om h.2
  simp only [fP]
  omega
theorem XU:∀(a b:List Int),fP (a++b)=fP a+fP b
 |[],b=>by simp [fP]
 |x::a,b=>by simp only [List.cons_append,fP,XU a b];omega
theorem XV {cpu:Nat}:∀(l:List Ev) (p:Option Ev) (b:Bs) (k:Nat),jq cpu p b l→∃b',jq cpu none b' (l.drop k)
 |[],_,b,k,_=>⟨b,by rw [List.drop_nil];trivial⟩
 |e::r,p,b,0,h=>⟨b,h.1,h.2.1,(fun q hq=>by cases hq),h.2.2.2⟩
 |e::r,_,_,k+1,h=>XV r (some e) e.at k h.2.2.2
theorem qv2 (l:List It) (n:Nat):mF (l.drop n)=(mF l).drop n:=by unfold mF;rw [List.map_drop]
theorem XW (l:List It) (n:Nat):fP (kP l)=fP (kP (l.take n))+fP (kP (l.drop n)):=by
 unfold kP
 rw [List.map_take,List.map_drop,←XU,List.take_append_drop]
theorem XX:∀{l:List Int},(∀n∈l,0≤n)→0≤fP l
 |[],_=>Int.le_refl _
 |x::t,h=>by
  have h1:=h x List.mem_cons_self
  have h2:=XX (l:=t) (fun n hn=>h n (List.mem_cons_of_mem _ hn))
  simp only [fP]
  omega
structure ko (cpu:Nat) (l:List It) (opn:Int):Prop where
 c64:cpu<64
 chain:∃b,jq cpu none b (mF l)
 ok:∀x∈l,x.Ok
 o0:0≤opn
 MS:∀x∈l,0≤x.before
 sum:opn+fP (kP l)≤281474976710656
theorem Q6 {l:List It} (h:∀x∈l,0≤x.before):0≤fP (kP l):=XX fun n hn=>by
 unfold kP at hn
 obtain ⟨x,hx,rfl⟩:=List.mem_map.1 hn
 exact h x hx
theorem ko.drop {cpu:Nat} {l:List It} {opn:Int} (h:ko cpu l opn) (k:Nat):ko cpu (l.drop k) opn:=by
 obtain ⟨b,hb⟩:=h.chain
 have h1:=XW l k
 have h2:=Q6 (l:=l.take k) (fun x hx=>h.MS x (List.mem_of_mem_take hx))
 have h3:=h.sum
 exact ⟨h.c64,by rw [qv2];exact XV _ _ _ k hb,fun x hx=>h.ok x (List.mem_of_mem_drop hx),h.o0,fun x hx=>h.MS x (List.mem_of_mem_drop hx),by omega⟩
theorem ko.of {cpu:Nat} {l:List It} {opn:Int} (hc:cpu<64) (hok:∀x∈l,x.Ok) (h:XQ cpu l opn=true):ko cpu l opn:=by
 unfold XQ at h
 simp only [Bool.and_eq_true,decide_eq_true_eq] at h
 obtain ⟨h1,h2,h3⟩:=h
 have hr:=h2
 simp only [C9,Bool.and_eq_true,decide_eq_true_eq] at hr
 have hs:=XT (r:=Q5-opn) om hr.2
 have hm:Q5=281474976710656:=rfl
 refine ⟨hc,?_,hok,hr.1.1,?_,by omega⟩
 ·cases l with
  |nil=>exact ⟨⟨0,0⟩,trivial⟩
  | cons x r =>
   have hev:∀e∈mF (x::r),e.Ok:=fun e he=>by
    unfold mF at he
    obtain ⟨y,hy,rfl⟩:=List.mem_map.1 he
    exact (hok y hy).e
   have hx:x.e.check=0:=WR h1 rfl
   have hcp:x.e.cpu=cpu:=by simpa [AU] using h3
   refine ⟨x.e.at,Qn (mF (x::r)) none x.e.at 0 hev (Ms hx) ?_ (fun q hq=>by cases hq) h1⟩
   intro y hy
   have:y=x.e:=by simpa [mF] using hy.symm
   subst this
   exact ⟨WS _,hcp⟩
 ·intro x hx
  exact (XR hr.2 x.before (List.mem_map_of_mem hx)).1
section
variable {cpu:Nat} {l:List It} {opn limit:Int}
end
def It.zero:It:=⟨Ev.zero,0⟩
theorem Q7:EI Tryz.prog 53 59 (.agg #[.int .u8 0,.int .u8 0,.int .i64 0,.int .i64 0,.slice none 0 0]) 5 48:=⟨by kernel_rfl,by kernel_rfl,rfl,by omega⟩
theorem Q8 {α:Type} {l:List α} {k:Nat} (d:α) (h:k<l.length):l.drop k=l.getD k d::l.drop (k+1):=by
 rw [List.drop_eq_getElem_cons h,List.getD_eq_getElem?_getD,List.getElem?_eq_getElem h]
 rfl
theorem ko.part {cpu:Nat} {l:List It} {opn:Int} (h:ko cpu l opn) (j:Nat):0≤fP (kP (l.take j))∧fP (kP (l.take j))+opn≤281474976710656:=by
 have h1:=XW l j
 have h2:=Q6 (l:=l.take j) (fun x hx=>h.MS x (List.mem_of_mem_take hx))
 have h3:=Q6 (l:=l.drop j) (fun x hx=>h.MS x (List.mem_of_mem_drop hx))
 have h4:=h.sum
 omega
def qx:Nat→List Nat→List Bk×Nat×Nat
 |0,_=>([],0,0)
 | f + 1, l => if l.length = 0 then ([], 0, 0) else
  if (bO l).2.2≠0 then ([],0,(bO l).2.2) else
   ((bO l).1::(qx f (l.drop (bO l).2.1)).1,(bO l).2.1+(qx f (l.drop (bO l).2.1)).2.1,(qx f (l.drop (bO l).2.1)).2.2)
def E5 (l:List Nat):List Bk×Nat×Nat:=if 524288<l.length then ([],0,3) else qx l.length l
theorem qpi {f:Nat} {l:List Nat} (h:l.length=0):qx f l=([],0,0):=by
 cases f with
 |zero=>rfl
 |succ f=>rw [qx,if_pos h]
theorem qpj {f:Nat} {l:List Nat} {b:Bk} {m er:Nat} (hf:0<f) (h:0<l.length) (hq:bO l=(b,m,er)) (he:er≠0):qx f l=([],0,er):=by
 cases f with
 |zero=>omega
 |succ f=>rw [qx,if_neg om,if_pos (by rw [hq];exact he),hq]
theorem qnq {f:Nat} {l:List Nat} {b:Bk} {m:Nat} (hf:0<f) (h:0<l.length) (hq:bO l=(b,m,0)):qx f l=(b::(qx (f-1) (l.drop m)).1,m+(qx (f-1) (l.drop m)).2.1,(qx (f-1) (l.drop m)).2.2):=by
 cases f with
 |zero=>omega
 |succ f=>rw [qx,if_neg om,if_neg (by rw [hq];exact fun h=>h rfl),hq];rfl
def XZ (W:World) (lp:Nat) (Inv:List Nat→List ag→Prop) (Stop:List ag→Prop):Prop:=
 ∀(rest:List Nat) (F fr:List ag) (w:World) (A:Option Addr) (c:Nat) (b:Bk) (m er:Nat),Inv rest F→bO rest=(b,m,er)→0<rest.length→(∀x∈rest,x<256)→b.evs.length≤c→Mem W w (.row (.slice A b.evs.length c) b.evs.length (b.evs.flatMap cZ) 32 11::(F++fr))→
  YieldAt Fence.wide 0 Tryz.prog lp #[.agg #[.int .u8 (b.kind:Int),.int .u8 (b.cpu:Int),.int .i64 b.lost,.int .i64 b.next,.slice A b.evs.length c,.int .i64 (m:Int)],.int .i64 (er:Int)] w fun e w'=>∃F',Mem W w' (F'++fr)∧((er=0∧e= .returned (.bool true)∧Inv (rest.drop m) F')∨(er≠0∧e= .returned (.bool false)∧Stop F'))
def qv4 (W:World) (Inv:List Nat→List ag→Prop) (Stop:List ag→Prop) (r:Ending) (w':World):Prop:=∃v,r= .returned v∧∃F',Mem W w' F'∧(Inv [] F'∨Stop F')
theorem qjy {W:World} {fr:List ag} {er:Nat} {I S:List ag→Prop}:∀(e:Ending) (w':World),(∃F',Mem W w' (F'++fr)∧((er=0∧e= .returned (.bool true)∧I F')∨(er≠0∧e= .returned (.bool false)∧S F')))→∃v,e= .returned v
 |_,_,⟨_,_,.inl ⟨_,h,_⟩⟩=>⟨_,h⟩
 |_,_,⟨_,_,.inr ⟨_,h,_⟩⟩=>⟨_,h⟩
theorem Rd.q8f {w:World} {B k c:Nat} {A:Option Addr} {l:List Nat} (h:Rd w B 1 A l.length (l.map B8)) (hk:k≤l.length) (hc:l.length≤c):Rd w B 1 (if c=k then A else A.map (·.add (k*1))) (l.drop k).length ((l.drop k).map B8):=by
 rw [List.length_drop]
 exact h.P9 hk hc
theorem q1d:SI Tryz.prog 196 6:=⟨by kernel_rfl,by kernel_rfl⟩
theorem qqg (W w:World) (gb lp B:Nat) (A:Option Addr) (c:Nat) (l:List Nat) (Inv:List Nat→List ag→Prop) (Stop:List ag→Prop) (F0:List ag) (hL:ax B W) (hB:B≤W.heap.size) (hr:Rd W W.heap.size 1 A l.length (l.map B8)) (hc:l.length≤c) (hl:∀b∈l,b<256) (hn:l.length≤100000000)
    (hy:XZ W lp Inv Stop) (hI0:Inv l F0) (HM:Mem W w (.blk gb #[.slice A l.length c] 35::F0)):
    Calls Tryz.prog 131 (.func (.yield lp) #[] #[]:: [vP gb 0]).toArray w (qv4 W Inv Stop):=by
 refine pz Tryz.func131 [.func (.yield lp) #[] #[],vP gb 0] [(0,.func (.yield lp) #[] #[]),(1,vP gb 0)] fun a Z=>?_
 refine Jb Z HM ((JB) fun a Z HM=>?_)
 refine qj (fun mS aS wS=>∃(rest:List Nat) (X:Option Addr) (cc:Nat) (F:List ag),(Inv rest F)∧(Rd W W.heap.size 1 X rest.length (rest.map B8))∧(rest.length≤cc)∧(∀b∈rest,b<256)∧(rest.length≤l.length)∧mS=rest.length∧Fr aS 29 [] [(0,.func (.yield lp) #[] #[]),(1,vP gb 0)]∧Mem W wS (.blk gb #[.slice X rest.length cc] 35::F)) (m:=l.length) ⟨l,A,c,F0,hI0,hr,hc,hl,Nat.le_refl _,rfl,Z.sub kr,HM.pt 1 [0]⟩ ?_
 clear Z HM;rintro mS a w_ ⟨rest,X,cc,F,hI,hX,hcc,hrl,hrn,rfl,Z,HM⟩
 refine Jb Z HM ((JQ∘JP∘Jc O0∘Jl∘Jp 1∘bK∘Jj) (Ju (fun ll=>?_) fun ll=>?_))
 ·
  intro a Z HM
  have uG:=of_decide_eq_true ll
  have hne:0<rest.length:=by omega
  obtain ⟨b,m,er,hq⟩:∃b m er,bO rest=(b,m,er):=⟨_,_,_,rfl⟩
  refine Jb Z HM ((JT∘aI∘JB∘JP∘Jc O0∘JK (h:=by exact fun HM=>qz1 X rest.length cc rest B _ (hL.mem HM hB) (HM.le hB) (HM.old hX) hcc rfl om hrl hq)) fun qV c11 yM Ib=>(Jp 1∘Jx∘Jx∘Jx∘JA #[vB 0,vB 0,vI 0,vI 0,vN]) fun w3 g3=>(JV ak bg (h1:=by exact uE _ _ _)) fun ali=>(Jp 2∘Jj∘JQ) fun a Z HM=>?_)
  refine wp_seq ?_
  refine Qw (i:=5) ?_
  refine Jb Z HM ((Jp 1∘Jy (v:= .agg (b.cells qV c11)) (h:=by exact Yl.qm rfl rfl ak rfl (fun _ h=>qc (h.blk (i:=0) rfl)))∘Jp 1∘Jy (v:= .agg #[vB b.kind,vB b.cpu,vI b.lost,vI b.next,.slice qV b.evs.length c11,vI m]) (h:=by exact Yl.build (vs:=[(0,.agg (b.cells qV c11)),(1,vI m)]) rfl kr kr)∘Jp 1∘Jq) fun a Z HM=>?_)
  refine xz Z (i:=5) (vs:=[.agg #[vB b.kind,vB b.cpu,vI b.lost,vI b.next,.slice qV b.evs.length c11,vI m],vI er]) rfl rfl rfl rfl rfl rfl de (hy rest F _ _ qV c11 b m er hI hq hne hrl Ib (Mem.Az (es:=[.blk g3 (b.cells qV c11) 59,.blk gb #[.slice X rest.length cc] 35]) (HM.pt (fs':=(.row (.slice qV b.evs.length c11) b.evs.length (b.evs.flatMap cZ) 32 11:: .blk g3 (b.cells qV c11) 59:: .blk gb #[.slice X rest.length cc] 35::F)) 3 [1,0,2]))) qjy ?_
  clear Z HM;rintro v jv a ⟨F2,HM,(⟨he,hv,hI2⟩|⟨he,hv,hS2⟩)⟩ Z<;>injection hv with hv<;>subst hv
  ·
   replace HM:Mem W jv (.blk g3 (b.cells qV c11) 59:: .blk gb #[.slice X rest.length cc] 35::F2):=Mem.rW (es:=[.blk g3 (b.cells qV c11) 59,.blk gb #[.slice X rest.length cc] 35]) HM
   have hq0:=hq;rw [he] at hq0;have hof:=Q4 hrl hq0;have TR:=hof.least;have BZ:=hof.len;have hst:(rest.drop m).length<rest.length:=by rw [List.length_drop];omega
   refine Jb Z HM ((Jp 4∘Jo (.bool false) (by rw [he];simp)∘Jp 1∘aN∘Jq∘JF∘aI∘JR∘Jc O1∘Jp 1∘Jy (v:= .slice (if cc=m then X else X.map (·.add (m*1))) (rest.length-m) (cc-m)) (h:=by exact Yl.sliceFrom aM (j:=m) rfl rfl rfl om)∘Jo (.slice (if cc=m then X else X.map (·.add (m*1))) ((rest.drop m).length) (cc-m)) (by rw [List.length_drop])∘JW fJ bg) fun nK=>(AA∘Jq) fun a Z HM=>?_)
   exact ⟨_,hst,(rest.drop m),if cc=m then X else X.map (·.add (m*1)),cc-m,F2,hI2,Rd.q8f hX BZ hcc,by rw [List.length_drop];omega,uD hrl m,by omega,rfl,Z.sub kr,HM.pt 2 [1]⟩
  ·
   replace HM:Mem W jv (.blk g3 (b.cells qV c11) 59:: .blk gb #[.slice X rest.length cc] 35::F2):=Mem.rW (es:=[.blk g3 (b.cells qV c11) 59,.blk gb #[.slice X rest.length cc] 35]) HM
   refine Jb Z HM ((Jp 5∘aN∘Jq∘JT∘JZ) fun a Z HM=>?_)
   exact Cz rfl Z (⟨_,rfl,F2,Mem.EQ [.blk g3 (b.cells qV c11) 59,.blk gb #[.slice X rest.length cc] 35] HM,.inr hS2⟩)
 intro a Z HM
 have uG:=of_decide_eq_false ll
 have hr0:rest=[]:=List.length_eq_zero_iff.1 om
 refine Jb Z HM ((JF∘JX) ?_)
 repeat (first|clear Z|clear HM)
 intro a Z HM
 subst hr0
 exact iM rfl Z (⟨_,rfl,F,Mem.EQ [.blk gb #[.slice X ([]:List Nat).length cc] 35] HM,.inl hI⟩)
theorem qtz (A:Option Addr) (n c:Nat) (w:World):
    Calls Tryz.prog 99 #[.slice A n c] w fun r w'=>∃g,r= .returned (.func (.func 131) #[] #[vP g 0])∧Mem w w' [.blk g #[.slice A n c] 35]:=by
 refine (dM Tryz.func99 4) ?_
 exact (JP∘CG) fun w1 g1=>(Jp 1∘Jr∘Jy (h:=by exact Yl.makeFunc (fst:=[]) (aJ:=[vP g1 0]) rfl rfl rfl)∘Jp 1∘aT∘Jj∘JZ∘bq) fun HM=>by exact ⟨_,rfl,HM⟩
def bP (bs:List Bk):List Nat:=bs.flatMap Bk.out
def dS:List Bk→Nat
 |[]=>0
 |b::t=>if b.err=0 then dS t else b.err
def jP (bs:List Bk):List Nat×Nat:=if dS bs≠0 then ([],dS bs) else if 524288<(bP bs).length then ([],3) else (bP bs,0)
theorem qs4 {bs:List Bk} (h:dS bs≠0):jP bs=([],dS bs):=by unfold jP;rw [if_pos h]
theorem qpk {bs:List Bk} (h:dS bs=0) (h2:524288<(bP bs).length):jP bs=([],3):=by unfold jP;rw [if_neg om,if_pos h2]
theorem X0 {bs:List Bk} (h:dS bs=0) (h2:¬524288<(bP bs).length):jP bs=(bP bs,0):=by unfold jP;rw [if_neg om,if_neg h2]
theorem X3 (bs:List Bk):(jP bs).1.length≤524288:=by
 unfold jP
 split
 ·exact Nat.zero_le _
 ·split
  ·exact Nat.zero_le _
  ·dsimp only;omega
theorem X4 {q:List Hb} {k:Nat} (h:k<q.length):dS ((q.drop k).map Hb.b)=if (q.getD k Hb.zero).b.err=0 then dS ((q.drop (k+1)).map Hb.b) else (q.getD k Hb.zero).b.err:=by
 rw [Q8 Hb.zero h,List.map_cons,dS]
theorem X5 {q:List Hb} {k:Nat} (h:k<q.length):bP ((q.take (k+1)).map Hb.b)=bP ((q.take k).map Hb.b)++(q.getD k Hb.zero).b.out:=by
 unfold bP
 rw [MU Hb.zero h,List.map_append,List.flatMap_append]
 simp
theorem qz2 (bs:List Bk):(bP bs).length≤4096*bs.length:=by
 unfold bP
 induction bs with
 |nil=>exact Nat.zero_le _
 |cons b t ih=>
  rw [List.flatMap_cons,List.length_append,List.length_cons]
  have:=Xr b
  omega
theorem qv5 {q:List Hb} (k:Nat):(bP ((q.take k).map Hb.b)).length≤4096*q.length:=by
 have h:=qz2 ((q.take k).map Hb.b)
 rw [List.length_map,List.length_take] at h
 have:min k q.length≤q.length:=Nat.min_le_right _ _
 omega
def iQ (next:Int):Bk:=⟨2,0,0,next,[]⟩
theorem q30 {next:Int} (h:bC next):(iQ next).Ok:=⟨by show 2<256;decide,by show 0<256;decide,by show bC 0;unfold bC;decide,h,by intro e he;cases he⟩
def readAll (l:List Nat):List Bk×Nat:=if (E5 l).2.2≠0 then ([],(E5 l).2.2) else ((E5 l).1,0)
theorem Q9 {l:List Nat} (h:524288<l.length):readAll l=([],3):=by unfold readAll E5;rw [if_pos h];rfl
theorem X6 {l:List Nat} {e:Nat} (h:¬524288<l.length) (he:(qx l.length l).2.2=e) (hen:e≠0):readAll l=([],e):=by unfold readAll E5;rw [if_neg h,if_pos om,he]
theorem X7 {l:List Nat} (h:¬524288<l.length) (he:(qx l.length l).2.2=0):readAll l=((qx l.length l).1,0):=by unfold readAll E5;rw [if_neg h,if_neg om]
section
variable {W w:World} {fs:List ag} {t bt:TypeId}
theorem Mem.cz (h:Mem W w fs) {i g:Nat} {cs ds:Array Value} {t:TypeId} (hi:fs[i]?=some (.blk g cs t)) (he:cs=ds):Mem W w (fs.set i (.blk g ds t)):=by
 subst he
 obtain ⟨hl,h2⟩:=List.getElem?_eq_some_iff.1 hi
 rw [←h2,List.set_getElem_self]
 exact h
theorem Io {w w':World} {p:List Nat×Nat} {er:Nat} {n:Int} (hb:Below w.heap.size w w') (he:p=([],er)) (hn:n=er):zp w p.2 p.1 (.returned (.tuple #[vN,vI n])) w':=by
 subst he;subst hn
 exact ⟨⟨none,0,rfl,World.ownsRow_nil _ _ _ _,Nat.le_refl _⟩,hb⟩
theorem X8 {p:List Bk×Nat} {er:Nat} {n:Int} (h:Mem W w fs) (he:p=([],er)) (hn:n=er):CS t bt W p.2 p.1 (.returned (.tuple #[vN,vI n])) w:=by
 subst he;exact qzx h hn
end
section
variable {W w w':World} {fs gs:List ag} {f g1 g2:ag}
end
def Da (W:World) (tw:TypeId) (g:Nat) (lim:Int) (out:List Nat) (fs:List ag) (v:Value) (r:Ending) (w':World):Prop:=
 r= .returned v∧∃A c,out.length≤c∧Mem W w' (.blk g #[vI lim,.slice A out.length c] tw:: .row (.slice A out.length c) out.length (out.map B8) 5 1::fs)
theorem Da.as {W w':World} {tw:TypeId} {g:Nat} {lim:Int} {out out':List Nat} {fs:List ag} {v v':Value} {r:Ending} (h:Da W tw g lim out fs v r w') (h1:out=out') (h2:v=v'):Da W tw g lim out' fs v' r w':=by subst h1;subst h2;exact h
section
variable {W w w':World} {fs gs:List ag} {f1 f2:ag}
end
theorem q31 {b:Bk} (h:b.err=0):13≤b.out.length:=by rw [qs3 h];have:=qz0 b;omega
theorem Ra:∀{bs:List Bk},(∀b∈bs,b.err=0)→dS bs=0
 |[],_=>rfl
 |b::t,h=>by
  rw [dS,if_pos (h b List.mem_cons_self)]
  exact Ra fun x hx=>h x (List.mem_cons_of_mem _ hx)
theorem qs5 {bs:List Bk} (h:∀b∈bs,b.err=0) (hl:(bP bs).length≤524288):jP bs=(bP bs,0):=X0 (Ra h) om
theorem qqh (A:Option Addr) (c:Nat) (l:List Nat) (BB:Nat) (w:World) (hL:ax BB w) (hB:BB≤w.heap.size) (hr:Rd w w.heap.size 1 A l.length (l.map B8)) (hc:l.length≤c) (hl:∀b∈l,b<256) (hn:l.length≤100000000):
    Calls Tryz.prog 44 #[.slice A l.length c] w (CS 32 59 w (readAll l).2 (readAll l).1):=by
 refine Hl (vs:=[.slice A l.length c]) Tryz.func44 rfl rfl kr (σ0:=[(0,.slice A l.length c)]) rfl ?_
 intro a Z
 have HM:=Mem.start w
 refine Jb Z HM ((JP∘JA #[vN]) fun w2 g2=>(JA #[vI 0]) fun w3 g3=>(Jj∘JQ∘JP∘Jp 1∘Jl∘Jp 1∘bK∘Jj) (Ji (fun yJ=>?_) fun yJ=>?_))
 ·
  refine (JT∘JP∘JW fJ bg) fun alm=>(JW bg bg) fun aln=>(Jj∘JZ) fun a Z HM=>?_
  refine Mv ?_
  exact dP rfl Z (.cell1 (i:=1) Z HM rfl rfl kr rfl) (.cell1 (i:=0) Z HM rfl rfl kr rfl) (X8 HM (Q9 om) rfl)
 refine (JF∘aI∘JP∘JA #[vN]) fun w4 g4=>(Jj∘JQ∘JP∘Jp 1∘JL (h:=by exact fun HM=>qtz A l.length c _)) ?_
 rintro HM _ yM ⟨gp,rfl,hm⟩
 refine ⟨_,rfl,_,HM.join hm,?_⟩
 refine (aT∘Jq) fun a Z HM=>?_
 replace HM:=HM.nil 59 5
 replace HM:Mem w _ (.row (vN) 0 [] 59 5:: .blk gp #[.slice A l.length c] 35:: .blk g4 #[vN] 53:: .blk g3 #[vI 0] 61:: .blk g2 #[vN] 53::fD 32 []):=HM
 refine Jb Z HM ((JG∘JB) fun a Z HM=>?_)
 refine Hg Z HM (fun F=>∃(q:List Hb) (f:Nat) (Ao:Option Addr) (co:Nat),(([]:List Nat).length≤f)∧(q.map Hb.b++(qx f ([]:List Nat)).1=(qx l.length l).1)∧((qx l.length l).2.2=(qx f ([]:List Nat)).2.2)∧(q.length≤co)∧(q.length+([]:List Nat).length≤l.length)∧F=(.row (.slice Ao q.length co) q.length (q.flatMap hbL) 59 5:: .blk g4 #[.slice Ao q.length co] 53:: .blk g3 #[vI 0] 61:: .blk g2 #[vN] 53::fD 32 q)) (fun c F=>c= .ret∧∃(q:List Hb) (e:Nat),(e≠0)∧((qx l.length l).2.2=e)∧F=(.blk g3 #[vI e] 61:: .blk g2 #[vN] 53::fD 32 q)) rfl kr ?_ ?_ ?_
 ·
  clear Z HM;intro lp B rec w1 hrec HM
  have hy:XZ w lp (fun rest F=>∃(q:List Hb) (f:Nat) (Ao:Option Addr) (co:Nat),(rest.length≤f)∧(q.map Hb.b++(qx f rest).1=(qx l.length l).1)∧((qx l.length l).2.2=(qx f rest).2.2)∧(q.length≤co)∧(q.length+rest.length≤l.length)∧F=(.obj lp (.loop (rec .ready none)):: .obj B (.deferred (some []))::(.row (.slice Ao q.length co) q.length (q.flatMap hbL) 59 5:: .blk g4 #[.slice Ao q.length co] 53:: .blk g3 #[vI 0] 61:: .blk g2 #[vN] 53::fD 32 q))) (fun F=>∃(q:List Hb) (e:Nat),(e≠0)∧((qx l.length l).2.2=e)∧F=(.obj lp (.loop (rec .done (some .ret))):: .obj B (.deferred (some []))::(.blk g3 #[vI e] 61:: .blk g2 #[vN] 53::fD 32 q))):=by
   rintro rest F fr w3 A9 c9 b m er ⟨q,f,Ao,co,hf,hk,he,hco,kY,rfl⟩ hq hne hrl hcb HM
   replace HM:=HM.pt (fs':=(.obj lp (.loop (rec .ready none)):: .row (.slice A9 b.evs.length c9) b.evs.length (b.evs.flatMap cZ) 32 11:: .obj B (.deferred (some [])):: .row (.slice Ao q.length co) q.length (q.flatMap hbL) 59 5:: .blk g4 #[.slice Ao q.length co] 53:: .blk g3 #[vI 0] 61:: .blk g2 #[vN] 53::(fD 32 q++(fr)))) 7 [1,0,2,3,4,5,6]
   refine qc5 (v1:= .agg #[vB (b.kind:Int),vB (b.cpu:Int),vI b.lost,vI b.next,.slice A9 b.evs.length c9,vI m]) (v2:=vI er) hrec HM de de fun a Z=>?_
   refine wpIn_seq ?_
   refine qr ?_
   refine Jb Z HM ((JA #[vB 0,vB 0,vI 0,vI 0,vN,vI 0]) fun w5 g5=>(JV q1d bg) fun zP=>(Jq) fun a Z HM=>?_)
   refine qr ?_
   refine Jb Z HM ((Jp 1∘Jq) fun a Z HM=>?_)
   refine ⟨(.blk g5 #[vB (b.kind:Int),vB (b.cpu:Int),vI b.lost,vI b.next,.slice A9 b.evs.length c9,vI m] 196:: .row (.slice A9 b.evs.length c9) b.evs.length (b.evs.flatMap cZ) 32 11:: .obj B (.deferred (some [])):: .row (.slice Ao q.length co) q.length (q.flatMap hbL) 59 5:: .blk g4 #[.slice Ao q.length co] 53:: .blk g3 #[vI 0] 61:: .blk g2 #[vN] 53::(fD 32 q++(fr))),HM.pt (fs':=(.obj lp (.loop (rec .ready none)):: .blk g5 #[vB (b.kind:Int),vB (b.cpu:Int),vI b.lost,vI b.next,.slice A9 b.evs.length c9,vI m] 196:: .row (.slice A9 b.evs.length c9) b.evs.length (b.evs.flatMap cZ) 32 11:: .obj B (.deferred (some [])):: .row (.slice Ao q.length co) q.length (q.flatMap hbL) 59 5:: .blk g4 #[.slice Ao q.length co] 53:: .blk g3 #[vI 0] 61:: .blk g2 #[vN] 53::(fD 32 q++(fr)))) 8 [1,0,2,3,4,5,6,7],fun w4 HM=>?_⟩
   refine wpIn_block ?_
   refine wpIn_seq ?_
   refine wpIn_seq ?_
   refine qr ?_
   refine Jb Z HM ((Jp 2∘aT∘Jq) (Ju (fun fE=>?_) fun fE=>?_))
   ·
    intro a Z HM
    have mD:=bne_iff_ne.1 fE
    have hg:=qpj (f:=f) om hne hq om
    rw [hg] at he
    refine Qr Z rfl ?_
    refine wpIn_seq ?_
    refine qr ?_
    refine Jb Z HM ((Jp 1∘JW Hu bg) fun Ii=>(JW Mw bg) fun TS=>(xA∘Jq) fun a Z HM=>?_)
    refine wpIn_ret ?_
    refine ⟨(.obj B (.deferred (some [])):: .blk g3 #[vI er] 61:: .blk g2 #[vN] 53::(fD 32 q++(fr))),HM.pt (fs':=(.obj lp (.loop (rec .busy none)):: .obj B (.deferred (some [])):: .blk g3 #[vI er] 61:: .blk g2 #[vN] 53::(fD 32 q++(fr)))) 8 [0,3,6,7],fun w5 HM=>?_⟩
    exact ⟨(.obj lp (.loop (rec .done (some .ret))):: .obj B (.deferred (some [])):: .blk g3 #[vI er] 61:: .blk g2 #[vN] 53::fD 32 q),HM,.inr ⟨om,rfl,q,er,by omega,he,rfl⟩⟩
   intro a Z HM
   have mD:=bne_eq_false_iff_eq.1 fE
   have he0:er=0:=by omega
   have hq0:=hq
   rw [he0] at hq0
   have hg:=qnq (f:=f) om hne hq0
   have hof:=Q4 hrl hq0
   have TR:=hof.least
   have BZ:=hof.len
   rw [hg] at hk he
   dsimp only at hk he
   refine Qs Z rfl ?_
   refine wpIn_skip ?_
   refine qr ?_
   refine Jb Z HM ((Jc O5∘Jf 0∘Jy (v:= .agg #[vB b.kind,vB b.cpu,vI b.lost,vI b.next,.slice A9 b.evs.length c9]) (h:=by exact Yl.qm rfl rfl ak rfl (fun _ h=>h.sub (i:=1) rfl 0 rfl))∘JU Q7 #[vB b.kind,vB b.cpu,vI b.lost,vI b.next,.slice A9 b.evs.length c9]) fun jv g20=>(JD (hbL (⟨b,A9,c9⟩:Hb)) 5 (fun _ _=>yG) Q7 (hr:=by exact fun HM=>HM.aZ (i:=0) (n:=1) (size:=5) rfl rfl) (h1:=by exact uE _ _ _)) fun FB rG c21 hc21=>(JW Mw bg) fun J6=>(CE∘Jq) fun a Z HM=>?_)
   have wM:q.length+1=(q++[(⟨b,A9,c9⟩:Hb)]).length:=by rw [List.length_append];rfl
   replace HM:=HM.bu (i:=5) (ys:=(q++[(⟨b,A9,c9⟩:Hb)]).flatMap hbL) rfl wM (by rw [List.flatMap_append,List.flatMap_cons,List.flatMap_nil,List.append_nil])
   rw [wM] at hc21
   replace HM:=HM.cz (i:=6) (ds:= #[.slice rG (q++[(⟨b,A9,c9⟩:Hb)]).length c21]) rfl (by rw [wM];try rfl)
   replace HM:=Mem.QT (a:=[.blk g20 #[vB b.kind,vB b.cpu,vI b.lost,vI b.next,.slice A9 b.evs.length c9] 59,.obj lp (.loop (rec .busy none)),.blk g5 #[vB (b.kind:Int),vB (b.cpu:Int),vI b.lost,vI b.next,.slice A9 b.evs.length c9,vI m] 196,.obj B (.deferred (some [])),.row (.slice rG ((q++[(⟨b,A9,c9⟩:Hb)]).length) c21) ((q++[(⟨b,A9,c9⟩:Hb)]).length) ((q++[(⟨b,A9,c9⟩:Hb)]).flatMap hbL) 59 5,.blk g4 #[.slice rG ((q++[(⟨b,A9,c9⟩:Hb)]).length) c21] 53,.blk g3 #[vI 0] 61,.blk g2 #[vN] 53]) (q:=q) (b:=fr) (HM.pt (fs':=(.row (.slice A9 b.evs.length c9) b.evs.length (b.evs.flatMap cZ) 32 11:: .blk g20 #[vB b.kind,vB b.cpu,vI b.lost,vI b.next,.slice A9 b.evs.length c9] 59:: .obj lp (.loop (rec .busy none)):: .blk g5 #[vB (b.kind:Int),vB (b.cpu:Int),vI b.lost,vI b.next,.slice A9 b.evs.length c9,vI m] 196:: .obj B (.deferred (some [])):: .row (.slice rG ((q++[(⟨b,A9,c9⟩:Hb)]).length) c21) ((q++[(⟨b,A9,c9⟩:Hb)]).length) ((q++[(⟨b,A9,c9⟩:Hb)]).flatMap hbL) 59 5:: .blk g4 #[.slice rG ((q++[(⟨b,A9,c9⟩:Hb)]).length) c21] 53:: .blk g3 #[vI 0] 61:: .blk g2 #[vN] 53::(fD 32 q++(fr)))) 9 [3,0,1,2,4,5,6,7,8])
   replace HM:Mem w _ (.blk g20 #[vB b.kind,vB b.cpu,vI b.lost,vI b.next,.slice A9 b.evs.length c9] 59:: .obj lp (.loop (rec .busy none)):: .blk g5 #[vB (b.kind:Int),vB (b.cpu:Int),vI b.lost,vI b.next,.slice A9 b.evs.length c9,vI m] 196:: .obj B (.deferred (some [])):: .row (.slice rG ((q++[(⟨b,A9,c9⟩:Hb)]).length) c21) ((q++[(⟨b,A9,c9⟩:Hb)]).length) ((q++[(⟨b,A9,c9⟩:Hb)]).flatMap hbL) 59 5:: .blk g4 #[.slice rG ((q++[(⟨b,A9,c9⟩:Hb)]).length) c21] 53:: .blk g3 #[vI 0] 61:: .blk g2 #[vN] 53::(fD 32 (q++[(⟨b,A9,c9⟩:Hb)])++(fr))):=HM
   refine ⟨(.obj B (.deferred (some [])):: .row (.slice rG ((q++[(⟨b,A9,c9⟩:Hb)]).length) c21) ((q++[(⟨b,A9,c9⟩:Hb)]).length) ((q++[(⟨b,A9,c9⟩:Hb)]).flatMap hbL) 59 5:: .blk g4 #[.slice rG ((q++[(⟨b,A9,c9⟩:Hb)]).length) c21] 53:: .blk g3 #[vI 0] 61:: .blk g2 #[vN] 53::(fD 32 (q++[(⟨b,A9,c9⟩:Hb)])++(fr))),HM.pt (fs':=(.obj lp (.loop (rec .busy none)):: .obj B (.deferred (some [])):: .row (.slice rG ((q++[(⟨b,A9,c9⟩:Hb)]).length) c21) ((q++[(⟨b,A9,c9⟩:Hb)]).length) ((q++[(⟨b,A9,c9⟩:Hb)]).flatMap hbL) 59 5:: .blk g4 #[.slice rG ((q++[(⟨b,A9,c9⟩:Hb)]).length) c21] 53:: .blk g3 #[vI 0] 61:: .blk g2 #[vN] 53::(fD 32 (q++[(⟨b,A9,c9⟩:Hb)])++(fr)))) 8 [1,3,4,5,6,7],fun w5 HM=>?_⟩
   exact ⟨(.obj lp (.loop (rec .ready none)):: .obj B (.deferred (some [])):: .row (.slice rG ((q++[(⟨b,A9,c9⟩:Hb)]).length) c21) ((q++[(⟨b,A9,c9⟩:Hb)]).length) ((q++[(⟨b,A9,c9⟩:Hb)]).flatMap hbL) 59 5:: .blk g4 #[.slice rG ((q++[(⟨b,A9,c9⟩:Hb)]).length) c21] 53:: .blk g3 #[vI 0] 61:: .blk g2 #[vN] 53::fD 32 (q++[(⟨b,A9,c9⟩:Hb)])),HM,.inl ⟨om,rfl,(q++[(⟨b,A9,c9⟩:Hb)]),(f-1),rG,c21,by rw [List.length_drop];omega,by rw [←hk,List.map_append,List.append_assoc];rfl,he,hc21,by rw [List.length_append,List.length_drop,List.length_singleton];omega,rfl⟩⟩
  refine (qqg w w1 gp lp BB A c l _ _ _ hL hB hr hc hl om hy ⟨[],l.length,none,0,Nat.le_refl _,List.nil_append _,rfl,Nat.le_refl _,by simp,rfl⟩ (HM.pt 7 [3,0,1,2,4,5,6])).mono ?_
  rintro r w2 ⟨v,rfl,F2,dh,(⟨q,f,Ao,co,hf,hk,he,hco,kY,rfl⟩|⟨q,e,hen,he,rfl⟩)⟩
  ·exact ⟨v,rfl,.inl ⟨_,⟨q,f,Ao,co,hf,hk,he,hco,kY,rfl⟩,dh⟩⟩
  ·exact ⟨v,rfl,.inr ⟨.ret,_,⟨rfl,q,e,hen,he,rfl⟩,dh⟩⟩
 ·
  clear Z HM;rintro B a w6 _ ⟨q,f,Ao,co,hf,hk,he,hco,kY,rfl⟩ Z HM
  have hz:=qpi (f:=f) (l:=[]) rfl
  rw [hz] at hk he
  dsimp only at hk he
  rw [List.append_nil] at hk
  refine Jb Z HM ((JG∘JP∘Jc O2∘JW sW bg) fun Ij=>(JW sV bg) fun aaJ=>(xA∘Jj∘JZ) fun a Z HM=>?_)
  refine Cy Z HM (i:=0) rfl fun a w7 Z HM=>?_
  exact dP rfl Z (.cell1 (i:=4) Z HM rfl rfl kr rfl) (.cell1 (i:=3) Z HM rfl rfl kr rfl) (by rw [X7 om he,←hk];exact q3z (HM.pt (fs':=(.row (.slice Ao q.length co) q.length (q.flatMap hbL) 59 5::fD 32 q)) 5 [1]) hco)
 ·
  clear Z HM;rintro _ B a w6 _ ⟨rfl,q,e,hen,he,rfl⟩ Z HM
  refine wp_ret ?_
  refine Cy Z HM (i:=0) rfl fun a w7 Z HM=>?_
  exact dP rfl Z (.cell1 (i:=2) Z HM rfl rfl kr rfl) (.cell1 (i:=1) Z HM rfl rfl kr rfl) (X8 HM (X6 om he hen) rfl)
theorem qqj (A:Option Addr) (c:Nat) (q:List Hb) (B:Nat) (w:World) (hL:ax B w) (hB:B≤w.heap.size) (hr:Rd w w.heap.size 5 A q.length (q.flatMap hbL)) (hQ:mE w q) (hok:∀h∈q,h.b.Ok) (hev:∀h∈q,h.b.evs.length≤1000000) (hn:q.length≤1000000):
    Calls Tryz.prog 55 #[.slice A q.length c] w (zp w (jP (q.map Hb.b)).2 (jP (q.map Hb.b)).1):=by
 refine (dM Tryz.func55 41) ?_
 refine (JP∘Jp 2∘Jr∘Jp 1∘Jr∘Jp 1∘Jq) fun a Z HM=>?_
 replace HM:=HM.nil 5 1
 refine Jb Z HM ((JG∘JQ∘JP∘Jp 1∘Jl∘Jp 1∘Jj∘JB) fun a Z HM=>?_)
 refine qj (fun mS aS wS=>∃(k:Nat) (lg:Bool) (R:List Nat) (Ao:Option Addr) (co:Nat),(k≤q.length)∧(dS (q.map Hb.b)=dS ((q.drop k).map Hb.b))∧(lg=decide (524288<(bP ((q.take k).map Hb.b)).length))∧(lg=false→R=bP ((q.take k).map Hb.b))∧(R.length≤524288)∧(R.length≤co)∧mS=q.length-k∧Fr aS 41 [] [(12,vI k),(11,vI q.length),(10,.slice A q.length c),(5,.bool lg),(4,.slice Ao R.length co),(3,vI 0),(2,vN)]∧Mem w wS [.row (.slice Ao R.length co) R.length (R.map B8) 5 1]) (m:=q.length-0) ⟨0,false,[],none,0,Nat.zero_le _,by rw [List.drop_zero],rfl,by intro _;rfl,by simp,Nat.le_refl _,rfl,Z.sub kr,HM.pk [0]⟩ ?_
 clear Z HM;rintro mS a w_ ⟨k,lg,R,Ao,co,hk,her,KF,hR,hRl,hco,rfl,Z,HM⟩
 refine Jb Z HM ((JP∘Jp 1∘Jj∘JQ) (Ju (fun cB=>?_) fun cB=>?_))
 ·
  intro a Z HM
  have iE:=of_decide_eq_true cB
  have nZ:k<q.length:=by omega
  have hat:=X4 nZ
  have hoq:=congrArg List.length (X5 nZ)
  rw [List.length_append] at hoq
  have hol:=Xr (q.getD k Hb.zero).b
  have htk:=qv5 (q:=q) k
  refine Jb Z HM ((JT∘aI∘JQ∘JB∘JP) ?_)
  repeat (first|clear Z|clear HM)
  intro a Z HM
  obtain ⟨gA,oA,rfl,_⟩:=hr.qp (Nat.lt_of_le_of_lt (Nat.zero_le _) (show k<q.length from by omega)) de
  refine Jb Z HM ((Jy (h:=by exact Yl.ix gA oA k 5 rfl rfl rfl)∘Jy (v:= .agg ((q.getD k Hb.zero).b.cells (q.getD k Hb.zero).A (q.getD k Hb.zero).c)) (h:=by exact Yl.qm rfl rfl ak rfl (fun _ h=>(h.old hr).qQ QQ ((getD_at Hb.zero (k:=k) (by first|omega|(simp;omega))))))∘JA #[vB 0,vB 0,vI 0,vI 0,vN]) fun w7 g7=>(JV ak bg (h1:=by exact uE _ _ _)) fun yN=>(bK∘Jr∘Jy (v:= .agg ((q.getD k Hb.zero).b.cells (q.getD k Hb.zero).A (q.getD k Hb.zero).c)) (h:=by exact Yl.qm rfl rfl ak rfl (fun _ h=>qc (h.blk (i:=0) rfl)))∘JK (h:=by exact fun HM=>qv0 (q.getD k Hb.zero).b (hok _ (qs Hb.zero nZ)) ((q.getD k Hb.zero).A) (q.getD k Hb.zero).c B _ (hL.mem HM hB) (HM.le hB) (HM.old (hQ.at nZ)) (hev _ (qs Hb.zero nZ)) rfl rfl)) fun NQ c18 w18 hc18=>(Jp 1∘Jx∘Jx∘Jp 2∘Jj∘JQ∘JP∘Jp 2∘aT∘Jj) (Ju (fun Ee=>?_) fun Ee=>?_))
  ·
   intro a Z HM
   have pE:=bne_iff_ne.1 Ee
   have hE:dS (q.map Hb.b)=(q.getD k Hb.zero).b.err:=by rw [her,hat,if_neg om]
   exact Jb Z HM ((JT∘JP∘Jp 3∘Jj∘JZ∘dL) fun HM=>Io HM.below (qs4 (by rw [hE];omega)) (by rw [hE]))
  intro a Z HM
  have pE:=bne_eq_false_iff_eq.1 Ee
  have hE:dS (q.map Hb.b)=dS ((q.drop (k+1)).map Hb.b):=by rw [her,hat,if_pos om]
  refine Jb Z HM ((JF∘aI∘JP∘Jp 2) (Ju (fun gM=>?_) fun gM=>?_))
  ·
   intro a Z HM
   have hlong:524288<(bP ((q.take k).map Hb.b)).length:=of_decide_eq_true (KF.symm.trans gM)
   refine Jb Z HM ((Jv 8 [(5,.bool true)]∘bK∘Jr∘Jp 2∘aT∘Jj∘JF∘aI∘JR∘dR 1∘Jp 1∘aT∘Jq) fun a Z HM=>?_)
   exact ⟨_,om,k+1,true,R,Ao,co,by omega,hE,(decide_eq_true om).symm,(by intro h;cases h),hRl,hco,rfl,Z.sub kr,HM.pk [2]⟩
  intro a Z HM
  have hlong:¬524288<(bP ((q.take k).map Hb.b)).length:=of_decide_eq_false (KF.symm.trans gM)
  have hRe:=hR gM
  have alz:R.length=(bP ((q.take k).map Hb.b)).length:=by rw [hRe]
  refine Jb Z HM ((Jp 1∘Jl∘Jp 1∘Jl∘Ja∘Jp 3∘aN∘Jr∘Jp 2∘aT∘Jj) (Ju (fun wN=>?_) fun wN=>?_))
  ·
   intro a Z HM
   have hd34:=of_decide_eq_false ((Bool.not_eq_true' _).mp wN)
   replace Z:=Z.on 5 ((Bool.not_eq_true' _).mp wN)
   refine Jb Z HM ((JT∘JR∘Jp 2∘JD ((q.getD k Hb.zero).b.out.map B8) 2 (fun _ _=>fA) aM (hr:=by exact fun HM=>HM.rd (i:=0) rfl) (h1:=by exact Aq _)) fun yK jO c37 iP=>fun a Z HM=>?_)
   rw [show (R.map B8)++((q.getD k Hb.zero).b.out.map B8)=(R++(q.getD k Hb.zero).b.out).map B8 from by rw [List.map_append]] at HM
   refine Jb Z HM ((Jp 1∘fC∘Jq) fun a Z HM=>?_)
   have dD:R.length+((q.getD k Hb.zero).b.out.length)=(R++(q.getD k Hb.zero).b.out).length:=by rw [List.length_append]
   replace HM:=HM.bu (i:=2) (ys:=(R++(q.getD k Hb.zero).b.out).map B8) rfl dD (rfl)
   rw [dD] at iP
   replace Z:=Z.sp 4 (.slice jO ((R++(q.getD k Hb.zero).b.out).length) c37) rfl (by rw [dD])
   refine Jb Z HM ((JG∘JR∘dR 1∘Jp 1∘aT∘Jq) fun a Z HM=>?_)
   exact ⟨_,om,k+1,false,(R++(q.getD k Hb.zero).b.out),jO,c37,by omega,hE,(decide_eq_false om).symm,(by intro _;rw [hRe,X5 nZ]),(by rw [List.length_append];omega),iP,rfl,Z.sub kr,HM.pk [2]⟩
  intro a Z HM
  have hd34:=of_decide_eq_true ((Bool.not_eq_false' _).mp wN)
  replace Z:=Z.on 5 ((Bool.not_eq_false' _).mp wN)
  refine Jb Z HM ((JF∘aI∘JR∘dR 1∘Jp 1∘aT∘Jq) fun a Z HM=>?_)
  exact ⟨_,om,k+1,true,R,Ao,co,by omega,hE,(decide_eq_true om).symm,(by intro h;cases h),hRl,hco,rfl,Z.sub kr,HM.pk [2]⟩
 intro a Z HM
 have iE:=of_decide_eq_false cB
 have hkn:k=q.length:=by omega
 have hdn:dS (q.map Hb.b)=0:=by rw [her,List.drop_of_length_le om];rfl
 have htn:q.take k=q:=List.take_of_length_le om
 rw [htn] at KF hR
 refine Jb Z HM ((JF∘JX∘JG∘JQ∘JP∘Jp 1∘Jj) (Ju (fun nN=>?_) fun nN=>?_))
 ·
  intro a Z HM
  have hlong:524288<(bP (q.map Hb.b)).length:=of_decide_eq_true (KF.symm.trans nN)
  exact Jb Z HM ((JT∘JP∘Jp 2∘Jj∘JZ∘dL) fun HM=>Io HM.below (qpk hdn hlong) rfl)
 intro a Z HM
 have hlong:¬524288<(bP (q.map Hb.b)).length:=of_decide_eq_false (KF.symm.trans nN)
 have hRe:=hR nN
 exact Jb Z HM ((JF∘aI∘JP∘Jp 3∘Jj∘JZ∘dL) fun HM=>by rw [X0 hdn hlong,←hRe];exact ⟨⟨Ao,co,rfl,HM.own (i:=0) rfl,hco⟩,HM.below⟩)
theorem X9:∀(k:Nat) (l xs:List Nat) (u x m:Nat),aj k l=(xs,u,0)→ae (l.drop u)=(x,m,0)→aj (k+1) l=(xs++[x],u+m,0)
 |0,l,xs,u,x,m,h,h2=>by
  simp only [aj,Prod.mk.injEq] at h
  obtain ⟨rfl,rfl,_⟩:=h
  rw [List.drop_zero] at h2
  simp [aj,h2]
 | k + 1, l, xs, u, x, m, h, h2 => by
  rw [aj] at h
  split at h
  ·rename_i h1;simp at h;exact absurd h.2.2 h1
  ·rename_i h1
   split at h
   ·rename_i h3;simp at h;exact absurd h.2.2 h3
   ·rename_i h3
    simp only [Prod.mk.injEq] at h
    obtain ⟨rfl,rfl,_⟩:=h
    have hq:aj k (l.drop (ae l).2.1)=((aj k (l.drop (ae l).2.1)).1,(aj k (l.drop (ae l).2.1)).2.1,0):=by
     rw [←show (aj k (l.drop (ae l).2.1)).2.2=0 by omega]
    have h4:=X9 k _ _ _ x m hq (by rwa [List.drop_drop])
    rw [aj,if_neg h1,h4,if_neg (by simp)]
    simp [Nat.add_assoc]
theorem Ya:∀(k j:Nat) (l xs:List Nat) (u:Nat),aj k l=(xs,u,0)→(ae (l.drop u)).2.2≠0→(aj (k+1+j) l).2.2≠0
 |0,j,l,xs,u,h,h2=>by
  simp only [aj,Prod.mk.injEq] at h
  obtain ⟨rfl,rfl,_⟩:=h
  rw [List.drop_zero] at h2
  rw [show 0+1+j=j+1 by omega,aj,if_pos h2]
  exact h2
 | k + 1, j, l, xs, u, h, h2 => by
  rw [aj] at h
  split at h
  ·rename_i h1;simp at h;exact absurd h.2.2 h1
  ·rename_i h1
   split at h
   ·rename_i h3;simp at h;exact absurd h.2.2 h3
   ·rename_i h3
    simp only [Prod.mk.injEq] at h
    obtain ⟨rfl,rfl,_⟩:=h
    have hq:aj k (l.drop (ae l).2.1)=((aj k (l.drop (ae l).2.1)).1,(aj k (l.drop (ae l).2.1)).2.1,0):=by
     rw [←show (aj k (l.drop (ae l).2.1)).2.2=0 by omega]
    have h4:=Ya k j _ _ _ hq (by rwa [List.drop_drop])
    rw [show k+1+1+j=(k+1+j)+1 by omega,aj,if_neg h1,if_pos h4]
    exact h4
theorem Yb:∀(k:Nat) (l xs:List Nat) (u:Nat),aj k l=(xs,u,0)→xs.length=k∧k≤u∧u≤l.length
 |0,l,xs,u,h=>by
  simp only [aj,Prod.mk.injEq] at h
  obtain ⟨rfl,rfl,_⟩:=h
  simp
 | k + 1, l, xs, u, h => by
  rw [aj] at h
  split at h
  ·rename_i h1;simp at h;exact absurd h.2.2 h1
  ·rename_i h1
   split at h
   ·rename_i h3;simp at h;exact absurd h.2.2 h3
   ·rename_i h3
    simp only [Prod.mk.injEq] at h
    obtain ⟨rfl,rfl,_⟩:=h
    have hq:aj k (l.drop (ae l).2.1)=((aj k (l.drop (ae l).2.1)).1,(aj k (l.drop (ae l).2.1)).2.1,0):=by
     rw [←show (aj k (l.drop (ae l).2.1)).2.2=0 by omega]
    obtain ⟨h4,h5,h6⟩:=Yb k _ _ _ hq
    have h7:=U7 l (by omega)
    have h8:=wY l
    rw [List.length_drop] at h6
    refine ⟨by simp [h4],by omega,by omega⟩
structure Pr where
 nx:Nat
 cp:Nat
 cr:Nat
 gp:Nat
 gs:List Nat
 cl:List Nat
 cu:List Nat
 tk:Nat
 ts:List Nat
 sp:List Nat
 e1:Nat
 e2:Nat
 e3:Nat
 e4:Nat
 e5:Nat
 e6:Nat
 e7:Nat
section
variable {α:Type} {b:List Nat} {a x n u:Nat} {xs:List Nat}
def kV (b:List Nat) (a:Nat) (k:Nat→Nat→Except Nat α):Except Nat α:=if (ae (b.drop a)).2.2≠0 then .error 344 else k (ae (b.drop a)).1 (a+(ae (b.drop a)).2.1)
def jH (b:List Nat) (n a:Nat) (k:List Nat→Nat→Except Nat α):Except Nat α:=if (aj n (b.drop a)).2.2≠0 then .error 344 else k (aj n (b.drop a)).1 (a+(aj n (b.drop a)).2.1)
def cnt1 (b:List Nat) (a lo hi:Nat) (k:Nat→Nat→Except Nat α):Except Nat α:=kV b a fun x e=>if x<lo∨hi<x then .error 345 else k x e
theorem RZ {k:Nat→Nat→Except Nat α} (h:ae (b.drop a)=(x,n,0)):kV b a k=k x (a+n):=by unfold kV;rw [h];rfl
theorem Nl {k:Nat→Nat→Except Nat α} (h:(ae (b.drop a)).2.2≠0):kV b a k= .error 344:=if_pos h
theorem q4w {k:List Nat→Nat→Except Nat α} (h:aj n (b.drop a)=(xs,u,0)):jH b n a k=k xs (a+u):=by unfold jH;rw [h];rfl
theorem Fj {k:List Nat→Nat→Except Nat α} (h:(aj n (b.drop a)).2.2≠0):jH b n a k= .error 344:=if_pos h
theorem q4x {k:Nat→Nat→Except Nat α} {lo hi:Nat} (h:ae (b.drop a)=(x,n,0)) (h2:¬(x<lo∨hi<x)):cnt1 b a lo hi k=k x (a+n):=by unfold cnt1;rw [RZ h,if_neg h2]
theorem q0n {k:Nat→Nat→Except Nat α} {lo hi:Nat} (h:ae (b.drop a)=(x,n,0)) (h2:x<lo∨hi<x):cnt1 b a lo hi k= .error 345:=by unfold cnt1;rw [RZ h,if_pos h2]
theorem Nn {k:Nat→Nat→Except Nat α} {lo hi:Nat} (h:(ae (b.drop a)).2.2≠0):cnt1 b a lo hi k= .error 344:=Nl h
theorem q0o (b:List Nat) (a:Nat):(ae (b.drop a)).2.2≠0∨∃x n,ae (b.drop a)=(x,n,0):=by
 by_cases h:(ae (b.drop a)).2.2=0
 ·exact .inr ⟨(ae (b.drop a)).1,(ae (b.drop a)).2.1,by rw [←h]⟩
 ·exact .inl h
theorem q0p (b:List Nat) (k a:Nat):(aj k (b.drop a)).2.2≠0∨∃xs u,aj k (b.drop a)=(xs,u,0):=by
 by_cases h:(aj k (b.drop a)).2.2=0
 ·exact .inr ⟨(aj k (b.drop a)).1,(aj k (b.drop a)).2.1,by rw [←h]⟩
 ·exact .inl h
theorem Zb (ha:a≤b.length) (h:ae (b.drop a)=(x,n,0)):0<n∧a+n≤b.length:=by
 have h1:=wY (b.drop a)
 have h2:=U7 (b.drop a) (by rw [h])
 rw [h] at h1 h2
 rw [List.length_drop] at h1
 exact ⟨h2,by simp only at h1;omega⟩
theorem q0q (ha:a≤b.length) (h:aj n (b.drop a)=(xs,u,0)):xs.length=n∧n≤u∧a+u≤b.length:=by
 have h1:=Yb _ _ _ _ h
 rw [List.length_drop] at h1
 omega
theorem qw7 {l:List Nat} {er:Nat} (h:ae l=(x,n,er)) (h2:(er:Int)≠0):(ae l).2.2≠0:=by rw [h];show er≠0;omega
theorem qw8 (hl:∀z∈b,z<256) (h:ae (b.drop a)=(x,n,0)):x<18446744073709551616:=by
 have:=F4 (b.drop a) fun z hz=>hl z (List.mem_of_mem_drop hz)
 rwa [h] at this
end
def aV (b:List Nat) (p x e:Nat):Prop:=ae (b.drop p)=(x,e-p,0)∧p≤e
def zy (b:List Nat) (n p:Nat) (xs:List Nat) (e:Nat):Prop:=aj n (b.drop p)=(xs,e-p,0)∧p≤e
section
variable {α:Type} {b:List Nat} {p x e n:Nat} {xs:List Nat}
theorem aV.eq (h:aV b p x e):p+(e-p)=e:=by have:=h.2;omega
theorem zy.eq (h:zy b n p xs e):p+(e-p)=e:=by have:=h.2;omega
theorem aV.of {m:Nat} (h:ae (b.drop p)=(x,m,0)):aV b p x (p+m):=⟨by rw [h,Nat.add_sub_cancel_left],by omega⟩
theorem zy.of {m:Nat} (h:aj n (b.drop p)=(xs,m,0)):zy b n p xs (p+m):=⟨by rw [h,Nat.add_sub_cancel_left],by omega⟩
theorem Fp (b:List Nat) (p:Nat):(ae (b.drop p)).2.2≠0∨∃x e,aV b p x e:=by
 rcases q0o b p with h|⟨x,n,h⟩
 ·exact .inl h
 ·exact .inr ⟨x,_,.of h⟩
theorem Fq (b:List Nat) (n p:Nat):(aj n (b.drop p)).2.2≠0∨∃xs e,zy b n p xs e:=by
 rcases q0p b n p with h|⟨xs,u,h⟩
 ·exact .inl h
 ·exact .inr ⟨xs,_,.of h⟩
theorem aV.go1 {k:Nat→Nat→Except Nat α} (h:aV b p x e):kV b p k=k x e:=by rw [RZ h.1,h.eq]
theorem zy.Fs {k:List Nat→Nat→Except Nat α} (h:zy b n p xs e):jH b n p k=k xs e:=by rw [q4w h.1,h.eq]
theorem aV.goC {k:Nat→Nat→Except Nat α} {lo hi:Nat} (h:aV b p x e) (h2:¬(x<lo∨hi<x)):cnt1 b p lo hi k=k x e:=by rw [q4x h.1 h2,h.eq]
theorem aV.bad {k:Nat→Nat→Except Nat α} {lo hi:Nat} (h:aV b p x e) (h2:x<lo∨hi<x):cnt1 b p lo hi k= .error 345:=q0n h.1 h2
theorem aV.in (h:aV b p x e) (hp:p≤b.length):p<e∧e≤b.length:=by have:=Zb hp h.1;have:=h.2;omega
theorem zy.in (h:zy b n p xs e) (hp:p≤b.length):xs.length=n∧p+n≤e∧e≤b.length:=by have:=q0q hp h.1;have:=h.2;omega
theorem aV.lt (h:aV b p x e) (hl:∀z∈b,z<256):x<18446744073709551616:=qw8 hl h.1
theorem aV.one {x2 e2:Nat} (h:aV b p x e) (h2:aV b p x2 e2):x2=x∧e2=e:=by
 have h3:=h.1.symm.trans h2.1
 injection h3 with h3 h4
 injection h4 with h4
 have:=h.2
 have:=h2.2
 exact ⟨h3.symm,by omega⟩
theorem zy.one {Zc:List Nat} {e2:Nat} (h:zy b n p xs e) (h2:zy b n p Zc e2):Zc=xs∧e2=e:=by
 have h3:=h.1.symm.trans h2.1
 injection h3 with h3 h4
 injection h4 with h4
 have:=h.2
 have:=h2.2
 exact ⟨h3.symm,by omega⟩
theorem zy.nil (b:List Nat) (p:Nat):zy b 0 p [] p:=⟨by rw [Nat.sub_self];rfl,Nat.le_refl _⟩
theorem zy.snoc {y f:Nat} (h:zy b n p xs e) (h2:aV b e y f):zy b (n+1) p (xs++[y]) f:=by
 have h3:=h.2
 have h4:=h2.2
 have:=X9 n _ xs (e-p) y (f-e) h.1 (by rw [List.drop_drop,h.eq];exact h2.1)
 exact ⟨by rw [this];congr 2;omega,by omega⟩
theorem zy.stuck {m:Nat} (h:zy b n p xs e) (hn:n<m) (h2:(ae (b.drop e)).2.2≠0):(aj m (b.drop p)).2.2≠0:=by
 have:=Ya n (m- (n+1)) _ xs (e-p) h.1 (by rw [List.drop_drop,h.eq];exact h2)
 rwa [show n+1+(m- (n+1))=m by omega] at this
end
theorem nR {q:List Nat} {x p e:Nat} (h:q.length≤p) (h2:p<e):(q++[x]).length≤e:=by rw [List.length_append];show q.length+1≤e;omega
theorem nS {q xs:List Nat} {p e n:Nat} (h:q.length≤p) (h2:xs.length=n) (h3:p+n≤e):(q++xs).length≤e:=by rw [List.length_append];omega
theorem Np (b:List Nat) (p lo hi:Nat):(ae (b.drop p)).2.2≠0∨(∃x e,aV b p x e∧(x<lo∨hi<x))∨∃x e,aV b p x e∧¬(x<lo∨hi<x):=by
 rcases Fp b p with h|⟨x,e,h⟩
 ·exact .inl h
 ·by_cases h2:x<lo∨hi<x
  ·exact .inr (.inl ⟨x,e,h,h2⟩)
  ·exact .inr (.inr ⟨x,e,h,h2⟩)
theorem Zd {m n:Nat} (h:m*n≤9223372036854775807):Value.int .i64 (Go.IntKind.i64.wrap ((m:Int)*(n:Int)))= .int .i64 ((m*n:Nat):Int):=by
 rw [←Int.natCast_mul]
 exact uz rfl h
def ji (l:List fT):Nat:=(l.getD (l.length-1) fT.zero).to
theorem q0r {l:List fT} (h:l.length=0):ji l=0:=by rw [List.length_eq_zero_iff] at h;subst h;rfl
def vz (b:List Nat) (nx:Nat) (e1:Nat) (cp:Nat) (a1:Nat) (cr:Nat) (a2:Nat) (gp:Nat) (e2:Nat) (gs:List Nat) (e3:Nat) (cl:List Nat) (e4:Nat) (cu:List Nat) (e5:Nat) (tk:Nat) (a3:Nat) (ts:List Nat) (e6:Nat) (sp:List Nat) (e7:Nat):Except Nat Pr:=if e7≠b.length then .error 346 else .ok ⟨nx,cp,cr,gp,gs,cl,cu,tk,ts,sp,e1,e2,e3,e4,e5,e6,e7⟩
def R3 (b:List Nat) (nx:Nat) (e1:Nat) (cp:Nat) (a1:Nat) (cr:Nat) (a2:Nat) (gp:Nat) (e2:Nat) (gs:List Nat) (e3:Nat) (cl:List Nat) (e4:Nat) (cu:List Nat) (e5:Nat) (tk:Nat) (a3:Nat) (ts:List Nat) (e6:Nat):Except Nat Pr:=jH b (cp+3*cp*(gp-1)) e6 (vz b nx e1 cp a1 cr a2 gp e2 gs e3 cl e4 cu e5 tk a3 ts e6)
def R4 (b:List Nat) (nx:Nat) (e1:Nat) (cp:Nat) (a1:Nat) (cr:Nat) (a2:Nat) (gp:Nat) (e2:Nat) (gs:List Nat) (e3:Nat) (cl:List Nat) (e4:Nat) (cu:List Nat) (e5:Nat) (tk:Nat) (a3:Nat):Except Nat Pr:=jH b (8*tk) a3 (R3 b nx e1 cp a1 cr a2 gp e2 gs e3 cl e4 cu e5 tk a3)
def R5 (b:List Nat) (nx:Nat) (e1:Nat) (cp:Nat) (a1:Nat) (cr:Nat) (a2:Nat) (gp:Nat) (e2:Nat) (gs:List Nat) (e3:Nat) (cl:List Nat) (e4:Nat) (cu:List Nat) (e5:Nat):Except Nat Pr:=cnt1 b e5 0 65535 (R4 b nx e1 cp a1 cr a2 gp e2 gs e3 cl e4 cu e5)
def R6 (b:List Nat) (nx:Nat) (e1:Nat) (cp:Nat) (a1:Nat) (cr:Nat) (a2:Nat) (gp:Nat) (e2:Nat) (gs:List Nat) (e3:Nat) (cl:List Nat) (e4:Nat):Except Nat Pr:=jH b cp e4 (R5 b nx e1 cp a1 cr a2 gp e2 gs e3 cl e4)
def R7 (b:List Nat) (nx:Nat) (e1:Nat) (cp:Nat) (a1:Nat) (cr:Nat) (a2:Nat) (gp:Nat) (e2:Nat) (gs:List Nat) (e3:Nat):Except Nat Pr:=jH b cp e3 (R6 b nx e1 cp a1 cr a2 gp e2 gs e3)
def R8 (b:List Nat) (nx:Nat) (e1:Nat) (cp:Nat) (a1:Nat) (cr:Nat) (a2:Nat) (gp:Nat) (e2:Nat):Except Nat Pr:=jH b (2*(gp-1)) e2 (R7 b nx e1 cp a1 cr a2 gp e2)
def R9 (b:List Nat) (nx:Nat) (e1:Nat) (cp:Nat) (a1:Nat) (cr:Nat) (a2:Nat):Except Nat Pr:=cnt1 b a2 1 256 (R8 b nx e1 cp a1 cr a2)
def Sa (b:List Nat) (nx:Nat) (e1:Nat) (cp:Nat) (a1:Nat):Except Nat Pr:=kV b a1 (R9 b nx e1 cp a1)
def Sb (b:List Nat) (nx:Nat) (e1:Nat):Except Nat Pr:=cnt1 b e1 1 64 (Sa b nx e1)
def tJ (b:List Nat):Except Nat Pr:=kV b 3 (Sb b)
def Pr.nums (p:Pr):List Nat:=[p.nx,p.cp,p.cr,p.gp]++p.gs++p.cl++p.cu++[p.tk]++p.ts++p.sp
def Pr.secs (p:Pr):List fT:=[qd,⟨qa 0,3,p.e1⟩,⟨qa 1,p.e1,p.e2⟩,⟨qa 2,p.e2,p.e3⟩,⟨qa 3,p.e3,p.e4⟩,⟨qa 4,p.e4,p.e5⟩,⟨qa 5,p.e5,p.e6⟩,⟨qa 6,p.e6,p.e7⟩,⟨⟨#[115,117,109]⟩,p.e7,p.e7+4⟩]
section
variable {α:Type} {b:List Nat} {a n:Nat} {er:Nat}
theorem Sc {k:Nat→Nat→Except Nat α} (h:kV b a k= .error er):er=344∨∃x e,k x e= .error er:=by
 unfold kV at h
 split at h
 ·injection h with h;exact .inl h.symm
 ·exact .inr ⟨_,_,h⟩
theorem IX {k:List Nat→Nat→Except Nat α} (h:jH b n a k= .error er):er=344∨∃x e,k x e= .error er:=by
 unfold jH at h
 split at h
 ·injection h with h;exact .inl h.symm
 ·exact .inr ⟨_,_,h⟩
theorem Sd {lo hi:Nat} {k:Nat→Nat→Except Nat α} (h:cnt1 b a lo hi k= .error er):(er=344∨er=345)∨∃x e,k x e= .error er:=by
 unfold cnt1 at h
 rcases Sc h with h|⟨x,e,h⟩
 ·exact .inl (.inl h)
 ·split at h
  ·injection h with h;exact .inl (.inr h.symm)
  ·exact .inr ⟨_,_,h⟩
end
theorem Ze {b:List Nat} {er:Nat} (h:tJ b= .error er):344≤er∧er≤346:=by
 rcases Sc h with h|⟨_,_,h⟩; · omega
 rcases Sd h with h|⟨_,_,h⟩; · omega
 rcases Sc h with h|⟨_,_,h⟩; · omega
 rcases Sd h with h|⟨_,_,h⟩; · omega
 rcases IX h with h|⟨_,_,h⟩; · omega
 rcases IX h with h|⟨_,_,h⟩; · omega
 rcases IX h with h|⟨_,_,h⟩; · omega
 rcases Sd h with h|⟨_,_,h⟩; · omega
 rcases IX h with h|⟨_,_,h⟩; · omega
 rcases IX h with h|⟨_,_,h⟩; · omega
 unfold vz at h
 split at h
 ·injection h with h;omega
 ·cases h
def dx (l:List Nat):Except Nat Pr:=
 if l.length<15 then .error 340 else if 16777216<l.length then .error 3 else if zn l=false then .error 341 else
 if ¬(l.getD 0 0=113∧l.getD 1 0=115) then .error 342 else if l.getD 2 0≠1 then .error 343 else tJ (l.take (l.length-4))
section
variable {l:List Nat}
theorem qxa (h:l.length<15):dx l= .error 340:=if_pos h
theorem q0s (h:¬l.length<15) (h2:16777216<l.length):dx l= .error 3:=by unfold dx;rw [if_neg h,if_pos h2]
theorem q4y (h:¬l.length<15) (h2:¬16777216<l.length) (h3:zn l=false):dx l= .error 341:=by unfold dx;rw [if_neg h,if_neg h2,if_pos h3]
theorem Zf (h:¬l.length<15) (h2:¬16777216<l.length) (h3:zn l=true) (h4:¬(l.getD 0 0=113∧l.getD 1 0=115)):dx l= .error 342:=by unfold dx;rw [if_neg h,if_neg h2,h3,if_neg de,if_pos h4]
theorem qpy (h:¬l.length<15) (h2:¬16777216<l.length) (h3:zn l=true) (h4:l.getD 0 0=113∧l.getD 1 0=115) (h5:l.getD 2 0≠1):dx l= .error 343:=by unfold dx;rw [if_neg h,if_neg h2,h3,if_neg de,if_neg (fun x=>x h4),if_pos h5]
theorem q4z (h:¬l.length<15) (h2:¬16777216<l.length) (h3:zn l=true) (h4:l.getD 0 0=113∧l.getD 1 0=115) (h5:l.getD 2 0=1):dx l=tJ (l.take (l.length-4)):=by unfold dx;rw [if_neg h,if_neg h2,h3,if_neg de,if_neg (fun x=>x h4),if_neg (fun x=>x h5)]
theorem Sg {er:Nat} (h:dx l= .error er):1≤er∧er≤346:=by
 unfold dx at h
 split at h
 ·injection h with h;omega
 ·split at h
  ·injection h with h;omega
  ·split at h
   ·injection h with h;omega
   ·split at h
    ·injection h with h;omega
    ·split at h
     ·injection h with h;omega
     ·have:=Ze h;omega
end
section
variable {l:List Nat} {p:Pr} {k:Nat}
end
theorem IY {w:World} {B a c:Nat} {A:Option Addr} {b:List Nat} (h:Rd w B 1 A b.length (b.map B8)) (ha:a≤b.length) (hc:b.length≤c):Rd w B 1 (if c=a then A else A.map (·.add (a*1))) (b.drop a).length ((b.drop a).map B8):=by
 have h1:=h.xw (i:=a) (j:=b.length) ha (Nat.le_refl _) hc
 rw [List.take_length] at h1
 rw [List.length_drop]
 exact h1
theorem q0t {A:Option Addr} {c:Nat} {l:List Nat} {w:World} {x n er:Nat} (h:ae l=(x,n,er)) (hr:Rd w w.heap.size 1 A l.length (l.map B8)) (hl:∀b∈l,b<256) (hn:l.length≤200000000000000):
  Calls Tryz.prog 62 #[.slice A l.length c] w (Is w (.tuple #[.int .u64 (x:Int),.int .i64 (n:Int),.int .i64 (er:Int)])):=by
 have:=LB A l.length c l w hr hl hn
 rw [h] at this
 exact this
def dI:TypeId:=61
theorem Nq {W:World} {fs:List ag} (k:Int) (w:World) (HW:Mem W w fs):Calls Tryz.prog 244 #[.int .i64 k] w (iR W fs (oO dI k)):=by
 refine EH (vs:=[.int .i64 k]) Tryz.func244 rfl rfl kr (σ0:=[(0,.int .i64 k)]) rfl ?_
 intro a Z
 refine zq ?_
 refine fp Z 1 0 [(2,.int .i64 k)] fun a Z=>fy Z HW 1 rfl rfl rfl (Yl.makeInterface rfl rfl) fun a Z=>?_
 refine fo Z 2 rfl rfl ?_
 refine q4q Z rfl rfl ?_
 exact Fh Z ⟨rfl,HW⟩
theorem qxb {W:World} {fs gs:List ag} {i g:Nat} (k x:Int) (w:World) (HM:Mem W w fs) (hi:fs[i]?=some (.blk g #[.int .i64 x] dI)) (hg:fs.set i (.blk g #[.int .i64 k] dI)=gs):CallsD Tryz.prog 239 [Value.pointer (some ⟨g,0,none⟩)].toArray (.panicking (oO dI k)) w (mM W gs):=by
 subst hg
 refine Y0 Tryz.func239 rfl rfl kr (σ0:=[(0,.pointer (some ⟨g,0,none⟩))]) rfl fun c₀ cs a hu Z=>?_
 refine wpS_seq (wpS_region ?_)
 refine YY (i:=0) (v:= .iface dI (.int .i64 k)) (cs':={c₀ with mode:= .panicking [{v:= .iface dI (.int .i64 k),recovered:=true}]}::cs) Z rfl rfl rfl rfl de (.inl (by unfold oO at hu;simp [recoverD,hu])) fun a Z=>?_
 refine YZ (i:=1) Z rfl rfl rfl rfl de fun a Z=>?_
 refine wpS_of_wp (wp_seq ?_)
 refine zq ?_
 refine fp Z 1 0 [(6,.iface dI (.int .i64 k))] fun a Z=>fy Z HM 1 rfl rfl rfl (Yl.q1s rfl rfl) fun a Z=>?_
 refine fp Z 5 2 [(2,.int .i64 k),(3,.bool true)] fun a Z=>yo rfl ?_
 refine wp_seq (wp_seq ?_)
 refine zq ?_
 refine fp Z 1 0 [(10,.iface dI (.int .i64 k))] fun a Z=>fy Z HM 1 rfl rfl rfl (Yl.q58 rfl rfl rfl) fun a Z=>?_
 refine fp Z 4 2 [(15,.bool false)] fun a Z=>yo rfl ?_
 refine PZ Z rfl (wp_skip ?_)
 refine zq ?_
 refine fp Z 1 0 [(17,.int .i64 k)] fun a Z=>fo Z 1 rfl rfl ?_
 refine Mj Z HM (i:=i) rfl rfl rfl rfl kr rfl hi (by simp) fun w2 HM=>?_
 refine yo rfl ?_
 exact Y1 rfl Z ⟨rfl,rfl,HM⟩
theorem qto {W:World} {fs gs:List ag} {i g:Nat} (x:Int) (w:World) (HM:Mem W w fs) (hi:fs[i]?=some (.blk g #[.int .i64 x] dI)) (hg:fs.set i (.blk g #[.int .i64 0] dI)=gs):CallsD Tryz.prog 239 [Value.pointer (some ⟨g,0,none⟩)].toArray .returning w (mM W gs):=by
 subst hg
 refine Y0 Tryz.func239 rfl rfl kr (σ0:=[(0,.pointer (some ⟨g,0,none⟩))]) rfl fun c₀ cs a hu Z=>?_
 refine wpS_seq (wpS_region ?_)
 refine YY (i:=0) (v:= .nilIface) (cs':=c₀::cs) Z rfl rfl rfl rfl de (.inr ⟨by simp [recoverD,hu],rfl,rfl⟩) fun a Z=>?_
 refine YZ (i:=1) Z rfl rfl rfl rfl de fun a Z=>?_
 refine wpS_of_wp (wp_seq ?_)
 refine zq ?_
 refine fp Z 1 0 [(6,.nilIface)] fun a Z=>fy Z HM 1 rfl rfl rfl (Yl.qyy (z:= .int .i64 0) rfl rfl kr) fun a Z=>?_
 refine fp Z 5 2 [(2,.int .i64 0),(3,.bool false)] fun a Z=>yo rfl ?_
 refine wp_seq (wp_seq ?_)
 refine zq ?_
 refine fp Z 1 0 [(10,.nilIface)] fun a Z=>fy Z HM 1 rfl rfl rfl (Yl.q8g rfl rfl) fun a Z=>?_
 refine fp Z 4 2 [(15,.bool false)] fun a Z=>yo rfl ?_
 refine PZ Z rfl (wp_skip ?_)
 refine zq ?_
 refine fp Z 1 0 [(17,.int .i64 0)] fun a Z=>fo Z 1 rfl rfl ?_
 refine Mj Z HM (i:=i) rfl rfl rfl rfl kr rfl hi (by simp) fun w2 HM=>?_
 refine yo rfl ?_
 have hc:c₀={c₀ with mode:=FrameMode.returning}:=by cases c₀;simp at hu;rw [hu]
 rw [hc]
 exact Y1 rfl Z ⟨rfl,rfl,HM⟩
section
variable {α:Type} {b:List Nat} {a n:Nat} {p:α}
theorem Zg {k:Nat→Nat→Except Nat α} (h:kV b a k= .ok p):∃x e,aV b a x e∧k x e= .ok p:=by
 rcases Fp b a with h2|⟨x,e,h2⟩
 ·rw [Nl h2] at h;cases h
 ·rw [h2.go1] at h;exact ⟨x,e,h2,h⟩
theorem IZ {k:List Nat→Nat→Except Nat α} (h:jH b n a k= .ok p):∃xs e,zy b n a xs e∧k xs e= .ok p:=by
 rcases Fq b n a with h2|⟨x,e,h2⟩
 ·rw [Fj h2] at h;cases h
 ·rw [h2.Fs] at h;exact ⟨x,e,h2,h⟩
theorem Si {lo hi:Nat} {k:Nat→Nat→Except Nat α} (h:cnt1 b a lo hi k= .ok p):∃x e,aV b a x e∧(lo≤x∧x≤hi)∧k x e= .ok p:=by
 rcases Np b a lo hi with h2|⟨x,e,h2,h3⟩|⟨x,e,h2,h3⟩
 ·rw [Nn h2] at h;cases h
 ·rw [h2.bad h3] at h;cases h
 ·rw [h2.goC h3] at h;exact ⟨x,e,h2,by omega,h⟩
end
section
variable {b:List Nat} {p x e n:Nat} {xs:List Nat}
theorem aV.bytes (h:aV b p x e) (hl:∀z∈b,z<256):b.drop p=ah x++b.drop e:=by
 rw [G5 (fun z hz=>hl z (List.mem_of_mem_drop hz)) h.1]
 have:=List.take_append_drop (e-p) (b.drop p)
 rw [List.drop_drop,h.eq] at this
 exact this.symm
theorem zy.bytes (h:zy b n p xs e) (hl:∀z∈b,z<256):b.drop p=xs.flatMap ah++b.drop e∧∀x∈xs,x<18446744073709551616:=by
 obtain ⟨h1,_,h3,_⟩:=Qe n _ xs _ (fun z hz=>hl z (List.mem_of_mem_drop hz)) h.1
 refine ⟨?_,h3⟩
 rw [h1]
 have:=List.take_append_drop (e-p) (b.drop p)
 rw [List.drop_drop,h.eq] at this
 exact this.symm
end
structure Pr.Fit (p:Pr):Prop where
 cp1:1≤p.cp
 cp2:p.cp≤64
 Zh:1≤p.gp
 I1:p.gp≤256
 tk:p.tk≤65535
 gs:p.gs.length=2*(p.gp-1)
 cl:p.cl.length=p.cp
 cu:p.cu.length=p.cp
 ts:p.ts.length=8*p.tk
 sp:p.sp.length=p.cp+3*p.cp*(p.gp-1)
 lt:∀x∈p.nums,x<18446744073709551616
theorem q40 {b:List Nat} {p:Pr} (hb:3≤b.length) (hl:∀z∈b,z<256) (h:tJ b= .ok p):p.Fit∧b.drop 3=p.nums.flatMap ah:=by
 obtain ⟨nx,e1,h1,h⟩:=Zg h
 obtain ⟨cp,a1,h2,c2,h⟩:=Si h
 obtain ⟨cr,a2,h3,h⟩:=Zg h
 obtain ⟨gp,e2,h4,c4,h⟩:=Si h
 obtain ⟨gs,e3,h5,h⟩:=IZ h
 obtain ⟨cl,e4,h6,h⟩:=IZ h
 obtain ⟨cu,e5,h7,h⟩:=IZ h
 obtain ⟨tk,a3,h8,c8,h⟩:=Si h
 obtain ⟨ts,e6,h9,h⟩:=IZ h
 obtain ⟨sp,e7,h10,h⟩:=IZ h
 unfold vz at h
 split at h
 ·cases h
 rename_i he
 injection h with h
 subst h
 have i1:=h1.in hb
 have i2:=h2.in i1.2
 have i3:=h3.in i2.2
 have i4:=h4.in i3.2
 have i5:=h5.in i4.2
 have i6:=h6.in i5.2.2
 have i7:=h7.in i6.2.2
 have i8:=h8.in i7.2.2
 have i9:=h9.in i8.2
 have i10:=h10.in i9.2.2
 have b5:=h5.bytes hl
 have b6:=h6.bytes hl
 have b7:=h7.bytes hl
 have b9:=h9.bytes hl
 have b10:=h10.bytes hl
 have hend:b.drop e7=[]:=List.drop_eq_nil_of_le om
 refine ⟨⟨c2.1,c2.2,c4.1,c4.2,c8.2,i5.1,i6.1,i7.1,i9.1,i10.1,fun x hx=>?_⟩,?_⟩
 ·simp only [Pr.nums,List.mem_append,List.mem_cons,List.not_mem_nil,or_false] at hx
  rcases hx with (((((((rfl|rfl|rfl|rfl)|hx)|hx)|hx)|rfl)|hx)|hx)
  ·exact h1.lt hl
  ·exact h2.lt hl
  ·exact h3.lt hl
  ·exact h4.lt hl
  ·exact b5.2 x hx
  ·exact b6.2 x hx
  ·exact b7.2 x hx
  ·exact h8.lt hl
  ·exact b9.2 x hx
  ·exact b10.2 x hx
 ·rw [h1.bytes hl,h2.bytes hl,h3.bytes hl,h4.bytes hl,b5.1,b6.1,b7.1,h8.bytes hl,b9.1,b10.1,hend]
  simp [Pr.nums]
def aP (x:Nat):Int:=Go.IntKind.i64.wrap (x:Int)
def ai:Nat:=4611686018427387904
def bi {α:Type} (n:Nat) (f:Nat→α):List α:=(List.range n).map f
theorem pX {α:Type} (n:Nat) (f:Nat→α):(bi n f).length=n:=by simp [bi]
theorem yY {α:Type} (n:Nat) (f:Nat→α):bi (n+1) f=bi n f++[f n]:=by unfold bi;rw [List.range_succ,List.map_append];rfl
theorem Dx {α:Type} {n i:Nat} {f:Nat→α} {d:α} (h:i<n):(bi n f).getD i d=f i:=by
 unfold bi
 rw [List.getD_eq_getElem?_getD,List.getElem?_map,List.getElem?_range h]
 rfl
theorem q0u {α β:Type} (n:Nat) (f:Nat→α) (g:α→β):(bi n f).map g=bi n fun i=>g (f i):=by unfold bi;rw [List.map_map];rfl
theorem Zi {l:List Nat} {n:Nat} (h:l.length=n) (f:Nat→Int):(bi n fun i=>f (l.getD i 0))=l.map f:=by
 subst h
 refine List.ext_getElem (by simp [bi]) fun i h1 h2=>?_
 have h3:i<l.length:=by simpa using h2
 simp [bi,List.getElem?_eq_getElem h3]
def Pr.dZ (p:Pr) (g:Nat):Gr:=if g=0 then ⟨0,1⟩ else ⟨aP (p.gs.getD (2*(g-1)) 0),aP (p.gs.getD (2*(g-1)+1) 0)⟩
def Pr.tn (p:Pr) (i j:Nat):Nat:=p.ts.getD (8*i+j) 0
def Pr.qY (p:Pr):Nat→Int
 |0=>0
 |i+1=>if 65535<Go.IntKind.i64.wrap (p.qY i+aP (p.tn i 0)) then 65535 else Go.IntKind.i64.wrap (p.qY i+aP (p.tn i 0))
def Pr.jd (p:Pr) (i:Nat):Int:=Go.IntKind.i64.wrap (p.qY i+aP (p.tn i 0))
def Pr.sF (p:Pr) (i:Nat):Tk:=⟨p.jd i,aP (p.tn i 1),aP (p.tn i 2),aP (p.tn i 3),p.tn i 4,decide (p.tn i 5=1),p.tn i 6,p.tn i 7%4294967296⟩
def Pr.so (p:Pr) (g c:Nat):Nat:=if g=0 then c else p.cp+3*p.cp*(g-1)+3*c
def Pr.sn (p:Pr) (g c j:Nat):Nat:=p.sp.getD (p.so g c+j) 0
def Pr.pY (p:Pr) (g c:Nat):Sp:=if g=0 then ⟨0,0,p.sn g c 0⟩ else ⟨p.sn g c 0,p.sn g c 1%4294967296,p.sn g c 2⟩
def Pr.row (p:Pr) (g:Nat):List Sp:=bi p.cp (p.pY g)
def Pr.oP (p:Pr):bT:=⟨aP p.nx,⟨(p.cp:Int),p.cr,none,0,bi p.gp p.dZ,none,0,p.cl.map aP,none,0,p.cu.map aP,none,0,bi p.tk p.sF,none,0,bi p.gp fun g=>⟨none,0,p.row g⟩⟩⟩
def aH (x m:Nat):Bool:=decide (x≤m)
def Pr.ok0 (p:Pr):Bool:=(((true&&aH p.nx ai)&&aH p.cp ai)&&aH p.cr 18446744073709551615)&&aH p.gp ai
def Pr.mX (p:Pr):Nat→Bool
 |0=>p.ok0
 |g+1=>if g=0 then p.ok0 else (p.mX g&&aH (p.gs.getD (2*(g-1)) 0) ai)&&aH (p.gs.getD (2*(g-1)+1) 0) ai
def Pr.yZ (p:Pr):Nat→Bool
 |0=>p.mX p.gp
 |k+1=>p.yZ k&&aH (p.cl.getD k 0) ai
def Pr.vC (p:Pr):Nat→Bool
 |0=>p.yZ p.cp
 |k+1=>p.vC k&&aH (p.cu.getD k 0) ai
def Pr.gB (p:Pr):Nat→Bool
 |0=>p.vC p.cp&&aH p.tk ai
 |i+1=>((((((((p.gB i&&aH (p.tn i 0) ai)&&aH (p.tn i 1) ai)&&aH (p.tn i 2) ai)&&aH (p.tn i 3) ai)&&aH (p.tn i 4) 18446744073709551615)&&aH (p.tn i 5) 1)&&aH (p.tn i 6) 18446744073709551615)&&aH (p.tn i 7) 4294967295)&&decide (p.jd i≤65535)
def Pr.jy (p:Pr) (base:Bool) (g:Nat):Nat→Bool
 |0=>base
 |c+1=>if g=0 then p.jy base g c&&aH (p.sn g c 0) 18446744073709551615 else ((p.jy base g c&&aH (p.sn g c 0) 18446744073709551615)&&aH (p.sn g c 1) 4294967295)&&aH (p.sn g c 2) 18446744073709551615
def Pr.ky (p:Pr):Nat→Bool
 |0=>p.gB p.tk
 |g+1=>p.jy (p.ky g) g p.cp
def Pr.okB (p:Pr):Bool:=p.ky p.gp
section
variable {p:Pr} (h:p.Fit)
def Pr.oC (p:Pr):Nat:=4+2*(p.gp-1)
def Pr.oT (p:Pr):Nat:=p.oC+2*p.cp
def Pr.oS (p:Pr):Nat:=p.oT+1+8*p.tk
theorem Nr {l m:List Nat} {k:Nat} (hk:k<l.length):(l++m).getD k 0=l.getD k 0:=by
 rw [List.getD_eq_getElem?_getD,List.getElem?_append_left hk,←List.getD_eq_getElem?_getD]
theorem Fu {l m:List Nat} {k j:Nat} (hk:k=l.length+j):(l++m).getD k 0=m.getD j 0:=by
 rw [List.getD_eq_getElem?_getD,List.getElem?_append_right om,←List.getD_eq_getElem?_getD,hk,Nat.add_sub_cancel_left]
theorem q0v (p:Pr):p.nums.getD 0 0=p.nx∧p.nums.getD 1 0=p.cp∧p.nums.getD 2 0=p.cr∧p.nums.getD 3 0=p.gp:=by
 unfold Pr.nums
 simp [List.append_assoc]
include h in
theorem q0w:p.nums.length=p.oS+p.sp.length∧p.sp.length=p.cp+3*p.cp*(p.gp-1):=by
 unfold Pr.nums Pr.oS Pr.oT Pr.oC
 simp only [List.length_append,List.length_cons,List.length_nil,h.gs,h.cl,h.cu,h.ts]
 exact ⟨by omega,h.sp⟩
include h in
theorem Zj {j:Nat} (hj:j<2*(p.gp-1)):p.nums.getD (4+j) 0=p.gs.getD j 0:=by
 have:=h.gs
 unfold Pr.nums
 rw [List.append_assoc,List.append_assoc,List.append_assoc,List.append_assoc,List.append_assoc,Fu (l:=[p.nx,p.cp,p.cr,p.gp]) (k:=4+j) (j:=j) rfl,Nr om]
include h in
theorem q41 {j:Nat} (hj:j<p.cp):p.nums.getD (p.oC+j) 0=p.cl.getD j 0:=by
 have:=h.gs
 have:=h.cl
 unfold Pr.nums Pr.oC
 rw [List.append_assoc,List.append_assoc,List.append_assoc,List.append_assoc,Fu (j:=j) (by simp only [List.length_append,List.length_cons,List.length_nil];omega),Nr om]
include h in
theorem q42 {j:Nat} (hj:j<p.cp):p.nums.getD (p.oC+p.cp+j) 0=p.cu.getD j 0:=by
 have:=h.gs
 have:=h.cl
 have:=h.cu
 unfold Pr.nums Pr.oC
 rw [List.append_assoc,List.append_assoc,List.append_assoc,Fu (j:=j) (by simp only [List.length_append,List.length_cons,List.length_nil];omega),Nr om]
include h in
theorem q43:p.nums.getD p.oT 0=p.tk:=by
 have:=h.gs
 have:=h.cl
 have:=h.cu
 unfold Pr.nums Pr.oT Pr.oC
 rw [List.append_assoc,List.append_assoc,Fu (j:=0) (by simp only [List.length_append,List.length_cons,List.length_nil];omega)]
 rfl
include h in
theorem Bg {j:Nat} (hj:j<8*p.tk):p.nums.getD (p.oT+1+j) 0=p.ts.getD j 0:=by
 have:=h.gs
 have:=h.cl
 have:=h.cu
 have:=h.ts
 unfold Pr.nums Pr.oT Pr.oC
 rw [List.append_assoc,Fu (j:=j) (by simp only [List.length_append,List.length_cons,List.length_nil];omega),Nr om]
include h in
theorem Ns (j:Nat):p.nums.getD (p.oS+j) 0=p.sp.getD j 0:=by
 have:=h.gs
 have:=h.cl
 have:=h.cu
 have:=h.ts
 unfold Pr.nums Pr.oS Pr.oT Pr.oC
 rw [Fu (j:=j) (by simp only [List.length_append,List.length_cons,List.length_nil];omega)]
theorem zA (p:Pr) (c:Nat):p.so 0 c=c:=if_pos rfl
theorem sG {g:Nat} (hg:0<g) (c:Nat):p.so g c=p.cp+3*p.cp*(g-1)+3*c:=if_neg om
theorem Nt {g:Nat}:p.so (g+1) 0=p.so g p.cp:=by
 rw [sG om]
 rcases Nat.eq_zero_or_pos g with h0|h0
 ·subst h0;rw [zA];omega
 ·rw [sG h0,show g+1-1=(g-1)+1 by omega,Nat.mul_succ];omega
include h in
theorem I4 {g c:Nat} (hg:g<p.gp) (hc:c<p.cp):p.so g c+(if g=0 then 1 else 3)≤p.sp.length:=by
 rw [h.sp]
 rcases Nat.eq_zero_or_pos g with h0|h0
 ·subst h0;rw [zA,if_pos rfl];omega
 ·rw [sG h0,if_neg om]
  have:3*p.cp*(g-1)+3*p.cp≤3*p.cp*(p.gp-1):=by
   rw [←Nat.mul_succ]
   exact Nat.mul_le_mul_left _ om
  omega
end
def bS (A:Option Addr) (c:Nat):Nat→Option Addr
 |0=>A
 |k+1=>if c-k=1 then bS A c k else (bS A c k).map (·.add (1*1))
theorem Sj {w:World} {B c:Nat} {A:Option Addr} {q:List Nat} (h:Rd w B 1 A q.length (q.map aK)) (hc:q.length≤c):∀k,k≤q.length→Rd w B 1 (bS A c k) (q.length-k) ((q.drop k).map aK)
 |0,_=>h
 |k+1,hk=>by
  have h1:=Sj h hc k om
  have h2:=h1.mid (i:=1) (j:=q.length-k) (c:=c-k) om (Nat.le_refl _) om
  simp only [Nat.mul_one] at h2
  rw [←List.map_take,←List.map_drop,List.take_of_length_le (by rw [List.length_drop];omega),List.drop_drop] at h2
  rw [show q.length- (k+1)=q.length-k-1 by omega]
  exact h2
theorem q7h {w:World} {B c k gS oS:Nat} {A:Option Addr} {q:List Nat} (h:Rd w B 1 A q.length (q.map aK)) (hc:q.length≤c) (hk:k<q.length) (hA:bS A c k=some ⟨gS,oS,none⟩):w.cell? ⟨gS,oS,none⟩=some (.int .u64 (q.getD k 0:Int)):=by
 have h1:=Sj h hc k om
 rw [hA] at h1
 have h2:=h1.Mo (k:=0) (Cq (F:=aK) (x:=q.getD k 0) (by rw [List.getElem?_drop,List.getD_eq_getElem?_getD,Nat.add_zero,List.getElem?_eq_getElem hk];rfl))
 rwa [Nat.zero_mul,Nat.add_zero] at h2
theorem Nu (x:Nat):aP x=((x:Int)+9223372036854775808)%18446744073709551616-9223372036854775808:=by unfold aP;rw [Go.IntKind.wrap_i64]
theorem Dy {x:Nat} (h:x<18446744073709551616):aA (aP x)=x:=by rw [Nu];unfold aA;omega
theorem q44 {x:Nat} (h:x<18446744073709551616) (h0:0≤aP x):aP x=x:=by rw [Nu] at*;omega
theorem Sk {x:Nat} (h:x≤4611686018427387904):aP x=x:=by rw [Nu];omega
theorem Zk {a:Int} {x:Nat} (h:x<18446744073709551616):aA (Go.IntKind.i64.wrap (a+aP x)-a)=x:=by rw [Go.IntKind.wrap_i64,Nu];unfold aA;omega
def Pr.kJ (p:Pr):Nat→Int
 |0=>0
 |i+1=>Go.IntKind.i64.wrap (p.kJ i+aP (p.tn i 0))
def Pr.kz (p:Pr) (i:Nat):Tk:=⟨p.kJ (i+1),aP (p.tn i 1),aP (p.tn i 2),aP (p.tn i 3),p.tn i 4,decide (0<p.tn i 5),p.tn i 6,p.tn i 7%4294967296⟩
def Pr.gN (p:Pr):bT:=⟨aP p.nx,⟨(p.cp:Int),p.cr,none,0,bi p.gp p.dZ,none,0,p.cl.map aP,none,0,p.cu.map aP,none,0,bi p.tk p.kz,none,0,bi p.gp fun g=>⟨none,0,p.row g⟩⟩⟩
theorem Zl (p:Pr) (i:Nat):p.qY (i+1)=if 65535<p.jd i then 65535 else p.jd i:=rfl
theorem I5 {p:Pr}:∀i,(∀j,j<i→p.jd j≤65535)→p.qY i=p.kJ i
 |0,_=>rfl
 |i+1,h=>by
  have h1:=I5 i fun j hj=>h j om
  have h2:=h i om
  rw [Zl,if_neg om]
  unfold Pr.jd
  rw [h1]
  rfl
theorem I6 {p:Pr}:∀i,(∀j,j<i→p.kJ (j+1)≤65535)→p.qY i=p.kJ i
 |0,_=>rfl
 |i+1,h=>by
  have h1:=I6 i fun j hj=>h j om
  have h2:=h i om
  have h3:p.jd i=p.kJ (i+1):=by unfold Pr.jd;rw [h1];rfl
  rw [Zl,if_neg om,h3]
theorem Bh {p:Pr} {i:Nat} (h:p.qY i=p.kJ i):p.jd i=p.kJ (i+1):=by unfold Pr.jd;rw [h];rfl
theorem Sl {α:Type} (l:List α) (o:Nat→Nat) (h0:o 0=0) (ho:∀i,o i≤o (i+1)):∀k,(dF k fun i=>(l.drop (o i)).take (o (i+1)-o i))=l.take (o k)
 |0=>by rw [IA,h0,List.take_zero]
 |k+1=>by
  rw [ql,Sl l o h0 ho k,←List.take_add]
  congr 1
  have:=ho k
  omega
theorem Zm (l:List Nat):∀(m a:Nat),a+m≤l.length→(l.drop a).take m=(List.range m).map fun j=>l.getD (a+j) 0
 |0,a,_=>rfl
 |m+1,a,h=>by
  rw [List.take_add_one,Zm l m a om,List.range_succ,List.map_append,List.getElem?_drop,List.getElem?_eq_getElem om]
  simp [List.getElem?_eq_getElem (show a+m<l.length by omega)]
theorem tK {α:Type} {f g:Nat→List α} {k:Nat} (h:∀i,i<k→f i=g i):dF k f=dF k g:=Nk k h
theorem Nv {l:List Nat} {m k:Nat} (h:l.length=m*k):l=dF k fun i=>(List.range m).map fun j=>l.getD (m*i+j) 0:=by
 have h1:=Sl l (fun i=>m*i) rfl (fun i=>by show m*i≤m*(i+1);rw [Nat.mul_succ];omega) k
 rw [List.take_of_length_le (show l.length≤m*k by omega)] at h1
 refine h1.symm.trans (tK fun i hi=>?_)
 show (l.drop (m*i)).take (m*(i+1)-m*i)=_
 have h2:m*(i+1)≤m*k:=Nat.mul_le_mul_left _ hi
 rw [Nat.mul_succ] at h2
 rw [Nat.mul_succ,Nat.add_sub_cancel_left,Zm l m _ om]
theorem I7 {α:Type} {f g:Nat→List α}:∀k,(∀i,i<k→(f i).length=(g i).length)→dF k f=dF k g→∀i,i<k→f i=g i
 |0,_,_=>fun i hi=>by omega
 | k + 1, hl, h => fun i hi => by
  rw [ql,ql] at h
  have h1:(dF k f).length=(dF k g).length:=by
   have:=congrArg List.length h
   rw [List.length_append,List.length_append,hl k om] at this
   omega
  obtain ⟨h2,h3⟩:=List.append_inj h h1
  rcases Nat.lt_or_ge i k with h4|h4
  ·exact I7 k (fun i hi=>hl i om) h2 i h4
  ·obtain rfl:i=k:=by omega
   exact h3
theorem Fv {α:Type} {f g:Nat→List α}:∀k,(∀i,i<k→(f i).length=(g i).length)→(dF k f).length=(dF k g).length
 |0,_=>rfl
 |k+1,h=>by rw [ql,ql,List.length_append,List.length_append,Fv k (fun i hi=>h i om),h k om]
def Pr.sec (p:Pr):Nat→List Nat
 |0=>[p.nx]
 |1=>[p.cp,p.cr,p.gp]
 |2=>p.gs
 |3=>p.cl
 |4=>p.cu
 |5=>p.tk::p.ts
 |6=>p.sp
 |_=>[]
theorem Zn (p:Pr):p.nums=dF 7 p.sec:=by
 rw [ql,ql,ql,ql,ql,ql,ql,IA]
 simp [Pr.nums,Pr.sec]
structure Pr.Low (p:Pr):Prop where
 t5:∀i,i<p.tk→p.tn i 5≤1
 t7:∀i,i<p.tk→p.tn i 7≤4294967295
 s1:∀g,g<p.gp→0<g→∀c,c<p.cp→p.sn g c 1≤4294967295
section
variable {p:Pr}
theorem q7i (x:Nat) (h:x∈p.gs):x∈p.nums:=by simp [Pr.nums,h]
theorem Zo (x:Nat) (h:x∈p.cl):x∈p.nums:=by simp [Pr.nums,h]
theorem Zp (x:Nat) (h:x∈p.cu):x∈p.nums:=by simp [Pr.nums,h]
theorem q7j (x:Nat) (h:x∈p.ts):x∈p.nums:=by simp [Pr.nums,h]
theorem q7k (x:Nat) (h:x∈p.sp):x∈p.nums:=by simp [Pr.nums,h]
theorem I8 {l:List Nat} {n:Nat} (h:∀x∈l,x<n) (hn:0<n) (k:Nat):l.getD k 0<n:=by
 rw [List.getD_eq_getElem?_getD]
 rcases Nat.lt_or_ge k l.length with h1|h1
 ·rw [List.getElem?_eq_getElem h1];exact h _ (List.getElem_mem h1)
 ·rw [List.getElem?_eq_none h1];exact hn
variable (h:p.Fit)
include h
theorem qZ (k:Nat):p.gs.getD k 0<18446744073709551616:=I8 (fun x hx=>h.lt x (q7i x hx)) de k
theorem I9 (k:Nat):p.cl.getD k 0<18446744073709551616:=I8 (fun x hx=>h.lt x (Zo x hx)) de k
theorem Bi (k:Nat):p.cu.getD k 0<18446744073709551616:=I8 (fun x hx=>h.lt x (Zp x hx)) de k
theorem eX (i j:Nat):p.tn i j<18446744073709551616:=I8 (fun x hx=>h.lt x (q7j x hx)) de _
theorem rf (g c j:Nat):p.sn g c j<18446744073709551616:=I8 (fun x hx=>h.lt x (q7k x hx)) de _
theorem Bj:p.nx<18446744073709551616:=h.lt _ (by simp [Pr.nums])
theorem vD:p.cr<18446744073709551616:=h.lt _ (by simp [Pr.nums])
theorem q0x:p.gs=dF (p.gp-1) fun i=>[p.gs.getD (2*i) 0,p.gs.getD (2*i+1) 0]:=Nv h.gs
theorem Sm:p.ts=dF p.tk fun i=>[p.tn i 0,p.tn i 1,p.tn i 2,p.tn i 3,p.tn i 4,p.tn i 5,p.tn i 6,p.tn i 7]:=Nv h.ts
theorem q7l {g:Nat} (hg:g<p.gp):(p.sp.drop (p.so g 0)).take (p.so (g+1) 0-p.so g 0)=dF p.cp fun c=>if g=0 then [p.sn g c 0] else [p.sn g c 0,p.sn g c 1,p.sn g c 2]:=by
 have hs:=h.sp
 rcases Nat.eq_zero_or_pos g with h0|h0
 ·subst h0
  have e1:p.so (0+1) 0=p.cp:=by rw [Nt,zA]
  rw [e1,zA,Nat.sub_zero,List.drop_zero]
  have hl:(p.sp.take p.cp).length=1*p.cp:=by rw [List.length_take];omega
  refine (Nv hl).trans (tK fun c hc=>?_)
  rw [if_pos rfl]
  show [(p.sp.take p.cp).getD (1*c+0) 0]=[p.sp.getD (p.so 0 c+0) 0]
  rw [zA,List.getD_eq_getElem?_getD,List.getD_eq_getElem?_getD,List.getElem?_take_of_lt om,Nat.one_mul]
 ·have e1:p.so (g+1) 0=p.so g 0+3*p.cp:=by rw [Nt,sG h0,sG h0,Nat.mul_zero,Nat.add_zero]
  have hin:p.so g 0+3*p.cp≤p.sp.length:=by
   rw [sG h0,hs]
   have:3*p.cp*(g-1)+3*p.cp≤3*p.cp*(p.gp-1):=by
    rw [←Nat.mul_succ]
    exact Nat.mul_le_mul_left _ om
   omega
  rw [e1,Nat.add_sub_cancel_left]
  have hl:((p.sp.drop (p.so g 0)).take (3*p.cp)).length=3*p.cp:=by rw [List.length_take,List.length_drop];omega
  refine (Nv hl).trans (tK fun c hc=>?_)
  rw [if_neg om]
  have e2:∀j,j<3→((p.sp.drop (p.so g 0)).take (3*p.cp)).getD (3*c+j) 0=p.sn g c j:=fun j hj=>by
   unfold Pr.sn
   rw [List.getD_eq_getElem?_getD,List.getD_eq_getElem?_getD,List.getElem?_take_of_lt om,List.getElem?_drop,sG h0,sG h0]
   congr 2
   omega
  show [((p.sp.drop (p.so g 0)).take (3*p.cp)).getD (3*c+0) 0,((p.sp.drop (p.so g 0)).take (3*p.cp)).getD (3*c+1) 0,((p.sp.drop (p.so g 0)).take (3*p.cp)).getD (3*c+2) 0]=_
  rw [e2 0 om,e2 1 om,e2 2 om]
theorem Sn:p.sp=dF p.gp fun g=>dF p.cp fun c=>if g=0 then [p.sn g c 0] else [p.sn g c 0,p.sn g c 1,p.sn g c 2]:=by
 have h1:=Sl p.sp (fun g=>p.so g 0) (zA p 0) (fun g=>by
  show p.so g 0≤p.so (g+1) 0
  rw [Nt]
  rcases Nat.eq_zero_or_pos g with h0|h0
  ·subst h0;rw [zA];omega
  ·rw [sG h0,sG h0];omega) p.gp
 have h2:p.so p.gp 0=p.sp.length:=by rw [sG h.Zh,h.sp];omega
 rw [h2,List.take_length] at h1
 exact h1.symm.trans (tK fun g hg=>q7l h hg)
end
theorem Jd (p:Pr) {i:Nat} (hi:i≤p.tk):qv (bi p.tk p.kz) i=p.kJ i:=by
 cases i with
 |zero=>rfl
 |succ i=>rw [IB,Dx om];rfl
theorem zB {p:Pr} (h:p.Fit):(∀i,i<7→(ay p.gN i).length=(p.sec i).length)∧((∀i,i<7→ay p.gN i=p.sec i)↔p.Low):=by
 have hG:ay p.gN 2=p.gs:=by
  show dF ((bi p.gp p.dZ).length-1) (yT (bi p.gp p.dZ))=p.gs
  rw [pX]
  refine (tK fun i hi=>?_).trans (q0x h).symm
  unfold yT
  rw [Dx om]
  unfold Pr.dZ
  rw [if_neg om,Nat.add_sub_cancel,Dy (qZ h _),Dy (qZ h _)]
 have hm:∀l:List Nat,(∀x∈l,x<18446744073709551616)→(l.map aP).map aA=l:=fun l hl=>by
  rw [List.map_map]
  exact (List.map_congr_left fun x hx=>Dy (hl x hx)).trans (List.map_id l)
 have hT:ay p.gN 5=p.tk::dF p.tk fun i=>[p.tn i 0,p.tn i 1,p.tn i 2,p.tn i 3,p.tn i 4,if decide (0<p.tn i 5)=true then 1 else 0,p.tn i 6,p.tn i 7%4294967296]:=by
  show ((bi p.tk p.kz).length::dF (bi p.tk p.kz).length fun i=>su (qv (bi p.tk p.kz) i) ((bi p.tk p.kz).getD i Tk.zero))=_
  rw [pX]
  congr 1
  refine tK fun i hi=>?_
  rw [Jd p om,Dx hi]
  show [aA (Go.IntKind.i64.wrap (p.kJ i+aP (p.tn i 0))-p.kJ i),aA (aP (p.tn i 1)),aA (aP (p.tn i 2)),aA (aP (p.tn i 3)),_,_,_,_]=_
  rw [Zk (eX h i 0),Dy (eX h i 1),Dy (eX h i 2),Dy (eX h i 3)]
  rfl
 have hS:ay p.gN 6=dF p.gp fun g=>dF p.cp fun c=>if g=0 then [p.sn g c 0] else [p.sn g c 0,p.sn g c 1%4294967296,p.sn g c 2]:=by
  show (dF (bi p.gp fun g=>(⟨none,0,p.row g⟩:Rw)).length fun g=>yU g ((bi p.gp fun g=>(⟨none,0,p.row g⟩:Rw)).getD g Rw.zero).l)=_
  rw [pX]
  refine tK fun g hg=>?_
  rw [Dx hg]
  show dF (p.row g).length (fun c=>uQ g ((p.row g).getD c Sp.zero))=_
  unfold Pr.row
  rw [pX]
  refine tK fun c hc=>?_
  rw [Dx hc]
  unfold Pr.pY
  rcases Nat.eq_zero_or_pos g with h0|h0
  ·rw [if_pos h0,if_pos h0,YB om]
  ·rw [if_neg om,if_neg om,YA h0];rfl
 have h0:ay p.gN 0=p.sec 0:=by show [aA (aP p.nx)]=[p.nx];rw [Dy (Bj h)]
 have h1:ay p.gN 1=p.sec 1:=by
  show [aA (p.cp:Int),p.cr,(bi p.gp p.dZ).length]=[p.cp,p.cr,p.gp]
  have:=h.cp2
  rw [pX,Yz om]
 have h3:ay p.gN 3=p.sec 3:=hm p.cl fun x hx=>h.lt x (Zo x hx)
 have h4:ay p.gN 4=p.sec 4:=hm p.cu fun x hx=>h.lt x (Zp x hx)
 constructor
 ·intro i hi
  match i,hi with
  |0,_=>rw [h0]
  |1,_=>rw [h1]
  |2,_=>rw [hG];rfl
  |3,_=>rw [h3]
  |4,_=>rw [h4]
  |5,_=>
   rw [hT]
   refine congrArg (· +1) (Eq.trans ?_ (congrArg List.length (Sm h).symm))
   exact Fv p.tk fun i _=>rfl
  |6,_=>
   rw [hS]
   refine Eq.trans ?_ (congrArg List.length (Sn h).symm)
   exact Fv p.gp fun g _=>Fv p.cp fun c _=>by split<;>rfl
 ·constructor
  ·intro hh
   have e5:=hh 5 om
   have e6:=hh 6 om
   rw [hT] at e5
   rw [hS] at e6
   replace e5:=(List.cons.inj e5).2
   rw [Sm h] at e5
   replace e6:_=p.sp:=e6
   rw [Sn h] at e6
   have f5:=I7 p.tk (fun i _=>by rfl) e5
   have f6:=I7 p.gp (fun g _=>Fv p.cp fun c _=>by split<;>rfl) e6
   refine ⟨fun i hi=>?_,fun i hi=>?_,fun g hg g0 c hc=>?_⟩
   ·have:=f5 i hi
    simp only [List.cons.injEq,and_true,true_and] at this
    have:=this.1
    split at this<;>omega
   ·have:=f5 i hi
    simp only [List.cons.injEq,and_true,true_and] at this
    have:=this.2
    omega
   ·have:=I7 p.cp (fun c _=>by split<;>rfl) (f6 g hg) c hc
    rw [if_neg om,if_neg om] at this
    simp only [List.cons.injEq,and_true,true_and] at this
    omega
  ·intro hl i hi
   match i,hi with
   |0,_=>exact h0
   |1,_=>exact h1
   |2,_=>exact hG
   |3,_=>exact h3
   |4,_=>exact h4
   |5,_=>
    rw [hT]
    show _=p.tk::p.ts
    congr 1
    refine Eq.trans (tK fun i hi=>?_) (Sm h).symm
    have g5:=hl.t5 i hi
    have g7:=hl.t7 i hi
    rw [Nat.mod_eq_of_lt (show p.tn i 7<4294967296 by omega)]
    congr 5
    split
    ·rename_i hd;rw [decide_eq_true_eq] at hd;rw [show p.tn i 5=1 by omega]
    ·rename_i hd;rw [decide_eq_true_eq] at hd;rw [show p.tn i 5=0 by omega]
   | 6, _ =>
    rw [hS]
    refine Eq.trans (tK fun g hg=>tK fun c hc=>?_) (Sn h).symm
    rcases Nat.eq_zero_or_pos g with g0|g0
    ·rw [if_pos g0,if_pos g0]
    ·have:=hl.s1 g hg g0 c hc
     rw [if_neg om,if_neg om,Nat.mod_eq_of_lt om]
theorem Bl {p:Pr} (h:p.Fit):fw p.gN=p.nums↔p.Low:=by
 rw [Zn]
 exact ⟨fun e=>(zB h).2.1 (I7 7 (zB h).1 e),fun e=>tK ((zB h).2.2 e)⟩
theorem kW {x m:Nat} (h:x≤m):aH x m=true:=decide_eq_true h
theorem Sq {x m:Nat} (h:aH x m=true):x≤m:=of_decide_eq_true h
section
variable {p:Pr}
theorem Sr {b:Bool} {g:Nat}:∀k,p.jy b g k=true→b=true∧(0<g→∀c,c<k→p.sn g c 1≤4294967295)
 |0,h=>⟨h,fun _ c hc=>by omega⟩
 | k + 1, h => by
  rw [Pr.jy] at h
  split at h
  ·rw [Bool.and_eq_true] at h
   exact ⟨(Sr k h.1).1,fun h0=>by omega⟩
  ·simp only [Bool.and_eq_true] at h
   obtain ⟨h1,h2⟩:=Sr k h.1.1.1
   refine ⟨h1,fun h0 c hc=>?_⟩
   rcases Nat.lt_or_ge c k with h3|h3
   ·exact h2 h0 c h3
   ·obtain rfl:c=k:=by omega
    exact Sq h.1.2
theorem Zq:∀k,p.ky k=true→p.gB p.tk=true∧∀g,g<k→0<g→∀c,c<p.cp→p.sn g c 1≤4294967295
 |0,h=>⟨h,fun g hg=>by omega⟩
 | k + 1, h => by
  obtain ⟨h1,h2⟩:=Sr p.cp h
  obtain ⟨h3,h4⟩:=Zq k h1
  refine ⟨h3,fun g hg h0 c hc=>?_⟩
  rcases Nat.lt_or_ge g k with h5|h5
  ·exact h4 g h5 h0 c hc
  ·obtain rfl:g=k:=by omega
   exact h2 h0 c hc
theorem Zr:∀k,p.gB k=true→∀i,i<k→p.tn i 5≤1∧p.tn i 7≤4294967295∧p.jd i≤65535
 |0,_=>fun i hi=>by omega
 | k + 1, h => fun i hi => by
  rw [Pr.gB] at h
  simp only [Bool.and_eq_true] at h
  rcases Nat.lt_or_ge i k with h5|h5
  ·exact Zr k h.1.1.1.1.1.1.1.1.1 i h5
  ·obtain rfl:i=k:=by omega
   exact ⟨Sq h.1.1.1.2,Sq h.1.2,of_decide_eq_true h.2⟩
theorem Zt (h:p.okB=true):p.Low∧∀i,i<p.tk→p.jd i≤65535:=by
 obtain ⟨h1,h2⟩:=Zq p.gp h
 have h3:=Zr p.tk h1
 exact ⟨⟨fun i hi=>(h3 i hi).1,fun i hi=>(h3 i hi).2.1,h2⟩,fun i hi=>(h3 i hi).2.2⟩
theorem Bn (h:p.Low) (h2:∀i,i≤p.tk→p.qY i=p.kJ i):p.oP=p.gN:=by
 have e:bi p.tk p.sF=bi p.tk p.kz:=by
  unfold bi
  refine List.map_congr_left fun i hi=>?_
  rw [List.mem_range] at hi
  unfold Pr.sF Pr.kz
  rw [Bh (h2 i om),show decide (p.tn i 5=1)=decide (0<p.tn i 5) from decide_eq_decide.2 (by have:=h.t5 i hi;omega)]
 unfold Pr.oP Pr.gN
 rw [e]
end
section
variable {p:Pr} (h:p.Fit)
include h
theorem Zu (hn:p.nx≤ai):p.ok0=true:=by
 unfold Pr.ok0
 have h1:=h.cp2
 have h2:=h.I1
 have h3:=vD h
 unfold ai at*
 rw [kW hn,kW (show p.cp≤4611686018427387904 by omega),kW (show p.cr≤18446744073709551615 by omega),kW (show p.gp≤4611686018427387904 by omega)]
 rfl
theorem Zv (hn:p.nx≤ai) (hg:∀i,i<2*(p.gp-1)→p.gs.getD i 0≤ai):∀k,k≤p.gp→p.mX k=true
 |0,_=>Zu h hn
 | k + 1, hk => by
  rw [Pr.mX]
  split
  ·exact Zu h hn
  ·rw [Zv hn hg k om,kW (hg _ om),kW (hg _ om)]
   rfl
end
section
variable {p:Pr}
theorem Zw (h0:p.mX p.gp=true) (hc:∀i,i<p.cp→p.cl.getD i 0≤ai):∀k,k≤p.cp→p.yZ k=true
 |0,_=>h0
 |k+1,hk=>by rw [Pr.yZ,Zw h0 hc k om,kW (hc _ om)];rfl
theorem Zx (h0:p.yZ p.cp=true) (hc:∀i,i<p.cp→p.cu.getD i 0≤ai):∀k,k≤p.cp→p.vC k=true
 |0,_=>h0
 |k+1,hk=>by rw [Pr.vC,Zx h0 hc k om,kW (hc _ om)];rfl
theorem Zy (h:p.Fit) (h0:p.vC p.cp=true) (hl:p.Low) (ht:∀i,i<p.tk→p.tn i 0≤ai∧p.tn i 1≤ai∧p.tn i 2≤ai∧p.tn i 3≤ai) (hi:∀i,i<p.tk→p.jd i≤65535):∀k,k≤p.tk→p.gB k=true
 |0,_=>by
  rw [Pr.gB,h0,kW (by have:=h.tk;unfold ai;omega)];rfl
 |k+1,hk=>by
  obtain ⟨t0,t1,t2,t3⟩:=ht k om
  have t4:=eX h k 4
  have t6:=eX h k 6
  rw [Pr.gB,Zy h h0 hl ht hi k om,kW t0,kW t1,kW t2,kW t3,kW (show p.tn k 4≤18446744073709551615 by omega),kW (hl.t5 k om),kW (show p.tn k 6≤18446744073709551615 by omega),kW (hl.t7 k om),decide_eq_true (hi k om)]
  rfl
theorem Su (h:p.Fit) {b:Bool} (hb:b=true) {g:Nat} (hg:0<g→∀c,c<p.cp→p.sn g c 1≤4294967295):∀k,k≤p.cp→p.jy b g k=true
 |0,_=>hb
 |k+1,hk=>by
  have t0:=rf h g k 0
  have t2:=rf h g k 2
  rw [Pr.jy]
  split
  ·rw [Su h hb hg k om,kW (show p.sn g k 0≤18446744073709551615 by omega)];rfl
  ·rw [Su h hb hg k om,kW (show p.sn g k 0≤18446744073709551615 by omega),kW (hg om k om),kW (show p.sn g k 2≤18446744073709551615 by omega)];rfl
theorem Zz (h:p.Fit) (h0:p.gB p.tk=true) (hl:p.Low):∀k,k≤p.gp→p.ky k=true
 |0,_=>h0
 |k+1,hk=>Su h (Zz h h0 hl k om) (fun g0 c hc=>hl.s1 k om g0 c hc) p.cp (Nat.le_refl _)
end
theorem Sv (x:Int):bC (Go.IntKind.i64.wrap x):=by rw [Go.IntKind.wrap_i64];unfold bC;omega
theorem zC (x:Nat):bC (aP x):=Sv _
theorem Fw {α:Type} {n:Nat} {f:Nat→α} {q:α→Prop} (h:∀i,i<n→q (f i)):∀x∈bi n f,q x:=by
 intro x hx
 obtain ⟨i,hi,rfl⟩:=List.mem_map.1 hx
 exact h i (List.mem_range.1 hi)
section
variable {p:Pr} (h:p.Fit)
include h
theorem ZA (g:Nat):(p.dZ g).Ok:=by
 unfold Pr.dZ
 split
 ·exact ⟨by unfold bC;decide,by unfold bC;decide⟩
 ·exact ⟨zC _,zC _⟩
theorem q7m (g c:Nat):(p.pY g c).Ok:=by
 have t0:=rf h g c 0
 have t2:=rf h g c 2
 unfold Pr.pY
 split
 ·exact ⟨show 0<18446744073709551616 by decide,show 0<4294967296 by decide,t0⟩
 ·exact ⟨t0,Nat.mod_lt _ de,t2⟩
theorem Bo:bC (p.cp:Int):=by have:=h.cp2;unfold bC;omega
theorem Nw (l:List Nat):∀x∈l.map aP,bC x:=by
 intro x hx
 obtain ⟨y,_,rfl⟩:=List.mem_map.1 hx
 exact zC y
theorem rows_ok:∀l∈(bi p.gp fun g=>(⟨none,0,p.row g⟩:Rw)).map Rw.l,∀x∈l,Sp.Ok x:=by
 intro l hl
 obtain ⟨y,hy,rfl⟩:=List.mem_map.1 hl
 obtain ⟨g,_,rfl⟩:=List.mem_map.1 hy
 exact Fw fun c _=>q7m h g c
theorem q45 (i:Nat):(p.sF i).Ok:=⟨Sv _,zC _,zC _,zC _,eX h i 4,eX h i 6,Nat.mod_lt _ de⟩
theorem q46 (i:Nat):(p.kz i).Ok:=⟨Sv _,zC _,zC _,zC _,eX h i 4,eX h i 6,Nat.mod_lt _ de⟩
theorem ZB:p.oP.st.aB.Ok:=⟨Bo h,vD h,Fw fun g _=>ZA h g,Nw h _,Nw h _,Fw fun i _=>q45 h i,rows_ok h⟩
theorem q7n:p.gN.st.aB.Ok:=⟨Bo h,vD h,Fw fun g _=>ZA h g,Nw h _,Nw h _,Fw fun i _=>q46 h i,rows_ok h⟩
theorem Ny {l:List Nat} {n:Nat} (hl:l.length=n) (hn:n≤1000000):(l.map aP).length≤1000000:=by rw [List.length_map];omega
theorem ZC:∀y∈bi p.gp fun g=>(⟨none,0,p.row g⟩:Rw),y.l.length≤1000000:=Fw fun g _=>by
 have:=h.cp2
 show (p.row g).length≤1000000
 unfold Pr.row
 rw [pX]
 omega
theorem Sw (s:bT) (hs:s=p.oP∨s=p.gN):bX s.st:=by
 have h1:=h.cp2
 have h2:=h.I1
 have h3:=h.tk
 rcases hs with rfl|rfl
 ·exact ⟨by show (bi _ _).length≤_;rw [pX];omega,Ny h h.cl om,Ny h h.cu om,by show (bi _ _).length≤_;rw [pX];omega,by show (bi _ _).length≤_;rw [pX];omega,ZC h⟩
 ·exact ⟨by show (bi _ _).length≤_;rw [pX];omega,Ny h h.cl om,Ny h h.cu om,by show (bi _ _).length≤_;rw [pX];omega,by show (bi _ _).length≤_;rw [pX];omega,ZC h⟩
end
theorem qxk {p:Pr} (h:p.Fit) (hk:bL p.gN=0) (hl:p.Low):p.okB=true∧p.oP=p.gN:=by
 have hn:=(Nf hk).1
 have hr:=(Nf hk).2
 have hsh:=Ng hk
 have e:ai=4611686018427387904:=rfl
 have big:∀{x:Nat} {n:Int},x<18446744073709551616→0≤aP x→aP x≤n→n≤4611686018427387904→x≤ai:=fun {x n} h1 h2 h3 h4=>by
  rw [q44 h1 h2] at h3;omega
 have hgl:p.gN.st.gs.length=p.gp:=pX _ _
 have htl:p.gN.st.ts.length=p.tk:=pX _ _
 have hrl:p.gN.st.rs.length=p.gp:=pX _ _
 have hgd:∀g,g<p.gp→p.gN.st.gs.getD g Gr.zero=p.dZ g:=fun g hg=>Dx hg
 have htd:∀i,i<p.tk→p.gN.st.ts.getD i Tk.zero=p.kz i:=fun i hi=>Dx hi
 obtain ⟨hc1,hc2,_,hgs⟩:=Dc hsh.Fa
 have hnx:p.nx≤ai:=big (Bj h) (by have:=hn.1;show (0:Int)≤p.gN.next;omega) hn.2 om
 have hG:∀i,i<2*(p.gp-1)→p.gs.getD i 0≤ai:=fun i hi=>by
  have hg:i/2+1<p.gp:=by omega
  have h1:=(MV hgs).2.2.2 (i/2+1) om
  have h2:=Yg h1 om
  have h3:=Bb hgs (g:=i/2+1) om
  unfold jF at h2
  rw [hgd _ hg] at h2 h3
  unfold Pr.dZ at h2 h3
  rw [if_neg om] at h2 h3
  rw [Nat.add_sub_cancel] at h2 h3
  dsimp only at h2 h3
  rcases Nat.mod_two_eq_zero_or_one i with h4|h4
  ·rw [show i=2*(i/2) by omega]
   exact big (n:=256) (qZ h _) h2.1 (by have:=h2.2;have:=h.I1;show aP _≤256;omega) om
  ·rw [show i=2*(i/2)+1 by omega]
   exact big (qZ h _) (by have:=h3.1;show 0≤aP _;omega) h3.2 om
 have hmap:∀(l:List Nat) (k:Nat),k<l.length→(l.map aP).getD k 0=aP (l.getD k 0):=fun l k hk=>by
  rw [List.getD_eq_getElem?_getD,List.getD_eq_getElem?_getD,List.getElem?_map,List.getElem?_eq_getElem hk];rfl
 have hC:∀i,i<p.cp→p.cl.getD i 0≤ai:=fun i hi=>by
  have hcl:=h.cl
  have h1:=hsh.cls i (by show i<(p.cl.map aP).length;rw [List.length_map];omega)
  rw [show p.gN.st.cl.getD i 0=aP (p.cl.getD i 0) from hmap p.cl i om] at h1
  unfold gJ at h1
  rw [decide_eq_true_eq] at h1
  exact big (I9 h _) h1.1 h1.2 om
 have htk:∀i,i<p.tk→_:=fun i hi=>M5 (hsh.tk i om)
 have hT:∀i,i<p.tk→(1≤p.kJ (i+1)∧p.kJ (i+1)≤65535)∧p.tn i 1≤ai∧p.tn i 2≤ai∧p.tn i 3≤ai:=fun i hi=>by
  have h1:=(htk i hi).2
  rw [htd i hi] at h1
  unfold dm AX at h1
  simp only [Bool.and_eq_true,decide_eq_true_eq] at h1
  obtain ⟨⟨a1,a2,a3,a4,a5,a6⟩,⟨b1,b2⟩,_⟩:=h1
  rw [tC,hrl] at a4
  have:=h.I1
  have:=h.cp2
  refine ⟨⟨a1,a2⟩,big (n:=256) (eX h i 1) a3 (by show aP _≤256;have a4:aP (p.tn i 1)<p.gp:=a4;omega) om,big (eX h i 2) (by have b1:1≤aP (p.tn i 2):=b1;omega) b2 om,big (n:=64) (eX h i 3) a5 (by have a6:aP (p.tn i 3)<(p.cp:Int):=a6;omega) om⟩
 have hI:∀i,i≤p.tk→p.qY i=p.kJ i:=fun i hi=>I6 i fun j hj=>(hT j om).1.2
 have hA:∀i,i<p.tk→p.jd i≤65535:=fun i hi=>by rw [Bh (hI i om)];exact (hT i hi).1.2
 have h0:∀i,i<p.tk→p.tn i 0≤ai:=fun i hi=>by
  have h1:=(htk i hi).1
  have h2:0≤p.kJ i∧p.kJ i<p.kJ (i+1):=by
   rcases i with _|i
   ·have:=(hT 0 hi).1.1
    exact ⟨Int.le_refl _,by show (0:Int)<_;omega⟩
   ·have h3:=(hT i om).1.1
    rw [Nat.add_sub_cancel,htd i om,htd (i+1) hi] at h1
    rcases h1 with h1|h1
    ·omega
    ·exact ⟨by omega,h1⟩
  have h3:=Zk (a:=p.kJ i) (eX h i 0)
  have h4:Go.IntKind.i64.wrap (p.kJ i+aP (p.tn i 0))=p.kJ (i+1):=rfl
  rw [h4] at h3
  have h5:=(hT i hi).1
  unfold aA at h3
  omega
 have hU:∀i,i<p.cp→p.cu.getD i 0≤ai:=fun i hi=>by
  have hcu:=h.cu
  have hcl:i<p.gN.st.cu.length:=by show i<(p.cu.map aP).length;rw [List.length_map];omega
  unfold oN at hr
  rw [Bool.and_eq_true] at hr
  have h1:=Db hr.2 (i:=i) hcl
  rw [Bool.and_eq_true] at h1
  have h2:=h1.1
  unfold dV at h2
  have hz:p.gN.st.aB.cu.getD i 0=aP (p.cu.getD i 0):=hmap p.cu i om
  rw [hz] at h2
  rw [Bool.or_eq_true,decide_eq_true_eq] at h2
  rcases h2 with h2|h2
  ·exact big (Bi h _) om (Int.le_of_eq h2) om
  ·split at h2
   ·rename_i j hj
    obtain ⟨h3,h4⟩:=Yv hj
    have h3:j<p.tk:=by have:j<p.gN.st.ts.length:=h3;omega
    rw [show p.gN.st.aB.ts.getD j Tk.zero=p.kz j from htd j h3] at h4
    have h5:=(hT j h3).1
    have h4:p.kJ (j+1)=aP (p.cu.getD i 0):=h4
    exact big (n:=65535) (Bi h _) om om om
   ·cases h2
 refine ⟨Zz h (Zy h (Zx (Zw (Zv h hnx hG p.gp (Nat.le_refl _)) hC p.cp (Nat.le_refl _)) hU p.cp (Nat.le_refl _)) hl (fun i hi=>⟨h0 i hi,(hT i hi).2⟩) hA p.tk (Nat.le_refl _)) hl p.gp (Nat.le_refl _),Bn hl hI⟩
theorem ZE {p:Pr} (hb:p.okB=true):p.oP=p.gN:=by
 obtain ⟨hl,hi⟩:=Zt hb
 exact Bn hl fun i h=>I5 i fun j hj=>hi j om
theorem q0y {xs ys:List Nat} (hx:∀x∈xs,x<18446744073709551616) (hy:∀x∈ys,x<18446744073709551616) (hl:xs.length=ys.length) (h:xs.flatMap ah=ys.flatMap ah):xs=ys:=by
 have h1:=Qh xs [] hx
 have h2:=Qh ys [] hy
 rw [h,hl] at h1
 rw [h1] at h2
 exact (Prod.mk.inj h2).1
theorem Sy {l:List Nat} {p:Pr} (hl:∀z∈l,z<256) (h:dx l= .ok p):15≤l.length∧l.length≤16777216∧p.Fit∧l=bZ ([113,115,1]++p.nums.flatMap ah):=by
 unfold dx at h
 split at h
 ·cases h
 rename_i h1
 split at h
 ·cases h
 rename_i h2
 split at h
 ·cases h
 rename_i h3
 split at h
 ·cases h
 rename_i h4
 split at h
 ·cases h
 rename_i h5
 have h4:l.getD 0 0=113∧l.getD 1 0=115:=Decidable.of_not_not h4
 have h5:l.getD 2 0=1:=Decidable.of_not_not h5
 have hs:zn l=true:=by cases hq:zn l with|true=>rfl|false=>exact absurd hq h3
 have hlen:(l.take (l.length-4)).length=l.length-4:=by rw [List.length_take];omega
 obtain ⟨hf,hd⟩:=q40 om (fun z hz=>hl z (List.mem_of_mem_take hz)) h
 refine ⟨by omega,by omega,hf,?_⟩
 rw [←hd]
 have e:([113,115,1]:List Nat)=(l.take (l.length-4)).take 3:=by
  rw [List.take_take,show min 3 (l.length-4)=3 by omega]
  match l,h1,h4,h5 with
  |a::b::c::r,_,h4,h5=>
   have h6:a=113:=h4.1
   have h7:b=115:=h4.2
   have h8:c=1:=h5
   subst h6;subst h7;subst h8
   rfl
  |[],h1,_,_=>exact absurd de h1
  |[_],h1,_,_=>exact absurd (by simp) h1
  |[_,_],h1,_,_=>exact absurd (by simp) h1
 rw [e,List.take_append_drop,Qk hl hs]
theorem q0z {a b:List Nat} (h:bZ a=bZ b):a=b:=by
 have h1:=congrArg List.length h
 rw [qc4,qc4] at h1
 exact (List.append_inj h om).1
theorem ZF {l:List Nat} {p:Pr} (hl:∀z∈l,z<256) (h:dx l= .ok p):(p.okB=true∧bL p.oP=0)↔(bL p.gN=0∧dC p.gN=l):=by
 obtain ⟨_,_,hf,he⟩:=Sy hl h
 constructor
 ·rintro ⟨h1,h2⟩
  rw [ZE h1] at h2
  refine ⟨h2,?_⟩
  rw [Nh h2,he]
  unfold dB
  rw [(Bl hf).2 (Zt h1).1]
 ·rintro ⟨h1,h2⟩
  rw [Nh h1] at h2
  have h3:=q0z (h2.trans he)
  unfold dB at h3
  have h4:=q0y (YP (q7n hf) (Sw hf _ (.inr rfl))) hf.lt (by rw [Zn];exact Fv 7 (zB hf).1) (List.append_cancel_left h3)
  obtain ⟨h5,h6⟩:=qxk hf h1 ((Bl hf).1 h4)
  exact ⟨h5,by rw [h6];exact h1⟩
def lK (l:List Nat):Nat:=match dx l with
 | .ok p=>if p.okB=true∧bL p.oP=0 then 0 else 347
 | .error k=>k
def vE:bT:=⟨0,⟨0,0,none,0,[],none,0,[],none,0,[],none,0,[],none,0,[]⟩⟩
def jk (l:List Nat):bT:=match dx l with
 | .ok p=>if p.okB=true∧bL p.oP=0 then p.oP else vE
 | .error _=>vE
section
variable {l:List Nat} {p:Pr} {k:Nat}
theorem vF (h:dx l= .error k):lK l=k∧jk l=vE:=by unfold lK jk;rw [h];exact ⟨rfl,rfl⟩
theorem Nz (h:dx l= .ok p) (h2:¬(p.okB=true∧bL p.oP=0)):lK l=347∧jk l=vE:=by unfold lK jk;rw [h];exact ⟨if_neg h2,if_neg h2⟩
theorem Sz (h:dx l= .ok p) (h2:p.okB=true∧bL p.oP=0):lK l=0∧jk l=p.oP:=by unfold lK jk;rw [h];exact ⟨if_pos h2,if_pos h2⟩
theorem q47 (hl:∀z∈l,z<256) (h:dx l= .ok p) (h2:bL p.gN=0∧dC p.gN=l):lK l=0∧jk l=p.gN:=by
 have h3:=(ZF hl h).2 h2
 rw [←ZE h3.1]
 exact Sz h h3
end
section
variable {a b:List Nat} {p q:Pr} {k:Nat} {X Y:List fT} {i:Nat}
end
theorem Mem.Dz {W w:World} (h:Mem W w []):Mem W w (nQ vE.st):=((((h.nil 129 1).nil 222 8).nil 3 1).nil 3 1).nil 166 2
theorem ZG:eU vE.st:=⟨Nat.le_refl _,Nat.le_refl _,Nat.le_refl _,Nat.le_refl _,Nat.le_refl _,fun y hy=>by cases hy⟩
theorem ZH (s:bT):dH s s:=vw rfl (qtn _)
def NB (w:World) (er:Nat) (s:bT) (r:Ending) (w':World):Prop:=∃z:bT,r= .returned (.tuple #[.agg z.cells,.int .i64 (er:Int)])∧dH s z∧eU z.st∧Mem w w' (nQ z.st)
theorem SB {w w':World} {er k:Nat} {s:bT} {r:Ending} (h:er=k∧s=vE) (hr:r= .returned (.tuple #[.agg vE.cells,.int .i64 (k:Int)])) (HM:Mem w w' []):NB w er s r w':=by
 obtain ⟨rfl,rfl⟩:=h
 exact ⟨vE,hr,ZH _,ZG,HM.Dz⟩
theorem qxo {w w':World} {er:Nat} {s t z:bT} {r:Ending} (h:er=0∧s=t) (hr:r= .returned (.tuple #[.agg z.cells,.int .i64 0])) (hz:dH t z) (hc:eU z.st) (HM:Mem w w' (nQ z.st)):NB w er s r w':=by
 obtain ⟨rfl,rfl⟩:=h
 exact ⟨z,hr,hz,hc,HM⟩
theorem ZI {s z:bT} (h:dH s z) (hok:s.st.aB.Ok):z.st.aB.Ok:=by rw [Y8 (Nj h)];exact hok
structure Pl where
 nx:Nat
 sn:Nat
 st:Nat
 en:Nat
deriving DecidableEq
def Pl.zero:Pl:=⟨0,0,0,0⟩
def Pl.cells (p:Pl):Array Value:= #[.int .i64 (p.nx:Int),.int .i64 (p.sn:Int),.int .i64 (p.st:Int),.int .i64 (p.en:Int)]
def fe (p:Pl):List Value:=[.int .i64 (p.nx:Int),.int .i64 (p.sn:Int),.int .i64 (p.st:Int),.int .i64 (p.en:Int)]
theorem sH (p:Pl):(fe p).length=4:=rfl
def bU (b:List Nat) (p m:Nat):Nat:=af m (b.drop p)
def aR (b:List Nat) (p:Nat):Nat:=p+(ae (b.drop p)).2.1
def dz (b:List Nat) (p m:Nat):Bool:=aF m (b.drop p)
section
variable {b:List Nat} {p m k last sum q s a:Nat} {l:List Pl}
theorem SC:bU b p m≤m:=tq _ _
theorem SE:p≤aR b p:=Nat.le_add_right _ _
theorem vG (h:p≤b.length):aR b p≤b.length:=by
 have:=wY (b.drop p)
 rw [List.length_drop] at this
 unfold aR
 omega
theorem NC (hb:∀x∈b,x<256) (hp:p≤b.length) (h:dz b p m=true):b.take (aR b p)=b.take p++ah (bU b p m):=by
 obtain ⟨h1,h2⟩:=of_decide_eq_true h
 have h3:=G5 (l:=b.drop p) (x:=(ae (b.drop p)).1) (m:=(ae (b.drop p)).2.1) (fun x hx=>hb x (List.mem_of_mem_drop hx)) (by rw [←h1])
 unfold bU aR af
 rw [if_neg om,h3,List.take_add]
def zD (b:List Nat) (p:Nat):Bool:=dz b p 4611686018427387904&& (dz b (aR b p) 16777216&&dz b (aR b (aR b p)) 16777216)
def rowP (b:List Nat) (p:Nat):Nat:=aR b (aR b (aR b p))
def jI (b:List Nat) (p:Nat):Nat:=bU b p 4611686018427387904
def jJ (b:List Nat) (p:Nat):Nat:=bU b (aR b p) 16777216
def kX (b:List Nat) (p:Nat):Nat:=bU b (aR b (aR b p)) 16777216
theorem q48 (h:p≤b.length):rowP b p≤b.length:=vG (vG (vG h))
def jA (b:List Nat):Nat→Nat→Nat→Nat→Option (List Pl×Nat×Nat)
 |0,p,_,sum=>some ([],p,sum)
 | k + 1, p, last, sum => if zD b p = true ∧ last ≤ jI b p then
   (jA b k (rowP b p) (jI b p) (sum+jJ b p+kX b p)).map fun r=>(⟨jI b p,sum,sum+jJ b p,sum+jJ b p+kX b p⟩::r.1,r.2)
  else none
def iU (b:List Nat) (ok:Bool) (k p last sum:Nat):Option (List Pl×Nat×Nat):=if ok=true then jA b k p last sum else none
theorem ZJ:iU b false k p last sum=none:=rfl
theorem Jk:iU b true k p last sum=jA b k p last sum:=rfl
def Pl.up (a:Nat) (x:Pl):Pl:=⟨x.nx,x.sn+a,x.st+a,x.en+a⟩
def aQ (b:List Nat):List Pl×Nat:=
 if 16777216<b.length then ([],3)
 else if ¬(b.take 3=[113,97,1]) then ([],410)
 else match iU b (dz b 3 1024) (bU b 3 1024) (aR b 3) 0 0 with
  |none=>([],410)
  |some (l,p,s)=>if p+4≤b.length∧zn (b.take (p+4))=true∧p+4+s=b.length then (l.map (Pl.up (p+4)),0) else ([],410)
theorem q00 (h:16777216<b.length):aQ b=([],3):=by unfold aQ;rw [if_pos h]
theorem ZK (h:¬16777216<b.length) (h2:¬(b.take 3=[113,97,1])):aQ b=([],410):=by unfold aQ;rw [if_neg h,if_pos h2]
theorem SF (h:¬16777216<b.length) (h2:b.take 3=[113,97,1]) (h3:iU b (dz b 3 1024) (bU b 3 1024) (aR b 3) 0 0=none):aQ b=([],410):=by unfold aQ;rw [if_neg h,if_neg (fun x=>x h2),h3]
theorem SG (h:¬16777216<b.length) (h2:b.take 3=[113,97,1]) (h3:iU b (dz b 3 1024) (bU b 3 1024) (aR b 3) 0 0=some (l,p,s)) (h4:¬(p+4≤b.length∧zn (b.take (p+4))=true∧p+4+s=b.length)):aQ b=([],410):=by
 unfold aQ;rw [if_neg h,if_neg (fun x=>x h2),h3];exact if_neg h4
theorem q7o (h:¬16777216<b.length) (h2:b.take 3=[113,97,1]) (h3:iU b (dz b 3 1024) (bU b 3 1024) (aR b 3) 0 0=some (l,p,s)) (h4:p+4≤b.length∧zn (b.take (p+4))=true∧p+4+s=b.length):aQ b=(l.map (Pl.up (p+4)),0):=by
 unfold aQ;rw [if_neg h,if_neg (fun x=>x h2),h3];exact if_pos h4
theorem q49 (b:List Nat):((aQ b).2=0∨(aQ b).2=3∨(aQ b).2=410)∧((aQ b).2≠0→(aQ b).1=[]):=by
 unfold aQ
 split
 ·exact ⟨.inr (.inl rfl),fun _=>rfl⟩
 ·split
  ·exact ⟨.inr (.inr rfl),fun _=>rfl⟩
  ·split
   ·exact ⟨.inr (.inr rfl),fun _=>rfl⟩
   ·split
    ·exact ⟨.inl rfl,fun h=>absurd rfl h⟩
    ·exact ⟨.inr (.inr rfl),fun _=>rfl⟩
def gP:Nat→Nat→List Pl→Nat→Prop
 |_,sum,[],s=>sum=s
 |last,sum,x::t,s=>(x.sn=sum∧x.sn≤x.st∧x.st≤x.en∧last≤x.nx∧x.nx≤4611686018427387904)∧gP x.nx x.en t s
theorem gP.le:∀{l:List Pl} {last sum s:Nat},gP last sum l s→sum≤s
 |[],_,_,_,h=>Nat.le_of_eq h
 |x::t,_,_,_,h=>by have:=gP.le h.2;have:=h.1;omega
theorem gP.mem:∀{l:List Pl} {last sum s:Nat},gP last sum l s→∀x∈l,sum≤x.sn∧x.sn≤x.st∧x.st≤x.en∧x.en≤s∧x.nx≤4611686018427387904
 |[],_,_,_,_=>fun x hx=>by cases hx
 |y::t,_,_,_,h=>fun x hx=>by
  have h1:=h.1
  have h2:=gP.le h.2
  rcases List.mem_cons.1 hx with rfl|hx
  ·omega
  ·have:=gP.mem h.2 x hx;omega
def sI (x:Pl):List Nat:=[x.nx,x.st-x.sn,x.en-x.st]
theorem ZL (hb:∀x∈b,x<256):∀(k p last sum:Nat) {l:List Pl} {q s:Nat},p≤b.length→jA b k p last sum=some (l,q,s)→l.length=k∧gP last sum l s∧p≤q∧q≤b.length∧b.take q=b.take p++(l.flatMap sI).flatMap ah
 |0,p,last,sum,l,q,s,hp,h=>by
  have h:some (([]:List Pl),p,sum)=some (l,q,s):=h
  injection h with h;injection h with h1 h;injection h with h2 h3
  subst h1 h2 h3
  exact ⟨rfl,rfl,Nat.le_refl _,hp,by simp⟩
 | k + 1, p, last, sum, l, q, s, hp, h => by
  rw [jA] at h
  split at h
  ·rename_i hc
   obtain ⟨ho,hl⟩:=hc
   obtain ⟨⟨l2,q2,s2⟩,h1,h2⟩:=Option.map_eq_some_iff.1 h
   injection h2 with h2 h3;injection h3 with h3 h4
   dsimp only at h2 h3 h4
   subst h2 h3 h4
   obtain ⟨i1,i2,i3,i4,i5⟩:=ZL hb k _ _ _ (q48 hp) h1
   unfold zD at ho
   rw [Bool.and_eq_true,Bool.and_eq_true] at ho
   have t1:=NC hb hp ho.1
   have t2:=NC hb (vG hp) ho.2.1
   have t3:=NC hb (vG (vG hp)) ho.2.2
   refine ⟨by rw [List.length_cons,i1],⟨⟨rfl,Nat.le_add_right _ _,Nat.le_add_right _ _,hl,SC⟩,i2⟩,?_,i4,?_⟩
   ·exact Nat.le_trans (Nat.le_trans SE (Nat.le_trans SE SE)) i3
   ·rw [i5]
    show b.take (aR b (aR b (aR b p)))++_=_
    rw [t3,t2,t1,List.flatMap_cons]
    unfold sI jI jJ kX
    simp only [List.flatMap_append,List.flatMap_cons,List.flatMap_nil,List.append_nil,List.append_assoc,Nat.add_sub_cancel_left]
  ·cases h
structure vH (b:List Nat) (L:List Pl):Prop where
 form:∃(l:List Pl) (p s:Nat),L=l.map (Pl.up (p+4))∧gP 0 0 l s∧p+4+s=b.length∧l.length≤1024∧b.take (p+4)=bZ ([113,97,1]++(l.length::l.flatMap sI).flatMap ah)
 few:b.length≤16777216
theorem SH (hb:∀x∈b,x<256) {L:List Pl} (h:aQ b=(L,0)):vH b L:=by
 unfold aQ at h
 split at h
 ·injection h with _ h;cases h
 ·rename_i hlen
  split at h
  ·injection h with _ h;cases h
  ·rename_i hhd
   have hhd:b.take 3=[113,97,1]:=Classical.not_not.1 hhd
   split at h
   ·injection h with _ h;cases h
   ·rename_i l p s hi
    split at h
    ·rename_i hc
     obtain ⟨c1,c2,c3⟩:=hc
     injection h with h _
     have h3:3≤b.length:=by
      have:=congrArg List.length hhd
      rw [List.length_take] at this
      have h9:([113,97,1]:List Nat).length=3:=rfl
      omega
     have ho:dz b 3 1024=true:=by
      cases ho:dz b 3 1024 with
      |true=>rfl
      |false=>rw [ho,ZJ] at hi;cases hi
     rw [ho,Jk] at hi
     obtain ⟨i1,i2,i3,i4,i5⟩:=ZL hb _ _ _ _ (vG h3) hi
     have t:=NC hb h3 ho
     refine ⟨⟨l,p,s,h.symm,i2,c3,by rw [i1];exact SC,?_⟩,by omega⟩
     have h5:=Qk (l:=b.take (p+4)) (fun x hx=>hb x (List.mem_of_mem_take hx)) c2
     rw [List.length_take,Nat.min_eq_left c1,Nat.add_sub_cancel,List.take_take,Nat.min_eq_left om] at h5
     rw [←h5,i5,t,hhd,i1]
     simp only [List.flatMap_cons,List.append_assoc]
    ·injection h with _ h;cases h
end
def aW (b:List Nat) (i j:Nat):List Nat:=(b.take j).drop i
theorem xM {b:List Nat} {i j:Nat} (h:j≤b.length):(aW b i j).length=j-i:=by
 unfold aW
 rw [List.length_drop,List.length_take,Nat.min_eq_left h]
theorem Fx {b:List Nat} (h:∀x∈b,x<256) (i j:Nat):∀x∈aW b i j,x<256:=fun x hx=>h x (List.mem_of_mem_take (List.mem_of_mem_drop hx))
theorem ZM {b:List Nat} {i j k:Nat} (h1:i≤j) (h2:j≤k):aW b i j++aW b j k=aW b i k:=by
 unfold aW
 rw [List.drop_take,List.drop_take,List.drop_take,show k-i=(j-i)+(k-j) by omega,List.take_add,List.drop_drop,show i+(j-i)=j by omega]
def bn (b:List Nat) (x:Pl):Nat:=
 if lK (aW b x.sn x.st)≠0 then lK (aW b x.sn x.st)
 else if (jk (aW b x.sn x.st)).next≠(x.nx:Int) then 412
 else (readAll (aW b x.st x.en)).2
theorem q5a {b:List Nat} {x:Pl} (h:lK (aW b x.sn x.st)≠0):bn b x=lK (aW b x.sn x.st):=by unfold bn;rw [if_pos h]
theorem q5b {b:List Nat} {x:Pl} (h:lK (aW b x.sn x.st)=0) (h2:(jk (aW b x.sn x.st)).next≠(x.nx:Int)):bn b x=412:=by unfold bn;rw [if_neg (fun n=>n h),if_pos h2]
theorem ZN {b:List Nat} {x:Pl} (h:lK (aW b x.sn x.st)=0) (h2:(jk (aW b x.sn x.st)).next=(x.nx:Int)):bn b x=(readAll (aW b x.st x.en)).2:=by unfold bn;rw [if_neg (fun n=>n h),if_neg (fun n=>n h2)]
theorem qxr {b:List Nat} {x:Pl} (h:bn b x=0):lK (aW b x.sn x.st)=0∧(jk (aW b x.sn x.st)).next=(x.nx:Int)∧(readAll (aW b x.st x.en)).2=0:=by
 unfold bn at h
 split at h
 ·exact absurd h (by assumption)
 ·rename_i h1
  split at h
  ·cases h
  ·rename_i h2
   exact ⟨Classical.not_not.1 h1,Classical.not_not.1 h2,h⟩
def fH (b:List Nat):List Pl→Nat→Option (Nat×Nat)
 |[],_=>none
 |x::t,i=>if bn b x≠0 then some (i,bn b x) else fH b t (i+1)
def dG (b:List Nat):List Pl→Nat→List Nat
 |[],_=>[]
 |x::t,i=>if bn b x=0 then i::dG b t (i+1) else dG b t (i+1)
theorem ZO (b:List Nat):∀(l:List Pl) (i:Nat),(dG b l i).length≤l.length
 |[],_=>Nat.le_refl _
 |x::t,i=>by
  rw [dG]
  have:=ZO b t (i+1)
  split
  ·rw [List.length_cons,List.length_cons];omega
  ·rw [List.length_cons];omega
theorem ND (b:List Nat):∀(l:List Pl) (i:Nat),fH b l i=none→(dG b l i).length=l.length∧∀x∈l,bn b x=0
 |[],_,_=>⟨rfl,fun x hx=>by cases hx⟩
 | x :: t, i, h => by
  rw [fH] at h
  split at h
  ·cases h
  ·rename_i h1
   have h1:bn b x=0:=Classical.not_not.1 h1
   obtain ⟨h2,h3⟩:=ND b t (i+1) h
   refine ⟨by rw [dG,if_pos h1,List.length_cons,List.length_cons,h2],fun y hy=>?_⟩
   rcases List.mem_cons.1 hy with rfl|hy
   ·exact h1
   ·exact h3 y hy
theorem ZP (b:List Nat):∀(l:List Pl) (i:Nat) {k e:Nat},fH b l i=some (k,e)→i≤k∧k<i+l.length∧e≠0∧(dG b l i).length<l.length
 |[],_,_,_,h=>by cases h
 | x :: t, i, k, e, h => by
  rw [fH] at h
  split at h
  ·rename_i h1
   injection h with h;injection h with h2 h3
   subst h2 h3
   have:=ZO b t (i+1)
   exact ⟨Nat.le_refl _,by rw [List.length_cons];omega,h1,by rw [dG,if_neg h1,List.length_cons];omega⟩
  ·rename_i h1
   obtain ⟨a1,a2,a3,a4⟩:=ZP b t (i+1) h
   exact ⟨by omega,by rw [List.length_cons];omega,a3,by rw [dG,if_pos (Classical.not_not.1 h1),List.length_cons,List.length_cons];omega⟩
structure Pv where
 s:bT
 bs:List Bk
def Pv.zero:Pv:=⟨vE,[]⟩
def jl:List Pv→Int→Nat→Int×Nat
 |[],_,_=>(-1,0)
 |x::t,last,i=>if bL x.s≠0 then ((i:Int),bL x.s) else if dS x.bs≠0 then ((i:Int),dS x.bs) else if x.s.next<last then ((i:Int),411) else jl t x.s.next (i+1)
def mY (l:List Pv):Int×Nat:=if 1024<l.length then (-1,5) else jl l 0 0
def jK (x:Pv):List Nat:=[aA x.s.next,(dC x.s).length,(jP x.bs).1.length]
def nT (l:List Pv) (i:Nat):List Nat:=l.length::(l.take i).flatMap jK
def nU (d:List Nat×Bool) (x:Pv):List Nat×Bool:=
 if (d.2||decide ((jP x.bs).2≠0)||decide (16777216<d.1.length+(dC x.s).length+(jP x.bs).1.length))=true then (d.1,true) else (d.1++dC x.s++(jP x.bs).1,false)
def stA (l:List Pv):Nat→List Nat×Bool
 |0=>([],false)
 |i+1=>nU (stA l i) (l.getD i Pv.zero)
def headA (l:List Pv):List Nat:=bZ ([113,97,1]++(nT l l.length).flatMap ah)
def lL (l:List Pv):List Nat×Nat:=
 if (mY l).2≠0 then ([],(mY l).2)
 else if (stA l l.length).2=true∨16777216<(headA l).length+(stA l l.length).1.length then ([],3)
 else (headA l++(stA l l.length).1,0)
theorem ZQ {l:List Nat} (hl:∀z∈l,z<256) (h:lK l=0):bL (jk l)=0∧dC (jk l)=l:=by
 cases ho:dx l with
 |error k=>
  rw [(vF ho).1] at h
  have:=Sg ho
  omega
 | ok p =>
  by_cases h2:p.okB=true∧bL p.oP=0
  ·obtain ⟨h3,h4⟩:=(ZF hl ho).1 h2
   rw [(q47 hl ho ⟨h3,h4⟩).2]
   exact ⟨h3,h4⟩
  ·rw [(Nz ho h2).1] at h
   cases h
theorem ZR:∀(f:Nat) (l:List Nat),(∀x∈l,x<256)→l.length≤f→∀{bs:List Bk} {p:Nat},qx f l=(bs,p,0)→(∀b∈bs,b.Ok∧b.err=0∧b.evs.length≤4096)∧bP bs=l
 |0,l,_,hf,bs,p,h=>by
  have h:(([]:List Bk),0,0)=(bs,p,0):=h
  injection h with h1 _
  subst h1
  exact ⟨(fun b hb=>by cases hb),(List.eq_nil_of_length_eq_zero om).symm⟩
 | f + 1, l, hl, hf, bs, p, h => by
  rw [qx] at h
  split at h
  ·rename_i h0
   injection h with h1 _
   subst h1
   exact ⟨(fun b hb=>by cases hb),(List.eq_nil_of_length_eq_zero h0).symm⟩
  ·rename_i h0
   split at h
   ·rename_i h1
    injection h with _ h;injection h with _ h
    exact absurd h h1
   ·rename_i h1
    have h1:(bO l).2.2=0:=Classical.not_not.1 h1
    have h2:=Q4 (l:=l) (b:=(bO l).1) (m:=(bO l).2.1) hl (by rw [←h1])
    injection h with h3 h;injection h with h4 h5
    subst h3
    have hm:=h2.least;have hlen:=h2.len
    obtain ⟨i1,i2⟩:=ZR f (l.drop (bO l).2.1) (fun x hx=>hl x (List.mem_of_mem_drop hx)) (by rw [List.length_drop];omega) (bs:=(qx f (l.drop (bO l).2.1)).1) (p:=(qx f (l.drop (bO l).2.1)).2.1) (by rw [←h5])
    refine ⟨fun b hb=>?_,?_⟩
    ·rcases List.mem_cons.1 hb with rfl|hb
     ·exact ⟨h2.ok,h2.err,h2.evs⟩
     ·exact i1 b hb
    ·show (_::_:List Bk).flatMap Bk.out=l
     rw [List.flatMap_cons,h2.out]
     show _++bP _=l
     rw [i2,List.take_append_drop]
theorem SK {l:List Nat} (hl:∀x∈l,x<256) (h:(readAll l).2=0):(∀b∈(readAll l).1,b.Ok∧b.err=0∧b.evs.length≤4096)∧bP (readAll l).1=l∧jP (readAll l).1=(l,0):=by
 by_cases hx:524288<l.length
 ·rw [Q9 hx] at h;cases h
 ·by_cases he:(qx l.length l).2.2=0
  ·rw [X7 hx he]
   obtain ⟨h1,h2⟩:=ZR l.length l hl (Nat.le_refl _) (bs:=(qx l.length l).1) (p:=(qx l.length l).2.1) (by rw [←he])
   refine ⟨h1,h2,?_⟩
   rw [qs5 (fun b hb=>(h1 b hb).2.1) (by rw [h2];omega),h2]
  ·rw [X6 hx rfl he] at h
   exact absurd h he
structure kC (b:List Nat) (L:List Pl) (l:List Pv):Prop where
 len:l.length=L.length
 s:∀i,i<L.length→dH (jk (aW b (L.getD i Pl.zero).sn (L.getD i Pl.zero).st)) (l.getD i Pv.zero).s
 bs:∀i,i<L.length→(l.getD i Pv.zero).bs=(readAll (aW b (L.getD i Pl.zero).st (L.getD i Pl.zero).en)).1
section
variable {b:List Nat} {L:List Pl} {l:List Pv} {a:Nat}
def kD (a:Nat) (L:List Pl) (i:Nat):Nat:=match i with
 |0=>a
 |i+1=>(L.getD i Pl.zero).en
theorem gP.at:∀{l:List Pl} {last sum s i:Nat},gP last sum l s→i<l.length→(l.getD i Pl.zero).sn=kD sum l i∧(0<i→(l.getD (i-1) Pl.zero).nx≤(l.getD i Pl.zero).nx)∧(i=0→last≤(l.getD i Pl.zero).nx)
 |x::t,last,sum,s,0,h,_=>⟨h.1.1,fun h=>absurd h (Nat.lt_irrefl 0),fun _=>h.1.2.2.2.1⟩
 | x :: t, last, sum, s, i + 1, h, hi => by
  have hi:i<t.length:=Nat.lt_of_succ_lt_succ hi
  obtain ⟨h1,h2,h3⟩:=gP.at h.2 hi
  refine ⟨?_,fun _=>?_,fun h=>absurd h (Nat.succ_ne_zero i)⟩
  ·show (t.getD i Pl.zero).sn=_
   rw [h1]
   cases i with
   |zero=>rfl
   |succ i=>rfl
  ·show ((x::t).getD i Pl.zero).nx≤(t.getD i Pl.zero).nx
   cases i with
   |zero=>exact h3 rfl
   |succ i=>exact h2 (Nat.succ_pos i)
theorem gP.last:∀{l:List Pl} {last sum s:Nat},gP last sum l s→kD sum l l.length=s
 |[],_,_,_,h=>h
 |x::t,last,sum,s,h=>by
  have h1:=gP.last h.2
  rw [←h1]
  cases t with
  |nil=>rfl
  |cons y t=>rfl
theorem NE {i:Nat} (h:i<L.length):(L.map (Pl.up a)).getD i Pl.zero=(L.getD i Pl.zero).up a:=by
 rw [List.getD_eq_getElem?_getD,List.getD_eq_getElem?_getD,List.getElem?_map,List.getElem?_eq_getElem h]
 rfl
theorem ZT {s i:Nat} (h:i≤L.length):kD (s+a) (L.map (Pl.up a)) i=kD s L i+a:=by
 cases i with
 |zero=>rfl
 |succ i=>show ((L.map (Pl.up a)).getD i Pl.zero).en=_;rw [NE om];rfl
theorem q7p (x:Pl):sI (x.up a)=sI x:=by
 unfold sI Pl.up
 dsimp only
 rw [show x.st+a- (x.sn+a)=x.st-x.sn by omega,show x.en+a- (x.st+a)=x.en-x.st by omega]
structure zF (b:List Nat) (L:List Pl) (a:Nat):Prop where
 sn:∀i,i<L.length→(L.getD i Pl.zero).sn=kD a L i∧(L.getD i Pl.zero).sn≤(L.getD i Pl.zero).st∧(L.getD i Pl.zero).st≤(L.getD i Pl.zero).en∧(L.getD i Pl.zero).en≤b.length∧(L.getD i Pl.zero).nx≤4611686018427387904
 nx:∀i,0<i→i<L.length→(L.getD (i-1) Pl.zero).nx≤(L.getD i Pl.zero).nx
 low:a≤b.length
 last:kD a L L.length=b.length
 few:L.length≤1024
 head:b.take a=bZ ([113,97,1]++(L.length::L.flatMap sI).flatMap ah)
theorem vH.at (h:vH b L):∃a,zF b L a:=by
 obtain ⟨l,p,s,rfl,hc,hl,hf,hh⟩:=h.form
 have hll:(l.map (Pl.up (p+4))).length=l.length:=List.length_map ..
 refine ⟨p+4,fun i hi=>?_,fun i h0 hi=>?_,by omega,?_,by rw [hll];exact hf,?_⟩
 ·rw [hll] at hi
  have h1:=hc.at hi
  have h2:=hc.mem _ (qs Pl.zero hi)
  have h3:=ZT (a:=p+4) (s:=0) (L:=l) (i:=i) om
  rw [Nat.zero_add] at h3
  rw [NE hi,h3]
  unfold Pl.up
  dsimp only
  omega
 ·rw [hll] at hi
  rw [NE hi,NE om]
  exact (hc.at hi).2.1 h0
 ·have h3:=ZT (a:=p+4) (s:=0) (L:=l) (i:=l.length) (Nat.le_refl _)
  rw [Nat.zero_add] at h3
  rw [hll,h3,hc.last]
  omega
 ·rw [hll,hh]
  have h4:(l.map (Pl.up (p+4))).flatMap sI=l.flatMap sI:=by
   rw [List.flatMap_map]
   exact congrArg (fun f=>l.flatMap f) (funext fun x=>q7p x)
  rw [h4]
theorem q01 {n:Nat} (h:n≤4611686018427387904):aA (n:Int)=n:=by unfold aA;omega
theorem SL (hb:∀x∈b,x<256) (hA:zF b L a) (hr:kC b L l) (h0:∀x∈L,bn b x=0) {i:Nat} (hi:i<L.length):
  bL (l.getD i Pv.zero).s=0∧dC (l.getD i Pv.zero).s=aW b (L.getD i Pl.zero).sn (L.getD i Pl.zero).st∧(l.getD i Pv.zero).s.next=((L.getD i Pl.zero).nx:Int)∧dS (l.getD i Pv.zero).bs=0∧jP (l.getD i Pv.zero).bs=(aW b (L.getD i Pl.zero).st (L.getD i Pl.zero).en,0)∧jK (l.getD i Pv.zero)=sI (L.getD i Pl.zero):=by
 obtain ⟨h1,h2,h3⟩:=qxr (h0 _ (qs Pl.zero hi))
 obtain ⟨r1,r2⟩:=ZQ (Fx hb _ _) h1
 obtain ⟨w1,w2,w3⟩:=SK (Fx hb _ _) h3
 have he:=hr.s i hi
 have hq:=hr.bs i hi
 have e1:dC (l.getD i Pv.zero).s=aW b (L.getD i Pl.zero).sn (L.getD i Pl.zero).st:=by rw [RX he];exact r2
 have e2:(l.getD i Pv.zero).s.next=((L.getD i Pl.zero).nx:Int):=by rw [←h2];exact he.1.symm
 have e3:jP (l.getD i Pv.zero).bs=(aW b (L.getD i Pl.zero).st (L.getD i Pl.zero).en,0):=by rw [hq];exact w3
 have h9:=hA.sn i hi
 refine ⟨by rw [IV he];exact r1,e1,e2,by rw [hq];exact Ra fun b hb=>(w1 b hb).2.1,e3,?_⟩
 unfold jK sI
 rw [e1,e2,e3,q01 h9.2.2.2.2,xM om,xM om]
theorem ZU (hr:∀i,i<L.length→jK (l.getD i Pv.zero)=sI (L.getD i Pl.zero)) (hl:l.length=L.length):∀i,i≤L.length→(l.take i).flatMap jK=(L.take i).flatMap sI
 |0,_=>rfl
 |i+1,h=>by
  rw [MU Pv.zero om,MU Pl.zero om,List.flatMap_append,List.flatMap_append,ZU hr hl i om,List.flatMap_cons,List.flatMap_cons,List.flatMap_nil,List.flatMap_nil,hr i om]
theorem ZV (hb:∀x∈b,x<256) (hf:b.length≤16777216) (hA:zF b L a) (hr:kC b L l) (h0:∀x∈L,bn b x=0):∀i,i≤L.length→a≤kD a L i∧kD a L i≤b.length∧stA l i=(aW b a (kD a L i),false)
 |0,_=>⟨Nat.le_refl _,hA.low,by show ([],false)=(aW b a a,false);unfold aW;rw [List.drop_take,Nat.sub_self,List.take_zero]⟩
 | i + 1, h => by
  have hi:i<L.length:=h
  obtain ⟨h1,h2,h3⟩:=ZV hb hf hA hr h0 i om
  have hs:=hA.sn i hi
  obtain ⟨e0,e1,e2,e3,e4,e5⟩:=SL hb hA hr h0 hi
  have hen:kD a L (i+1)=(L.getD i Pl.zero).en:=rfl
  refine ⟨by omega,by omega,?_⟩
  rw [stA,h3]
  unfold nU
  rw [e1,e4,hen]
  have l1:=xM (b:=b) (i:=a) (j:=kD a L i) h2
  have l2:=xM (b:=b) (i:=(L.getD i Pl.zero).sn) (j:=(L.getD i Pl.zero).st) om
  have l3:=xM (b:=b) (i:=(L.getD i Pl.zero).st) (j:=(L.getD i Pl.zero).en) om
  dsimp only
  rw [if_neg (by
   rw [Bool.false_or,Bool.or_eq_true,decide_eq_true_eq,decide_eq_true_eq]
   rintro (h|h)
   ·exact h rfl
   ·omega),←hs.1,ZM om om,ZM om om]
theorem ZW (hb:∀x∈b,x<256) (hA:zF b L a) (hr:kC b L l) (h0:∀x∈L,bn b x=0):∀n i (last:Int),i+n=L.length→(i=0→last=0)→(0<i→last=((L.getD (i-1) Pl.zero).nx:Int))→jl (l.drop i) last i=(-1,0)
 |0,i,last,h,_,_=>by
  rw [List.drop_eq_nil_of_le (by rw [hr.len];omega)]
  rfl
 | n + 1, i, last, h, h1, h2 => by
  have hi:i<L.length:=by omega
  obtain ⟨e0,e1,e2,e3,e4,e5⟩:=SL hb hA hr h0 hi
  rw [Q8 Pv.zero (by rw [hr.len];exact hi),jl,if_neg (fun x=>x e0),if_neg (fun x=>x e3),if_neg,e2]
  ·exact ZW hb hA hr h0 n (i+1) _ om (fun h=>absurd h (Nat.succ_ne_zero i)) fun _=>rfl
  ·rw [e2]
   rcases Nat.eq_zero_or_pos i with h3|h3
   ·rw [h1 h3];omega
   ·rw [h2 h3];have:=hA.nx i h3 hi;omega
theorem qxv (hb:∀x∈b,x<256) (h:aQ b=(L,0)) (hr:kC b L l) (h0:∀x∈L,bn b x=0):mY l=(-1,0)∧lL l=(b,0):=by
 have hI:=SH hb h
 obtain ⟨a,hA⟩:=hI.at
 have hc:mY l=(-1,0):=by
  unfold mY
  rw [if_neg (by rw [hr.len];have:=hA.few;omega)]
  exact ZW hb hA hr h0 L.length 0 0 (Nat.zero_add _) (fun _=>rfl) fun h=>absurd h (Nat.lt_irrefl 0)
 refine ⟨hc,?_⟩
 obtain ⟨h1,h2,h3⟩:=ZV hb hI.few hA hr h0 L.length (Nat.le_refl _)
 have hh:headA l=b.take a:=by
  rw [hA.head]
  unfold headA nT
  rw [List.take_length,hr.len]
  have h4:=ZU (fun i hi=>(SL hb hA hr h0 hi).2.2.2.2.2) hr.len L.length (Nat.le_refl _)
  rw [List.take_length,←hr.len,List.take_length] at h4
  rw [h4]
 have hd:aW b a b.length=b.drop a:=by unfold aW;rw [List.take_length]
 unfold lL
 rw [hc,hh,hr.len,h3,hA.last,hd]
 have hla:=hA.low
 have ajm:=hI.few
 rw [if_neg (fun x=>x rfl),if_neg,List.take_append_drop]
 rintro (h|h)
 ·cases h
 ·rw [List.length_take,List.length_drop] at h
  omega
end
structure Pm where
 z:bT
 A:Option Addr
 c:Nat
 q:List Hb
def Pm.zero:Pm:=⟨vE,none,0,[]⟩
def Pm.v (p:Pm):Pv:=⟨p.z,p.q.map Hb.b⟩
def Pm.cells (p:Pm):Array Value:= #[.int .i64 p.z.next,.int .i64 p.z.st.az,.int .u64 (p.z.st.au:Int),.slice p.z.st.gA p.z.st.gs.length p.z.st.gc,.slice p.z.st.lA p.z.st.cl.length p.z.st.lc,.slice p.z.st.uA p.z.st.cu.length p.z.st.uc,.slice p.z.st.tA p.z.st.ts.length p.z.st.tc,.slice p.z.st.sA p.z.st.rs.length p.z.st.sc,.slice p.A p.q.length p.c]
def iV (p:Pm):List Value:=p.cells.toList
theorem ZX (p:Pm):(iV p).length=9:=rfl
structure dJ (w:World) (p:Pm):Prop where
 st:eB w p.z.st
 bl:Rd w w.heap.size 5 p.A p.q.length (p.q.flatMap hbL)
 ev:mE w p.q
theorem dJ.old {W w:World} {fs:List ag} {p:Pm} (h:dJ W p) (HM:Mem W w fs):dJ w p:=⟨h.st.old HM,HM.old h.bl,h.ev.old HM⟩
structure df (p:Pm):Prop where
 ok:p.z.st.aB.Ok
 few:bX p.z.st
 cap:eU p.z.st
 nx:bC p.z.next
 ZY:∀h∈p.q,h.b.Ok
 ZZ:∀h∈p.q,h.b.evs.length≤1000000
 len:p.q.length≤1000000
 pc:p.q.length≤p.c
def fq (p:Pm):List ag:=nQ p.z.st++(.row (.slice p.A p.q.length p.c) p.q.length (p.q.flatMap hbL) 59 5::fD 32 p.q)
def eD (l:List Pm):List ag:=l.flatMap fq
section
variable {W w w':World} {F T:List ag} {p:Pm} {l:List Pm}
theorem Mem.zG (h:Mem W w F) (hs:∀f∈fq p,f∈F):dJ w p:=
 ⟨h.IU fun f hf=>hs f (List.mem_append_left _ hf),h.Ay (hs _ (List.mem_append_right _ (List.mem_cons_self ..))),h.QR fun f hf=>hs f (List.mem_append_right _ (List.mem_cons_of_mem _ hf))⟩
theorem Mem.q8h (h:Mem W w F) (hs:∀f∈eD l,f∈F):∀p∈l,dJ w p:=fun p hp=>h.zG fun f hf=>hs f (List.mem_flatMap.2 ⟨p,hp,hf⟩)
theorem qxx:eD (l++[p])=eD l++fq p:=by unfold eD;rw [List.flatMap_append];simp
end
theorem bQ:SI Tryz.prog 55 9:=⟨by kernel_rfl,by kernel_rfl⟩
theorem nV:EI Tryz.prog 43 55 (.agg #[.int .i64 0,.int .i64 0,.int .u64 0,.slice none 0 0,.slice none 0 0,.slice none 0 0,.slice none 0 0,.slice none 0 0,.slice none 0 0]) 9 168:=⟨by kernel_rfl,by kernel_rfl,rfl,by omega⟩
theorem kE:SI Tryz.prog 128 4:=⟨by kernel_rfl,by kernel_rfl⟩
theorem Bp:EI Tryz.prog 64 128 (.agg #[.int .i64 0,.int .i64 0,.int .i64 0,.int .i64 0]) 4 32:=⟨by kernel_rfl,by kernel_rfl,rfl,by omega⟩
theorem q5c:SI Tryz.prog 204 5:=⟨by kernel_rfl,by kernel_rfl⟩
theorem Bq:SI Tryz.prog 140 10:=⟨by kernel_rfl,by kernel_rfl⟩
theorem Fy (p:Pm):∀v∈p.cells.toList,v.oneCell'=true:=by
 intro v hv
 simp only [Pm.cells,List.mem_cons,List.not_mem_nil,or_false] at hv
 rcases hv with rfl|rfl|rfl|rfl|rfl|rfl|rfl|rfl|rfl<;>rfl
theorem Z0 (p:Pl):∀v∈p.cells.toList,v.oneCell'=true:=by
 intro v hv
 simp only [Pl.cells,List.mem_cons,List.not_mem_nil,or_false] at hv
 rcases hv with rfl|rfl|rfl|rfl<;>rfl
section
variable {l:List Pm} {i:Nat} {last:Int}
theorem q5d (h:i<l.length):jl ((l.map Pm.v).drop i) last i=if bL (l.getD i Pm.zero).z≠0 then ((i:Int),bL (l.getD i Pm.zero).z) else if dS ((l.getD i Pm.zero).q.map Hb.b)≠0 then ((i:Int),dS ((l.getD i Pm.zero).q.map Hb.b)) else if (l.getD i Pm.zero).z.next<last then ((i:Int),411) else jl ((l.map Pm.v).drop (i+1)) (l.getD i Pm.zero).z.next (i+1):=by
 rw [List.drop_eq_getElem_cons (by rw [List.length_map];exact h),jl,List.getElem_map,List.getD_eq_getElem?_getD,List.getElem?_eq_getElem h]
 rfl
theorem qxy:jl ((l.map Pm.v).drop l.length) last i=(-1,0):=by
 rw [List.drop_eq_nil_of_le (by rw [List.length_map];exact Nat.le_refl _)]
 rfl
theorem Br {w w':World} {R:Int×Nat} {v n:Int} {m:Nat} (h:R=(v,m)) (hn:n=(m:Int)) (hb:Below w.heap.size w w'):Is w (.tuple #[.int .i64 R.1,.int .i64 (R.2:Int)]) (.returned (.tuple #[.int .i64 v,.int .i64 n])) w':=by
 subst h hn
 exact ⟨rfl,hb⟩
end
theorem Z4 (s:bT):(dC s).length≤6000007:=by
 by_cases h:bL s=0
 ·rw [Nh h];exact YT (Ng h)
 ·rw [YS h];exact Nat.zero_le _
section
variable {l:List Pm} {lv:List Pv} {i:Nat} {x:Pm} {d wb:List Nat} {lg:Bool} {we ce:Nat} {ci:Int}
theorem SN (hi:i<l.length) (hx:l.getD i Pm.zero=x) (hst:stA (l.map Pm.v) i=(d,lg)) (hw:jP (x.q.map Hb.b)=(wb,we)) (h:lg=true∨we≠0∨16777216<d.length+(dC x.z).length+wb.length):stA (l.map Pm.v) (i+1)=(d,true):=by
 have hv:(l.map Pm.v).getD i Pv.zero=x.v:=by rw [List.getD_eq_getElem?_getD,List.getElem?_map,getD_at Pm.zero hi,hx];rfl
 rw [stA,hst,hv]
 unfold nU Pm.v
 dsimp only
 rw [hw]
 exact if_pos (by rw [Bool.or_eq_true,Bool.or_eq_true,decide_eq_true_eq,decide_eq_true_eq,or_assoc];exact h)
theorem q7q (hi:i<l.length) (hx:l.getD i Pm.zero=x) (hst:stA (l.map Pm.v) i=(d,lg)) (hw:jP (x.q.map Hb.b)=(wb,we)) (h:¬(lg=true∨we≠0∨16777216<d.length+(dC x.z).length+wb.length)):stA (l.map Pm.v) (i+1)=(d++dC x.z++wb,false):=by
 have hv:(l.map Pm.v).getD i Pv.zero=x.v:=by rw [List.getD_eq_getElem?_getD,List.getElem?_map,getD_at Pm.zero hi,hx];rfl
 rw [stA,hst,hv]
 unfold nU Pm.v
 dsimp only
 rw [hw]
 exact if_neg (by rw [Bool.or_eq_true,Bool.or_eq_true,decide_eq_true_eq,decide_eq_true_eq,or_assoc];exact h)
def bA (l:List Pm) (i:Nat):List Nat:=l.length::(l.take i).flatMap fun p=>jK p.v
theorem qtp (hi:i<l.length) (hx:l.getD i Pm.zero=x) (hw:jP (x.q.map Hb.b)=(wb,we)):bA l (i+1)=bA l i++[aA x.z.next,(dC x.z).length,wb.length]:=by
 unfold bA
 rw [MU Pm.zero hi,List.flatMap_append,hx]
 have h:jK x.v=[aA x.z.next,(dC x.z).length,wb.length]:=by unfold jK Pm.v;rw [hw]
 rw [List.flatMap_cons,h,List.flatMap_nil,List.append_nil]
 rfl
theorem qxz:bA l l.length=nT (l.map Pm.v) (l.map Pm.v).length:=by
 unfold bA nT
 rw [List.take_length,List.take_length,List.length_map,List.flatMap_map]
theorem Jm:∀i,i≤l.length→(bA l i).length=1+3*i:=fun i h=>by
 unfold bA
 rw [List.length_cons]
 have key:∀m:List Pm,(m.flatMap fun p=>jK p.v).length=3*m.length:=fun m=>by
  induction m with
  |nil=>rfl
  |cons a t ih=>rw [List.flatMap_cons,List.length_append,ih,List.length_cons];show 3+_=_;omega
 rw [key,List.length_take,Nat.min_eq_left h]
 omega
theorem qx0:0<((bA l i).flatMap ah).length:=by
 unfold bA
 rw [List.flatMap_cons,List.length_append]
 have:=MR l.length
 omega
theorem q02 (h:l.length≤1000000):∀i,∀x∈bA l i,x<18446744073709551616:=fun i x hx=>by
 rcases List.mem_cons.1 hx with rfl|hx
 ·omega
 ·obtain ⟨p,_,hp⟩:=List.mem_flatMap.1 hx
  have h1:=Z4 p.z
  have h2:=X3 (p.q.map Hb.b)
  rcases List.mem_cons.1 hp with rfl|hp
  ·exact uP _
  ·rcases List.mem_cons.1 hp with rfl|hp
   ·show (dC p.z).length<_;omega
   ·rw [List.mem_singleton.1 hp];show (jP (p.q.map Hb.b)).1.length<_;omega
theorem qtq (h:mY lv=(ci,ce)) (he:ce≠0):lL lv=([],ce):=by unfold lL;rw [h];exact if_pos he
theorem Z5 (h:mY lv=(ci,ce)) (he:ce=0) (hst:stA lv lv.length=(d,lg)) (hl:lg=true∨16777216<(headA lv).length+d.length):lL lv=([],3):=by
 unfold lL;rw [h,hst];rw [if_neg om];exact if_pos hl
theorem qx1 (h:mY lv=(ci,ce)) (he:ce=0) (hst:stA lv lv.length=(d,lg)) (hl:¬(lg=true∨16777216<(headA lv).length+d.length)):lL lv=(headA lv++d,0):=by
 unfold lL;rw [h,hst];rw [if_neg om];exact if_neg hl
end
def BC (W:World) (gb ga gk:Nat) (b:List Nat) (A:Option Addr) (c p:Nat) (jM:Bool) (most:Nat) (fr:List ag) (r:Ending) (w':World):Prop:=
 r= .returned (.int .i64 (bU b p most:Int))∧Mem W w' (.blk gb #[.slice A b.length c] 35:: .blk ga #[.int .i64 (aR b p:Int)] 3:: .blk gk #[.bool (jM&&dz b p most)] 4::fr)
theorem TN {W w':World} {gb ga gk c p most:Nat} {b:List Nat} {A:Option Addr} {jM H8:Bool} {fr:List ag} {q:Nat} (h1:aR b p=q) (h2:(jM&&dz b p most)=H8)
  (HM:Mem W w' (.blk gb #[.slice A b.length c] 35:: .blk ga #[.int .i64 (q:Int)] 3:: .blk gk #[.bool H8] 4::fr)):BC W gb ga gk b A c p jM most fr (.returned (.int .i64 (bU b p most:Int))) w':=by
 subst h1 h2
 exact ⟨rfl,HM⟩
section
variable {b:List Nat} {p k last sum i K p0:Nat} {ok ok0 o1 o2 o3:Bool} {out:List Pl}
def dY (b:List Nat) (ok0:Bool) (K p0:Nat) (ok:Bool) (k p last sum:Nat) (out:List Pl):Prop:=iU b ok0 K p0 0 0=(iU b ok k p last sum).map fun r=>(out++r.1,r.2)
theorem q5l:dY b ok0 K p0 ok0 K p0 0 0 []:=by
 unfold dY
 cases iU b ok0 K p0 0 0<;>rfl
def jB (b:List Nat) (p sum:Nat):Pl:=⟨jI b p,sum,sum+jJ b p,sum+jJ b p+kX b p⟩
theorem dY.step (h:dY b ok0 K p0 ok (k+1) p last sum out) (ho:(((ok&&dz b p 4611686018427387904)&&dz b (aR b p) 16777216)&&dz b (aR b (aR b p)) 16777216)=true) (hl:last≤jI b p):dY b ok0 K p0 true k (rowP b p) (jI b p) (sum+jJ b p+kX b p) (out++[jB b p sum]):=by
 rw [Bool.and_assoc,Bool.and_assoc,Bool.and_eq_true] at ho
 unfold dY at h⊢
 rw [h,ho.1,Jk,Jk,jA,if_pos ⟨by unfold zD;rw [←Bool.and_assoc];rw [←Bool.and_assoc] at ho;exact ho.2,hl⟩,Option.map_map]
 congr 1
 funext r
 show (out++(_::r.1),r.2)=((out++[_])++r.1,r.2)
 rw [List.append_assoc]
 rfl
theorem dY.stop (h:dY b ok0 K p0 ok (k+1) p last sum out) (ho:¬((((ok&&dz b p 4611686018427387904)&&dz b (aR b p) 16777216)&&dz b (aR b (aR b p)) 16777216)=true∧last≤jI b p)):iU b ok0 K p0 0 0=none:=by
 unfold dY at h
 rw [h]
 cases ok with
 |false=>rfl
 | true =>
  rw [Jk,jA,if_neg]
  ·rfl
  ·rintro ⟨h1,h2⟩
   refine ho ⟨?_,h2⟩
   unfold zD at h1
   rw [Bool.true_and,Bool.and_assoc]
   exact h1
theorem dY.fin (h:dY b ok0 K p0 true 0 p last sum out):iU b ok0 K p0 0 0=some (out,p,sum):=by
 unfold dY at h
 rw [h,Jk,jA]
 show some (out++[],p,sum)=_
 rw [List.append_nil]
theorem dY.bad (h:dY b ok0 K p0 false k p last sum out):iU b ok0 K p0 0 0=none:=by
 unfold dY at h
 rw [h,ZJ]
 rfl
theorem q5m:jI b p≤4611686018427387904:=tq _ _
theorem q5n:jJ b p≤16777216:=tq _ _
theorem q5o:kX b p≤16777216:=tq _ _
end
def FE (w:World) (R:List Pl×Nat) (r:Ending) (w':World):Prop:=
 (∃A c,r= .returned (.tuple #[.slice A R.1.length c,.int .i64 (R.2:Int)])∧w'.ownsRow w.heap.size 128 4 (.slice A R.1.length c) R.1.length (R.1.flatMap fe)∧R.1.length≤c)∧Below w.heap.size w w'
theorem zN {w w':World} {R:List Pl×Nat} {er:Nat} {n:Int} (hb:Below w.heap.size w w') (he:R=([],er)) (hn:n=er):FE w R (.returned (.tuple #[.slice none 0 0,.int .i64 n])) w':=by
 subst he hn
 exact ⟨⟨none,0,rfl,World.ownsRow_nil _ _ _ _,Nat.le_refl _⟩,hb⟩
theorem qyd {w w':World} {R:List Pl×Nat} {L:List Pl} {A:Option Addr} {c n:Nat} (he:R=(L,0)) (hn:n=L.length) (ho:w'.ownsRow w.heap.size 128 4 (.slice A n c) n (L.flatMap fe)) (hc:n≤c) (hb:Below w.heap.size w w'):FE w R (.returned (.tuple #[.slice A n c,.int .i64 0])) w':=by
 subst he hn
 exact ⟨⟨A,c,rfl,ho,hc⟩,hb⟩
def Pl.zO (a:Nat) (x:Pl):Pl:={x with sn:=x.sn+a}
def Pl.Ed (a:Nat) (x:Pl):Pl:={x with sn:=x.sn+a,st:=x.st+a}
theorem qye {f:Pl→Pl} {l:List Pl} {k:Nat} (h:l.length≤k):dE f l k=l.map f:=by
 unfold dE
 rw [List.take_of_length_le h,List.drop_eq_nil_of_le h,List.append_nil]
theorem qt1 (A:Option Addr) (c:Nat) (l:List Pm) (B:Nat) (w:World) (hL:ax B w) (hB:B≤w.heap.size) (hr:Rd w w.heap.size 9 A l.length (l.flatMap iV)) (hP:∀p∈l,df p∧dJ w p) (hc:l.length≤c) (hn:l.length≤1000000):
    Calls Tryz.prog 22 #[.slice A l.length c] w (Is w (.tuple #[vI (mY (l.map Pm.v)).1,vI ((mY (l.map Pm.v)).2:Int)])):=by
 refine (dM Tryz.func22 52) ?_
 refine (JP∘Jp 2∘Jj∘JQ∘JP∘Jp 1∘Jl∘Jp 1∘bK∘Jj) (Ju (fun cB=>?_) fun cB=>?_)
 ·
  intro a Z HM
  have iE:=of_decide_eq_true cB
  exact Jb Z HM ((JT∘JP∘Jp 2∘Jj∘JZ∘dL) fun HM=>Br (m:=5) (if_pos (by rw [List.length_map];omega)) rfl HM.below)
 intro a Z HM
 have iE:=of_decide_eq_false cB
 refine Jb Z HM ((JF∘aI∘JP∘Jp 1∘Jj∘JQ∘JP∘Jp 1∘Jl∘Jp 1∘Jj∘JB) fun a Z HM=>?_)
 refine qj (fun mS aS wS=>∃(i:Nat) (last:Int),(i≤l.length)∧(bC last)∧(mY (l.map Pm.v)=jl ((l.map Pm.v).drop i) last i)∧mS=l.length-i∧Fr aS 52 [] [(16,vI i),(15,vI l.length),(14,.slice A l.length c),(4,vI last),(13,.bool false),(3,vI 0),(2,vI 0),(0,.slice A l.length c)]∧Mem w wS []) (m:=l.length-0) ⟨0,0,Nat.zero_le _,(show bC (0:Int) from by unfold bC;decide),(if_neg (by rw [List.length_map];omega)),rfl,Z.sub kr,HM.pk []⟩ ?_
 clear Z HM;rintro mS a w_ ⟨i,last,hi,hlast,hck,rfl,Z,HM⟩
 refine Jb Z HM ((JP∘Jp 1∘Jj∘JQ) (Ju (fun pV=>?_) fun pV=>?_))
 ·
  intro a Z HM
  have mr:=of_decide_eq_true pV
  have Ef:i<l.length:=by omega
  obtain ⟨x,hx⟩:∃x,(l.getD i Pm.zero)=x:=⟨_,rfl⟩
  obtain ⟨hpo,hpr⟩:=hP x (by rw [←hx];exact qs Pm.zero Ef)
  have hat:=q5d (last:=last) Ef
  rw [hx] at hat
  have hxn:=hpo.nx
  unfold bC at hxn
  have hxl:=hpo.len
  refine Jb Z HM ((JT∘aI∘JQ∘JB∘JP∘Jp 1) ?_)
  repeat (first|clear Z|clear HM)
  intro a Z HM
  obtain ⟨gA,oA,rfl,_⟩:=hr.qp (Nat.lt_of_le_of_lt (Nat.zero_le _) (show i<l.length from by omega)) de
  refine Jb Z HM ((Jy (h:=by exact Yl.ix gA oA i 9 rfl rfl rfl)∘Jy (v:= .agg ((l.getD i Pm.zero).cells)) (h:=by exact Yl.qm rfl rfl bQ rfl (fun _ h=>(h.old hr).qQ ZX ((getD_at Pm.zero Ef))))∘Jo (.agg x.cells) (by rw [hx])∘JA #[vI 0,vI 0,vQ 0,vN,vN,vN,vN,vN,vN]) fun w6 g6=>(Jp 1∘JV bQ bg (h1:=by exact Fy x)) fun alC=>(Jj∘JQ∘JP∘Jf 0∘Jy (v:= .agg x.z.cells) (h:=by exact Yl.qm rfl rfl zr rfl (fun _ h=>h.sub (i:=0) rfl 0 rfl))∘JI (h:=by exact fun HM=>Ty x.z hpo.ok hpo.few hpo.cap _ (hpr.st.old HM))) fun XO hbw=>(Jp 1∘fC∘Jr∘Jp 2∘aT∘Jj) (Jh (fun hd25=>?_) fun hd25=>?_))
  ·
   exact (JT∘JP∘Jp 4∘Jj∘JZ∘dL) fun HM=>Br (hck.trans (hat.trans (if_pos om))) rfl HM.below
  refine (JF∘aI∘JQ∘JP∘Jg 8 O0∘Jl∘Jp 1∘Jj∘JB) fun a Z HM=>?_
  refine qj (fun mS aS wS=>∃(k:Nat),(k≤x.q.length)∧(dS (x.q.map Hb.b)=dS ((x.q.drop k).map Hb.b))∧mS=x.q.length-k∧Fr aS 52 [] [(31,vI k),(30,vI x.q.length),(29,.slice x.A x.q.length x.c),(25,.bool false),(7,vI (bL x.z)),(5,vI i),(6,vP g6 0),(17,.bool true),(16,vI i),(15,vI l.length),(14,.slice (some ⟨gA,oA,none⟩) l.length c),(4,vI last),(13,.bool false),(3,vI 0),(2,vI 0),(0,.slice (some ⟨gA,oA,none⟩) l.length c)]∧Mem w wS [.blk g6 x.cells 55]) (m:=x.q.length-0) ⟨0,Nat.zero_le _,rfl,rfl,Z.sub kr,HM.pk [0]⟩ ?_
  clear Z HM;rintro mS a w_ ⟨k,hk,hke,rfl,Z,HM⟩
  refine Jb Z HM ((JP∘Jp 1∘Jj∘JQ) (Ju (fun qE=>?_) fun qE=>?_))
  ·
   intro a Z HM
   have hd32:=of_decide_eq_true qE
   have wO:k<x.q.length:=by omega
   have Gw:=X4 wO
   refine Jb Z HM ((JT∘aI∘JQ∘JB∘JP) fun a Z HM=>?_)
   obtain ⟨kH,kI,hq1,_⟩:=Rd.qp hpr.bl (Nat.lt_of_le_of_lt (Nat.zero_le _) (show k<x.q.length from by omega)) de
   have gz:=hpr.bl;rw [hq1] at gz
   replace Z:=Z.sp 29 (.slice (some ⟨kH,kI,none⟩) x.q.length x.c) rfl (by rw [hq1];try rfl)
   refine Jb Z HM ((Jy (h:=by exact Yl.ix kH kI k 5 rfl rfl rfl)∘Jy (v:= .agg ((x.q.getD k Hb.zero).b.cells (x.q.getD k Hb.zero).A (x.q.getD k Hb.zero).c)) (h:=by exact Yl.qm rfl rfl ak rfl (fun _ h=>(h.old gz).qQ QQ ((getD_at Hb.zero wO))))∘JA #[vB 0,vB 0,vI 0,vI 0,vN]) fun w9 g9=>(JV ak bg (h1:=by exact uE _ _ _)) fun II=>(bK∘Jr∘Jy (v:= .agg ((x.q.getD k Hb.zero).b.cells (x.q.getD k Hb.zero).A (x.q.getD k Hb.zero).c)) (h:=by exact Yl.qm rfl rfl ak rfl (fun _ h=>qc (h.blk (i:=0) rfl)))∘JL (h:=by exact fun HM=>qs2 (x.q.getD k Hb.zero).b (hpo.ZY _ (qs Hb.zero wO)) ((x.q.getD k Hb.zero).A) (x.q.getD k Hb.zero).c B _ (hL.mem HM hB) (HM.le hB) (HM.old (hpr.ev.at wO)) (hpo.ZZ _ (qs Hb.zero wO)))) ?_)
   rintro HM _ NJ ⟨rfl,hbw⟩
   refine ⟨_,rfl,_,HM.call hbw,?_⟩
   refine (Jp 1∘bK∘Jr∘Jp 2∘aT∘Jj) (Jh (fun hd38=>?_) fun hd38=>?_)
   ·
    exact (JT∘JP∘Jp 4∘Jj∘JZ∘dL) fun HM=>Br (hck.trans (hat.trans ((if_neg om).trans (if_pos (by rw [hke,Gw,if_neg om];omega))))) (by rw [hke,Gw,if_neg om]) HM.below
   refine (JF∘aI∘JR∘dR 1∘Jp 1∘aT∘Jq) fun a Z HM=>?_
   replace Z:=Z.sp 29 (.slice x.A x.q.length x.c) rfl (by rw [hq1])
   exact ⟨_,om,k+1,by omega,(hke.trans (by rw [Gw,if_pos om])),rfl,Z.sub kr,HM.pk [1]⟩
  intro a Z HM
  have hd32:=of_decide_eq_false qE
  have he0:dS (x.q.map Hb.b)=0:=by rw [hke,List.drop_of_length_le om];rfl
  refine Jb Z HM ((JF∘JX∘JG∘JQ∘JP∘Jf 0∘Jg 0 O0∘Jp 2∘fC∘Jj) (Ji (fun CV=>?_) fun CV=>?_))
  ·
   exact (JT∘JP∘Jp 3∘Jj∘JZ∘dL) fun HM=>Br (m:=411) (hck.trans (hat.trans ((if_neg om).trans ((if_neg om).trans (if_pos om))))) rfl HM.below
  refine (JF∘aI∘JR∘Jf 0∘Jg 0 O0∘Jp 1∘bK∘Jj∘JR∘dR 1∘Jp 1∘aT∘Jq) fun a Z HM=>?_
  exact ⟨_,om,i+1,x.z.next,by omega,hpo.nx,(hck.trans (by rw [hat,if_neg om,if_neg om,if_neg om])),rfl,Z.sub kr,HM.pk []⟩
 intro a Z HM
 have mr:=of_decide_eq_false pV
 have hin:i=l.length:=by omega
 exact Jb Z HM ((JF∘JX∘JG∘JP∘Jp 2∘Jj∘JZ∘dL) fun HM=>Br (m:=0) (hck.trans (by rw [hin];exact qxy)) rfl HM.below)
theorem Ob (A:Option Addr) (c:Nat) (l:List Pm) (B:Nat) (w:World) (hL:ax B w) (hB:B≤w.heap.size) (hr:Rd w w.heap.size 9 A l.length (l.flatMap iV)) (hP:∀p∈l,df p∧dJ w p) (hc:l.length≤c) (hn:l.length≤1000000) {ci:Int} {ce:Nat} (h:mY (l.map Pm.v)=(ci,ce)):Calls Tryz.prog 22 #[.slice A l.length c] w (Is w (.tuple #[vI ci,vI ce])):=by
 have k:=qt1 A c l B w hL hB hr hP hc hn
 rwa [h] at k
theorem q1p (A:Option Addr) (c:Nat) (q:List Hb) (B:Nat) (w:World) (hL:ax B w) (hB:B≤w.heap.size) (hr:Rd w w.heap.size 5 A q.length (q.flatMap hbL)) (hQ:mE w q) (hok:∀h∈q,h.b.Ok) (hev:∀h∈q,h.b.evs.length≤1000000) (hn:q.length≤1000000) {wb:List Nat} {we:Nat} (h:jP (q.map Hb.b)=(wb,we)):Calls Tryz.prog 55 #[.slice A q.length c] w (zp w we wb):=by
 have k:=qqj A c q B w hL hB hr hQ hok hev hn
 rwa [h] at k
theorem q52 (l:List Nat):∀b∈([113,97,1]++l.flatMap ah),b<256:=fun b hb=>by
 rcases List.mem_append.1 hb with h|h
 ·simp only [List.mem_cons,List.not_mem_nil,or_false] at h
  omega
 ·obtain ⟨x,_,hx⟩:=List.mem_flatMap.1 h
  exact yC x b hx
def iH (l:List Pm):List Nat:=[113,97,1]++(bA l l.length).flatMap ah
theorem q53 (l:List Pm):∀b∈iH l,b<256:=q52 _
theorem q1q {l:List Pm} (hn:l.length≤100000):(iH l).length≤16777216:=by
 unfold iH
 rw [List.length_append]
 have h1:=zu (bA l l.length)
 have h2:=Jm (l:=l) l.length (Nat.le_refl _)
 have h9:([113,97,1]:List Nat).length=3:=rfl
 omega
theorem Ul {l:List Pm}:bZ (iH l)=headA (l.map Pm.v):=by unfold headA iH;rw [qxz]
theorem qyp {w w':World} {p:List Nat×Nat} {h R d:List Nat} {A:Option Addr} {c:Nat} (he:p=(h++d,0)) (hR:R=h) (ho:w'.ownsRow w.heap.size 5 1 (.slice A (R.length+d.length) c) (R.length+d.length) (R.map B8++d.map B8)) (hc:R.length+d.length≤c) (hb:Below w.heap.size w w'):zp w p.2 p.1 (.returned (.tuple #[.slice A (R.length+d.length) c,vI 0])) w':=by
 subst he hR
 rw [←List.length_append] at ho hc⊢
 rw [←List.map_append] at ho
 exact ⟨⟨A,c,rfl,ho,hc⟩,hb⟩
theorem q1r {l:List Pm} (hn:l.length≤100000):(bZ (iH l)).length≤10000000:=by
 unfold iH
 rw [qc4,List.length_append]
 have h1:=zu (bA l l.length)
 have h2:=Jm (l:=l) l.length (Nat.le_refl _)
 have h9:([113,97,1]:List Nat).length=3:=rfl
 omega
theorem Um (A:Option Addr) (c:Nat) (l:List Pm) (B:Nat) (w:World) (hL:ax B w) (hB:B≤w.heap.size) (hr:Rd w w.heap.size 9 A l.length (l.flatMap iV)) (hP:∀p∈l,df p∧dJ w p) (hc:l.length≤c) (hn:l.length≤100000):
    Calls Tryz.prog 23 #[.slice A l.length c] w (zp w (lL (l.map Pm.v)).2 (lL (l.map Pm.v)).1):=by
 refine (dM Tryz.func23 104) ?_
 refine (JP∘Jp 2∘Jq) fun a Z HM=>?_
 obtain ⟨ci,ce,hce⟩:∃ci ce,mY (l.map Pm.v)=(ci,ce):=⟨_,_,rfl⟩
 refine Jb Z HM ((JG∘JQ∘JP∘Jp 1∘JI (h:=by exact fun HM=>Ob A c l B _ (hL.mem HM hB) (HM.le hB) (HM.old hr) (fun p hp=>⟨(hP p hp).1,(hP p hp).2.old HM⟩) hc om hce)) fun Dj hbw=>(Jp 1∘Jx∘Jx∘Jp 2∘aN∘Jr∘Jp 2∘aT∘Jj) (Ju (fun kv=>?_) fun kv=>?_))
 ·
  intro a Z HM
  have uT:=bne_iff_ne.1 kv
  exact Jb Z HM ((JT∘JP∘Jp 3∘Jj∘JZ∘dL) fun HM=>Io HM.below (qtq hce om) rfl)
 intro a Z HM
 have uT:=bne_eq_false_iff_eq.1 kv
 have Ej:ce=0:=by omega
 refine Jb Z HM ((JF∘aI∘JP∘Jp 1∘Jl∘Jw .u64∘JU zz #[vQ l.length]) fun TU Un=>(Jp 1∘gW∘Jq) fun a Z HM=>?_)
 replace HM:=(HM.fB (i:=0) (n:=1) (size:=1) rfl rfl de).j3 (i:=0) (ys:=(bA l 0).map aK) rfl (rfl)
 replace HM:Mem w _ [.row (vS Un ((bA l 0).length) 1) ((bA l 0).length) ((bA l 0).map aK) 30 1]:=HM
 replace Z:=Z.sp 6 (.slice (some ⟨Un,0,none⟩) (bA l 0).length 1) rfl rfl
 refine Jb Z HM ((JG∘JP∘Jp 1∘Jq) fun a Z HM=>?_)
 replace HM:=HM.nil 5 1
 refine Jb Z HM ((JG∘JP∘Jp 1∘Jj∘JQ∘JP∘Jp 1∘Jl∘Jp 1∘Jj∘JB) fun a Z HM=>?_)
 refine qj (fun mS aS wS=>∃(i:Nat) (An:Option Addr) (cn:Nat) (d:List Nat) (Ad:Option Addr) (cd:Nat) (lg:Bool),(i≤l.length)∧(stA (l.map Pm.v) i=(d,lg))∧((bA l i).length≤cn)∧(d.length≤cd)∧(d.length≤16777216)∧mS=l.length-i∧Fr aS 104 [] [(31,vI i),(30,vI l.length),(29,.slice A l.length c),(8,.bool lg),(7,.slice Ad d.length cd),(6,.slice An ((bA l i).length) cn),(23,.bool false),(5,vI ce),(3,vI 0),(2,vN),(0,.slice A l.length c)]∧Mem w wS [.row (.slice Ad d.length cd) d.length (d.map B8) 5 1,.row (.slice An ((bA l i).length) cn) ((bA l i).length) ((bA l i).map aK) 30 1]) (m:=l.length-0) ⟨0,some ⟨Un,0,none⟩,1,[],none,0,false,Nat.zero_le _,rfl,Nat.le_refl _,Nat.le_refl _,Nat.zero_le _,rfl,Z.sub kr,HM.pk [0,1]⟩ ?_
 clear Z HM;rintro mS a w_ ⟨i,An,cn,d,Ad,cd,lg,hi,hst,hcn,hcd,hdl,rfl,Z,HM⟩
 refine Jb Z HM ((JP∘Jp 1∘Jj∘JQ) (Ju (fun qE=>?_) fun qE=>?_))
 ·
  intro a Z HM
  have hd32:=of_decide_eq_true qE
  have qG:i<l.length:=by omega
  obtain ⟨x,hx⟩:∃x,(l.getD i Pm.zero)=x:=⟨_,rfl⟩
  obtain ⟨hpo,hpr⟩:=hP x (by rw [←hx];exact qs Pm.zero qG)
  obtain ⟨wb,we,hw⟩:∃wb we,jP (x.q.map Hb.b)=(wb,we):=⟨_,_,rfl⟩
  have hwl:wb.length≤524288:=by have h:=X3 (x.q.map Hb.b);rwa [hw] at h
  have hol:=Z4 x.z
  have hns:=qtp qG hx hw
  have hnl:=Jm (l:=l) i hi
  refine Jb Z HM ((JT∘aI∘JQ∘JB∘JP) ?_)
  repeat (first|clear Z|clear HM)
  intro a Z HM
  obtain ⟨gA,oA,rfl,_⟩:=hr.qp (Nat.lt_of_le_of_lt (Nat.zero_le _) (show i<l.length from by omega)) de
  refine Jb Z HM ((Jy (h:=by exact Yl.ix gA oA i 9 rfl rfl rfl)∘Jy (v:= .agg ((l.getD i Pm.zero).cells)) (h:=by exact Yl.qm rfl rfl bQ rfl (fun _ h=>(h.old hr).qQ ZX ((getD_at Pm.zero qG))))∘Jo (.agg x.cells) (by rw [hx])∘JA #[vI 0,vI 0,vQ 0,vN,vN,vN,vN,vN,vN]) fun uH g10=>(JV bQ bg (h1:=by exact Fy x)) fun KE=>(bK∘Jr∘Jf 0∘Jy (v:= .agg x.z.cells) (h:=by exact Yl.qm rfl rfl zr rfl (fun _ h=>h.sub (i:=0) rfl 0 rfl))∘JK (h:=by exact fun HM=>qtv x.z hpo.ok hpo.few hpo.cap B _ (hL.mem HM hB) (HM.le hB) (hpr.st.old HM))) fun A38 c38 w38 hc38=>(Jp 1∘Jx∘Jx∘Jp 2∘xA∘Jr∘Jg 8 O1∘JK (h:=by exact fun HM=>q1p x.A x.c x.q B _ (hL.mem HM hB) (HM.le hB) (HM.old hpr.bl) (hpr.ev.old HM) hpo.ZY hpo.ZZ hpo.len hw)) fun xD xE Xn yL=>(Jp 1∘Jx∘Jx∘Jp 2∘Jr∘Jp 1∘Jf 0∘Jg 0 O2∘Jv 1 [(51,vQ (IntKind.u64.wrap x.z.next))]∘Jo (vQ (aA x.z.next)) (by exact Rs _)∘Jp 1∘Jl∘Jw .u64∘Jp 1∘Jl∘Jw .u64∘JU zz #[vQ (aA x.z.next),vQ ((dC x.z).length:Nat),vQ wb.length]) fun w58 g58=>(JD ([aA x.z.next,(dC x.z).length,wb.length].map aK) 5 (fun _ _=>yG) zz (hr:=by exact fun HM=>HM.aZ (i:=0) (n:=3) (size:=1) rfl rfl) (h1:=by exact uR _)) fun w59 KZ c59 Uo=>(Jp 1∘aN∘Jq) fun a Z HM=>?_)
  have wT:((bA l i).length)+3=(bA l (i+1)).length:=by rw [hns,List.length_append];rfl
  replace HM:=HM.bu (i:=5) (ys:=(bA l (i+1)).map aK) rfl wT (by rw [hns,List.map_append])
  rw [wT] at Uo
  replace Z:=Z.sp 6 (.slice KZ ((bA l (i+1)).length) c59) rfl (by rw [wT])
  refine Jb Z HM ((JG∘JP∘Jp 2) (Ju (fun pR=>?_) fun pR=>?_))
  ·
   intro a Z HM
   have El:lg=true:=by simpa using pR
   refine Jb Z HM ((Jv 15 [(8,.bool true)]∘bK∘Jj∘JQ∘JP∘Jp 1∘Jj∘JT∘JX∘JG∘JR∘dR 1∘Jp 1∘aT∘Jq) fun a Z HM=>?_)
   exact ⟨_,om,i+1,KZ,c59,d,Ad,cd,true,by omega,SN qG hx hst hw (by first|exact .inl El|exact .inr (.inl om)|exact .inr (.inr om)),by omega,hcd,hdl,rfl,Z.sub kr,HM.pk [4,5]⟩
  intro a Z HM
  have Uq:¬lg=true:=by simpa using pR
  refine Jb Z HM ((Jp 4) (Jh (fun Ur=>?_) fun Ur=>?_))
  ·
   refine (Jv 11 [(8,.bool true)]∘aN∘Jj∘JQ∘JP∘Jp 1∘Jj∘JT∘JX∘JG∘JR∘dR 1∘Jp 1∘aT∘Jq) fun a Z HM=>?_
   exact ⟨_,om,i+1,KZ,c59,d,Ad,cd,true,by omega,SN qG hx hst hw (by first|exact .inl El|exact .inr (.inl om)|exact .inr (.inr om)),by omega,hcd,hdl,rfl,Z.sub kr,HM.pk [4,5]⟩
  refine (Jp 1∘Jl∘Jp 1∘Jl∘Ja∘Jp 1∘Jl∘Ja∘Jp 3∘aN∘Jj∘JQ∘JP∘Jp 1∘Jj) (Ju (fun wU=>?_) fun wU=>?_)
  ·
   intro a Z HM
   have Us:=of_decide_eq_true wU
   replace Z:=Z.on 8 wU
   refine Jb Z HM ((JT∘JX∘JG∘JR∘dR 1∘Jp 1∘aT∘Jq) fun a Z HM=>?_)
   exact ⟨_,om,i+1,KZ,c59,d,Ad,cd,true,by omega,SN qG hx hst hw (by first|exact .inl El|exact .inr (.inl om)|exact .inr (.inr om)),by omega,hcd,hdl,rfl,Z.sub kr,HM.pk [4,5]⟩
  intro a Z HM
  have Us:=of_decide_eq_false wU
  replace Z:=Z.on 8 wU
  refine Jb Z HM ((JF∘aI∘JR∘Jp 2∘JD ((dC x.z).map B8) 4 (fun _ _=>sW) aM (hr:=by exact fun HM=>HM.rd (i:=2) rfl) (h1:=by exact Aq _)) fun YM A79 c79 ami=>(Jp 1∘JD (wb.map B8) 4 (fun _ _=>sW) aM (hr:=by exact fun HM=>HM.rd (i:=1) rfl) (h1:=by exact Aq _)) fun w81 A81 c81 K3=>(Jp 1∘qR∘Jq) fun a Z HM=>?_)
  have wV:(d.length+((dC x.z).length))+wb.length=(d++dC x.z++wb).length:=by rw [List.length_append,List.length_append]
  replace HM:=HM.bu (i:=4) (ys:=(d++dC x.z++wb).map B8) rfl wV (by rw [List.map_append,List.map_append])
  rw [wV] at K3
  replace Z:=Z.sp 7 (.slice A81 ((d++dC x.z++wb).length) c81) rfl (by rw [wV])
  refine Jb Z HM ((JG∘JR∘dR 1∘Jp 1∘aT∘Jq) fun a Z HM=>?_)
  exact ⟨_,om,i+1,KZ,c59,(d++dC x.z++wb),A81,c81,false,by omega,q7q qG hx hst hw (by rintro (h|h|h)<;>first|(exact absurd h Uq)|omega),by omega,K3,by rw [List.length_append,List.length_append];omega,rfl,Z.sub kr,HM.pk [4,5]⟩
 intro a Z HM
 have hd32:=of_decide_eq_false qE
 revert HM;revert a;repeat (first|clear Z|clear HM)
 intro a Z HM
 obtain rfl:i=l.length:=by omega
 have Px:=Jm (l:=l) l.length (Nat.le_refl _)
 have amj:=zu (bA l l.length)
 have amk:=qx0 (l:=l) (i:=l.length)
 refine Jb Z HM ((JF∘JX∘JG∘JP∘JU aM #[vB 113,vB 97,vB 1]) fun w84 g84=>fun a Z HM=>?_)
 refine fo Z 1 rfl rfl ?_
 refine YD Z HM 0 (e:=5) rfl rfl rfl kr kr rfl de ?_
 clear Z HM;intro a w85 Z HM
 refine Jb Z HM ((Jp 1∘JK (h:=by exact fun HM=>Qj An ((bA l l.length).length) cn (bA l l.length) _ (HM.rd (i:=2) rfl) (q02 om _) (by have:=Jm (l:=l) l.length (Nat.le_refl _);omega))) fun A87 c87 w87 amm=>fun a Z HM=>?_)
 refine fo Z 4 rfl rfl ?_
 refine Wp Z HM (xs:=([113,97,1]:List Nat).map B8) (news:=((bA l l.length).flatMap ah).map B8) rfl aM rfl rfl (HM.uS (i:=1) (size:=1) (n:=3) rfl rfl) (HM.rd (i:=0) rfl) om om (fun h=>by cases h) om om rfl de ?_
 clear Z HM;intro a w88 S9 c88 Z HM Ut
 have eH:3+((bA l l.length).flatMap ah).length=(iH l).length:=by unfold iH;rw [List.length_append];rfl
 replace HM:=HM.bu (i:=0) (ys:=(iH l).map B8) rfl eH (by unfold iH;rw [List.map_append])
 rw [eH] at Ut
 replace Z:=Z.sp 88 (vS S9 ((iH l).length) c88) rfl (by rw [eH])
 refine Jb Z HM ((JK (h:=by exact fun HM=>QB (some ⟨S9,0,none⟩) ((iH l).length) c88 (iH l) B _ (hL.mem HM hB) (HM.le hB) (HM.rd (i:=0) rfl) rfl (q1q hn) (q53 l))) fun NG NH w89 DU=>(Jp 1∘Jx∘Jx∘Jp 2∘xA∘Jq) fun a Z HM=>?_)
 have nk:stA (l.map Pm.v) (l.map Pm.v).length=(d,lg):=by rw [List.length_map];exact hst
 have hhd:(bZ (iH l)).length≤10000000:=q1r hn
 refine Jb Z HM ((JG∘JQ∘JP∘Jp 2) (Ju (fun Em=>?_) fun Em=>?_))
 ·
  exact (Jp 7∘aN∘Jj∘JT∘JP∘Jp 2∘Jj∘JZ∘dL) fun HM=>Io HM.below (Z5 hce Ej nk (.inl (by simpa using Em))) rfl
 intro a Z HM
 have Uu:¬lg=true:=by simpa using Em
 refine Jb Z HM ((Jp 1∘Jl∘Jp 1∘Jl∘Ja∘Jp 2∘aN∘Jj) (Ji (fun K4=>?_) fun K4=>?_))
 ·
  exact (JT∘JP∘Jp 2∘Jj∘JZ∘dL) fun HM=>Io HM.below (Z5 hce Ej nk (.inr (by rw [←Ul];omega))) rfl
 exact (JF∘aI∘JP∘Jp 2∘JD (d.map B8) 0 (fun _ _=>bg) aM (hr:=by exact fun HM=>HM.rd (i:=4) rfl) (h1:=by exact Aq _)) fun Tc amn amo K5=>(Jp 2∘Jj∘JZ∘dL) fun HM=>qyp (qx1 hce Ej nk (by rw [←Ul];rintro (h|h)<;>first|(exact absurd h Uu)|omega)) Ul (HM.own (i:=0) rfl) K5 HM.below
theorem q23 {w:World} {B n k:Nat} {A:Option Addr} {l:List Nat} (h:Rd w B 1 A n (l.map B8)) (hk:k≤n):Rd w B 1 A k ((l.take k).map B8):=by
 have h2:=h.upto hk
 rwa [Nat.mul_one,←List.map_take] at h2
theorem qyg {b:List Nat} {p sum:Nat} {out:List Pl} (h:∀x∈out,x.sn≤sum∧x.st≤sum∧x.en≤sum):∀x∈out++[jB b p sum],x.sn≤sum+jJ b p+kX b p∧x.st≤sum+jJ b p+kX b p∧x.en≤sum+jJ b p+kX b p:=fun x hx=>by
 rcases List.mem_append.1 hx with hx|hx
 ·have:=h x hx;omega
 ·rw [List.mem_singleton.1 hx]
  unfold jB
  dsimp only
  omega
theorem FH {α:Type} {l:List α} {i:Nat} {t u:α} (h:l[i]?=some t):(l.set i u)[i]?=some u:=List.getElem?_set_self (List.getElem?_eq_some_iff.1 h).1
theorem q5p (l:List Pl):∀v∈l.flatMap fe,v.oneCell'=true:=by
 intro v hv
 obtain ⟨x,_,hx⟩:=List.mem_flatMap.1 hv
 exact Z0 x v hx
theorem NZ (W w:World) (gb ga gk:Nat) (A:Option Addr) (c:Nat) (b:List Nat) (p:Nat) (jM:Bool) (most:Nat) (fr:List ag) (hl:∀z∈b,z<256) (hp:p≤b.length) (hn:b.length≤100000000) (hr:Rd W W.heap.size 1 A b.length (b.map B8)) (hc:b.length≤c) (Ic:most≤4611686018427387904)
    (HM:Mem W w (.blk gb #[.slice A b.length c] 35:: .blk ga #[vI p] 3:: .blk gk #[.bool jM] 4::fr)):
    Calls Tryz.prog 61 #[vI most,vP gb 0,vP ga 0,vP gk 0] w (BC W gb ga gk b A c p jM most fr):=by
 refine pz Tryz.func61 [vI most,vP gb 0,vP ga 0,vP gk 0] [(0,vI most),(1,vP gb 0),(2,vP ga 0),(3,vP gk 0)] fun a Z=>?_
 refine Jb Z HM ((JP∘Jp 1∘Jq) fun a Z HM=>?_)
 have hvl:=wY (b.drop p)
 rw [List.length_drop] at hvl
 have hvb:=F4 (b.drop p) (fun z hz=>hl z (List.mem_of_mem_drop hz))
 have htv:=tq most (b.drop p)
 refine Jb Z HM ((JG∘JP∘Jc O0∘Jc O1∘Jy (h:=by exact Yl.sliceFrom aM (j:=p) rfl rfl rfl om)∘JL (h:=by exact fun HM=>LB _ _ _ (b.drop p) _ (Rd.P9 (HM.old hr) hp hc) (fun z hz=>hl z (List.mem_of_mem_drop hz)) om)) ?_)
 rintro HM _ xC ⟨rfl,hbw⟩
 refine ⟨_,rfl,_,HM.call hbw,?_⟩
 refine (Jp 1∘Jx∘Jx∘Jx∘Jp 3∘Jr∘Jc O2∘Jp 1) (Ju (fun iq=>?_) fun iq=>?_)
 ·
  refine (Jp 4) (Je (fun pE=>?_) fun pE=>?_)
  ·
   refine (Jp 2∘Jw .u64∘Jp 2∘JW fA bg) fun nJ=>(jc∘Jr∘Jc O1∘Jp 1∘Ja∘JW fJ bg) fun nK=>(jc∘Jr∘Jp 2∘Jw .u64∘Jy (v:=vQ (if (most:Int)<((ae (b.drop p)).1:Int) then (most:Int) else ((ae (b.drop p)).1:Int))) (h:=by exact Yl.min rfl rfl rfl)∘Jo (vQ (af most (b.drop p))) (by rw [EX])∘Jw .i64∘Jp 1∘aN∘Jj∘JZ) fun a Z HM=>?_
   replace HM:=HM.pt (fs':=(.blk gb #[.slice A b.length c] 35:: .blk ga #[vI (p+((ae (b.drop p)).2.1):Nat)] 3:: .blk gk #[.bool (decide (((ae (b.drop p)).1:Int)≤(most:Int)))] 4::fr)) 3 [0,1,2]
   replace HM:=HM.pt (fs':=(.blk gb #[.slice A b.length c] 35:: .blk ga #[vI (p+((ae (b.drop p)).2.1):Nat)] 3:: .blk gk #[.bool (decide (((ae (b.drop p)).1:Int)≤(most:Int)))] 4::fr)) 3 [0,1,2]
   exact iO rfl Z rfl (TN rfl (by rw [iq,Bool.true_and];unfold dz aF;rw [Bool.eq_iff_iff];simp only [decide_eq_true_eq];omega) HM)
  refine (Jp 5∘JW fA bg) fun nJ=>(jc∘Jr∘Jc O1∘Jp 1∘Ja∘JW fJ bg) fun nK=>(jc∘Jr∘Jp 2∘Jw .u64∘Jy (v:=vQ (if (most:Int)<((ae (b.drop p)).1:Int) then (most:Int) else ((ae (b.drop p)).1:Int))) (h:=by exact Yl.min rfl rfl rfl)∘Jo (vQ (af most (b.drop p))) (by rw [EX])∘Jw .i64∘Jp 1∘aN∘Jj∘JZ) fun a Z HM=>?_
  replace HM:=HM.pt (fs':=(.blk gb #[.slice A b.length c] 35:: .blk ga #[vI (p+((ae (b.drop p)).2.1):Nat)] 3:: .blk gk #[.bool false] 4::fr)) 3 [0,1,2]
  replace HM:=HM.pt (fs':=(.blk gb #[.slice A b.length c] 35:: .blk ga #[vI (p+((ae (b.drop p)).2.1):Nat)] 3:: .blk gk #[.bool false] 4::fr)) 3 [0,1,2]
  exact iO rfl Z rfl (TN rfl (by unfold dz;rw [Xt om,Bool.and_false]) HM)
 refine (Jv 9 [(27,.bool false)]∘JW fA bg) fun nJ=>(ES∘Jr∘Jc O1∘Jp 1∘Ja∘JW fJ bg) fun nK=>(ES∘Jr∘Jp 2∘Jw .u64∘Jy (v:=vQ (if (most:Int)<((ae (b.drop p)).1:Int) then (most:Int) else ((ae (b.drop p)).1:Int))) (h:=by exact Yl.min rfl rfl rfl)∘Jo (vQ (af most (b.drop p))) (by rw [EX])∘Jw .i64∘Jp 1∘qR∘Jj∘JZ) fun a Z HM=>?_
 replace HM:=HM.pt (fs':=(.blk gb #[.slice A b.length c] 35:: .blk ga #[vI (p+((ae (b.drop p)).2.1):Nat)] 3:: .blk gk #[.bool false] 4::fr)) 3 [0,1,2]
 replace HM:=HM.pt (fs':=(.blk gb #[.slice A b.length c] 35:: .blk ga #[vI (p+((ae (b.drop p)).2.1):Nat)] 3:: .blk gk #[.bool false] 4::fr)) 3 [0,1,2]
 exact iO rfl Z rfl (TN rfl (by rw [iq,Bool.false_and]) HM)
theorem KG (A:Option Addr) (c:Nat) (b:List Nat) (B:Nat) (w:World) (hL:ax B w) (hB:B≤w.heap.size) (hr:Rd w w.heap.size 1 A b.length (b.map B8)) (hc:b.length≤c) (hn:b.length≤100000000) (hl:∀z∈b,z<256):
    Calls Tryz.prog 20 #[.slice A b.length c] w (FE w (aQ b)):=by
 refine (dM Tryz.func20 129) ?_
 refine (JP∘CG) fun w1 g1=>(Jp 2∘Jj∘JQ∘JB∘JP∘Jc O0∘Jl∘Jp 2∘fC∘Jj) (Ju (fun ek=>?_) fun ek=>?_)
 ·
  intro a Z HM
  have j4:=of_decide_eq_true ek
  exact Jb Z HM ((JT∘JP∘Jp 2∘Jj∘JZ∘dL) fun HM=>zN HM.below (q00 om) rfl)
 intro a Z HM
 have j4:=of_decide_eq_false ek
 have hlen:¬16777216<b.length:=by omega
 refine Jb Z HM ((JF∘JP∘Jc O0∘Jl∘Jp 2) (Ju (fun il=>?_) fun il=>?_))
 ·
  intro a Z HM
  have mo:=of_decide_eq_true il
  have hhd:¬(b.take 3=[113,97,1]):=fun h=>by have:=congrArg List.length h;rw [List.length_take] at this;have h9:([113,97,1]:List Nat).length=3:=rfl;omega
  exact Jb Z HM ((Jp 6∘aN∘Jj∘JT∘JP∘Jp 2∘Jj∘JZ∘dL) fun HM=>zN HM.below (ZK hlen hhd) rfl)
 intro a Z HM
 have mo:=of_decide_eq_false il
 have h3:3≤b.length:=by omega
 refine Jb Z HM ((Jc O0∘Jy (h:=by exact Yl.yA aM (j:=3) rfl rfl rfl om)∘Jy (h:=by exact Yl.str rfl rfl (fun _ h=>q23 (h.old hr) om))∘Jp 1∘Jo (.bool (!(decide (b.take 3=[113,97,1])))) (by rw [show (⟨#[113,97,1]⟩:ByteArray)=gH [113,97,1] from rfl,q3u (fun z hz=>hl z (List.mem_of_mem_take hz)) de])∘Jp 2∘aN∘Jj) (Ju (fun iF=>?_) fun iF=>?_))
 ·
  intro a Z HM
  have jf:=of_decide_eq_false ((Bool.not_eq_true' _).mp iF)
  have hhd:¬(b.take 3=[113,97,1]):=jf
  exact Jb Z HM ((JT∘JP∘Jp 2∘Jj∘JZ∘dL) fun HM=>zN HM.below (ZK hlen hhd) rfl)
 intro a Z HM
 have jf:=of_decide_eq_true ((Bool.not_eq_false' _).mp iF)
 have qF:b.take 3=[113,97,1]:=jf
 refine Jb Z HM ((JF∘aI∘JP∘JA #[vI 0]) fun w4 g4=>(JW bg bg) fun zP=>(Jq) fun a Z HM=>?_)
 obtain ⟨K,hK⟩:∃K,bU b 3 1024=K:=⟨_,rfl⟩
 have hK2:K≤1024:=by rw [←hK];exact SC
 refine Jb Z HM ((JG∘JP∘JA #[.bool false]) fun w5 g5=>(JW bg bg) fun Q0=>(Jr∘Jy (h:=by exact Yl.makeFunc (fst:=[]) (aJ:=[vP g1 0,vP g4 0,vP g5 0]) rfl rfl rfl)∘Jp 1∘aT∘Jr∘Jp 1∘Jq) fun a Z HM=>?_)
 replace HM:=HM.nil 128 4
 refine Jb Z HM ((JG∘JP∘Jp 2∘Jj∘JQ∘JP∘Jp 1) fun a Z HM=>?_)
 refine fo Z 1 rfl rfl ?_
 replace HM:=HM.pk (fs':=[.blk g1 #[.slice A b.length c] 35,.blk g4 #[vI 3] 3,.blk g5 #[.bool true] 4,.row (vN) 0 [] 128 4]) [3,2,1,0]
 refine zg Z (f:=61) (vs:=[vI 1024]) (fst:=[]) (aJ:=[vP g1 0,vP g4 0,vP g5 0]) rfl rfl rfl kr rfl de (NZ w _ g1 g4 g5 A c b 3 true 1024 [.row (vN) 0 [] 128 4] hl h3 hn hr hc de HM) ?_
 rintro _ TU ⟨rfl,hm⟩
 refine ⟨_,rfl,?_⟩
 replace HM:=hm
 clear Z;intro a Z
 refine Jb Z HM ((Jp 1∘Jj∘JB) fun a Z HM=>?_)
 refine qj (fun mS aS wS=>∃(i:Nat) (p:Nat) (ok:Bool) (last:Nat) (sum:Nat) (out:List Pl) (Ao:Option Addr) (co:Nat),(i≤K)∧(p≤b.length)∧(dY b (true&&dz b 3 1024) K (aR b 3) ok (K-i) p last sum out)∧(last≤4611686018427387904)∧(sum≤i*33554432)∧(out.length=i)∧(∀x∈out,x.sn≤sum∧x.st≤sum∧x.en≤sum)∧(out.length≤co)∧mS=K-i∧Fr aS 129 [] [(29,vI i),(28,vI (bU b 3 1024)),(9,vI sum),(8,vI last),(7,.slice Ao out.length co),(6,.func (.func 61) #[] #[vP g1 0,vP g4 0,vP g5 0]),(5,vP g5 0),(4,vP g4 0),(16,.bool false),(12,.bool false),(3,vI 0),(2,vN),(1,vP g1 0)]∧Mem w wS [.blk g1 #[.slice A b.length c] 35,.blk g4 #[vI p] 3,.blk g5 #[.bool ok] 4,.row (.slice Ao out.length co) out.length (out.flatMap fe) 128 4]) (m:=K-0) ⟨0,(aR b 3),(true&&dz b 3 1024),0,0,[],none,0,Nat.zero_le _,vG h3,q5l,Nat.zero_le _,Nat.zero_le _,rfl,(fun x hx=>by cases hx),Nat.le_refl _,rfl,Z.sub kr,HM.pk [0,1,2,3]⟩ ?_
 clear Z HM;rintro mS a w_ ⟨i,p,ok,last,sum,out,Ao,co,hi,hp,hG,hlast,hsum,hol,Ez,hco,rfl,Z,HM⟩
 refine Jb Z HM ((JP∘Jp 1∘Jj∘JQ) (Ju (fun jh=>?_) fun jh=>?_))
 ·
  intro a Z HM
  have vJ:=of_decide_eq_true jh
  have alF:i<K:=by omega
  obtain ⟨k,hk⟩:∃k,K-i=k+1:=⟨K-i-1,by omega⟩
  have hp1:=vG (b:=b) hp
  have hp2:=vG (b:=b) hp1
  have hnl:=q5m (b:=b) (p:=p)
  have hsl:=q5n (b:=b) (p:=p)
  have hbl:=q5o (b:=b) (p:=p)
  rw [hk] at hG
  unfold jI at hnl;unfold jJ at hsl;unfold kX at hbl
  refine Jb Z HM ((JT∘aI∘JQ∘JB∘JP∘Jp 1) fun a Z HM=>?_)
  refine fo Z 1 rfl rfl ?_
  replace HM:=HM.pk (fs':=[.blk g1 #[.slice A b.length c] 35,.blk g4 #[vI p] 3,.blk g5 #[.bool ok] 4,.row (.slice Ao out.length co) out.length (out.flatMap fe) 128 4]) [0,1,2,3]
  refine zg Z (f:=61) (vs:=[vI 4611686018427387904]) (fst:=[]) (aJ:=[vP g1 0,vP g4 0,vP g5 0]) rfl rfl rfl kr rfl de (NZ w _ g1 g4 g5 A c b p ok 4611686018427387904 [.row (.slice Ao out.length co) out.length (out.flatMap fe) 128 4] hl hp hn hr hc de HM) ?_
  rintro _ w32 ⟨rfl,hm⟩
  refine ⟨_,rfl,?_⟩
  replace HM:=hm
  clear Z;intro a Z
  refine Jb Z HM ((Jy (v:= .agg #[vI (bU b p 4611686018427387904),vI 0,vI 0,vI 0]) (h:=by exact Yl.build (vs:=[(0,vI (bU b p 4611686018427387904))]) rfl kr kr)∘JA #[vI 0,vI 0,vI 0,vI 0]) fun uH g10=>(JV kE bg) fun aaP=>(fC∘Jr∘Jp 1∘Jf 1∘JW bg fJ) fun aaQ=>(sZ∘Jj) fun a Z HM=>?_)
  refine wp_seq ?_
  refine Jb Z HM ((Vs (.t (.t (.f (.f .n)))) [6]) fun CY=>(Vf 0 1∘Vp [2]∘Vc 1 O0) fun a Z HM HS=>?_)
  refine s_on Z 3 rfl ?_
  replace HM:=HM.pk (fs':=[.blk g1 #[.slice A b.length c] 35,.blk g4 #[vI (aR b p)] 3,.blk g5 #[.bool (ok&&dz b p 4611686018427387904)] 4,.blk g10 #[vI (bU b p 4611686018427387904),vI sum,vI 0,vI 0] 128,.row (.slice Ao out.length co) out.length (out.flatMap fe) 128 4]) [1,2,3,0,4]
  refine zg Z (f:=61) (vs:=[vI 16777216]) (fst:=[]) (aJ:=[vP g1 0,vP g4 0,vP g5 0]) rfl rfl rfl kr rfl de (NZ w _ g1 g4 g5 A c b (aR b p) (ok&&dz b p 4611686018427387904) 16777216 [.blk g10 #[vI (bU b p 4611686018427387904),vI sum,vI 0,vI 0] 128,.row (.slice Ao out.length co) out.length (out.flatMap fe) 128 4] hl hp1 hn hr hc de HM) ?_
  rintro _ w39 ⟨rfl,hm⟩
  refine ⟨_,rfl,?_⟩
  replace HM:=hm
  clear Z;intro a Z
  refine aD (HM.pk [3,0,4]) (fun HS=>?_)
  refine Vb Z HM HS ((Va 4∘Vf 5 2) fun a Z HM HS=>?_)
  refine s_on Z 6 rfl (iN Z HM 3 fun Ig HM=>?_)
  refine jZ kr ?_
  refine qh kr ?_
  refine wp_seq ?_
  refine Jb Z HM ((Vs (.t (.f (.f .n))) [6]) fun CZ=>(Vf 0 2∘Vp [2]∘Vc 1 O1) fun a Z HM HS=>?_)
  refine s_on Z 3 rfl ?_
  replace HM:=HM.pk (fs':=[.blk g1 #[.slice A b.length c] 35,.blk g4 #[vI (aR b (aR b p))] 3,.blk g5 #[.bool ((ok&&dz b p 4611686018427387904)&&dz b (aR b p) 16777216)] 4,.blk g10 #[vI (bU b p 4611686018427387904),vI sum,vI (sum+(bU b (aR b p) 16777216):Nat),vI 0] 128,.row (.slice Ao out.length co) out.length (out.flatMap fe) 128 4]) [0,1,2,3,4]
  refine zg Z (f:=61) (vs:=[vI 16777216]) (fst:=[]) (aJ:=[vP g1 0,vP g4 0,vP g5 0]) rfl rfl rfl kr rfl de (NZ w _ g1 g4 g5 A c b (aR b (aR b p)) ((ok&&dz b p 4611686018427387904)&&dz b (aR b p) 16777216) 16777216 [.blk g10 #[vI (bU b p 4611686018427387904),vI sum,vI (sum+(bU b (aR b p) 16777216):Nat),vI 0] 128,.row (.slice Ao out.length co) out.length (out.flatMap fe) 128 4] hl hp2 hn hr hc de HM) ?_
  rintro _ w45 ⟨rfl,hm⟩
  refine ⟨_,rfl,?_⟩
  replace HM:=hm
  clear Z;intro a Z
  refine aD (HM.pk [0,3,4]) (fun HS=>?_)
  refine Vb Z HM HS ((Va 4∘Vf 5 3) fun a Z HM HS=>?_)
  refine s_on Z 6 rfl (iN Z HM 3 fun aaR HM=>?_)
  refine jZ kr ?_
  refine qh kr ?_
  refine Jb Z HM ((JP∘Jc O2∘Jp 1) (Ju (fun zR=>?_) fun zR=>?_))
  ·
   refine (Jg 0 O3∘Jp 3∘JW fA bg) fun KH=>(jc∘Jj∘JQ∘JP∘Jc O2∘Jp 1∘aN∘Jj) (Ju (fun Eg=>?_) fun Eg=>?_)
   ·
    intro a Z HM
    have TV:=of_decide_eq_false ((Bool.not_eq_true' _).mp Eg)
    exact Jb Z HM ((JT∘JP∘Jp 2∘Jj∘JZ∘dL) fun HM=>by exact zN HM.below (SF hlen qF (by rw [hK];exact hG.stop (by unfold jI;rintro ⟨_,h2⟩;omega))) rfl)
   intro a Z HM
   have TV:=of_decide_eq_true ((Bool.not_eq_false' _).mp Eg)
   replace HM:=HM.cz (i:=2) (ds:= #[.bool true]) rfl (by rw [decide_eq_true om])
   replace HM:Mem w _ [.blk g1 #[.slice A b.length c] 35,.blk g4 #[vI (aR b (aR b (aR b p)))] 3,.blk g5 #[.bool true] 4,.blk g10 #[vI (bU b p 4611686018427387904),vI sum,vI (sum+(bU b (aR b p) 16777216):Nat),vI (sum+(bU b (aR b p) 16777216)+(bU b (aR b (aR b p)) 16777216):Nat)] 128,.row (.slice Ao out.length co) out.length (out.flatMap fe) 128 4]:=HM
   refine Jb Z HM ((JF∘aI∘JP∘Jp 1∘Jy (v:= .agg #[vI (bU b p 4611686018427387904),vI sum,vI (sum+(bU b (aR b p) 16777216):Nat),vI (sum+(bU b (aR b p) 16777216)+(bU b (aR b (aR b p)) 16777216):Nat)]) (h:=by exact Yl.qm rfl rfl kE rfl (fun _ h=>qc (h.blk (i:=3) rfl)))∘JU Bp #[vI (bU b p 4611686018427387904),vI sum,vI (sum+(bU b (aR b p) 16777216):Nat),vI (sum+(bU b (aR b p) 16777216)+(bU b (aR b (aR b p)) 16777216):Nat)]) fun w59 g59=>(JD ([(jB b p sum)].flatMap fe) 5 (fun _ _=>yG) Bp (hr:=by exact fun HM=>HM.aZ (i:=0) (n:=1) (size:=4) rfl rfl) (h1:=by exact q5p _)) fun AQ A60 c60 KI=>(Jp 1∘gW∘Jq) fun a Z HM=>?_)
   have wP:out.length+1=(out++[(jB b p sum)]).length:=by rw [List.length_append];rfl
   replace HM:=HM.bu (i:=5) (ys:=(out++[(jB b p sum)]).flatMap fe) rfl wP (by rw [List.flatMap_append])
   rw [wP] at KI
   replace Z:=Z.sp 7 (.slice A60 ((out++[(jB b p sum)]).length) c60) rfl (by rw [wP])
   refine Jb Z HM ((JG∘Vs .n []) fun RH=>(Vf 0 0∘Vf 2 3∘Vc 1 O4∘Vp [4]∘Vc 3 O4∘Vp [5]∘Vd∘aT∘JG∘JR∘dR 1∘Jp 1∘aT∘Jq) fun a Z HM=>?_)
   exact ⟨_,om,i+1,(aR b (aR b (aR b p))),true,(bU b p 4611686018427387904),(sum+bU b (aR b p) 16777216+bU b (aR b (aR b p)) 16777216),(out++[(jB b p sum)]),A60,c60,by omega,vG hp2,(by rw [show K- (i+1)=k by omega];exact hG.step zR (by unfold jI;omega)),hnl,by omega,by rw [List.length_append,hol];rfl,qyg Ez,KI,rfl,Z.sub kr,HM.pk [1,2,3,5]⟩
  exact (Jp 5∘JW fA bg) fun KH=>(jc∘Jj∘JQ∘JP∘Jc O2∘Jp 1∘aN∘Jj∘JT∘JP∘Jp 2∘Jj∘JZ∘dL) fun HM=>by exact zN HM.below (SF hlen qF (by rw [hK];exact hG.stop (by rintro ⟨h1,_⟩;rw [h1] at zR;cases zR))) rfl
 intro a Z HM
 have vJ:=of_decide_eq_false jh
 have hik:i=K:=by omega
 refine Jb Z HM ((JF∘JX∘JG∘JQ∘JP∘Jc O2∘Jp 2) (Ju (fun Eh=>?_) fun Eh=>?_))
 ·
  intro a Z HM
  have TW:ok=false:=by simpa using Eh
  have hbad:iU b (true&&dz b 3 1024) K (aR b 3) 0 0=none:=by rw [TW] at hG;exact hG.bad
  exact Jb Z HM ((Jv 23 [(91,.bool true)]∘fC∘Jj∘JT∘JP∘Jp 2∘Jj∘JZ∘dL) fun HM=>zN HM.below (SF hlen qF (by rw [hK];exact hbad)) rfl)
 intro a Z HM
 have TY:ok=true:=by simpa using Eh
 have hfin:iU b (true&&dz b 3 1024) K (aR b 3) 0 0=some (out,p,sum):=by rw [TY,show K-i=0 by omega] at hG;exact hG.fin
 refine Jb Z HM ((Jc O1∘dR 4∘Jc O0∘Jl∘Jp 3) (Ji (fun TZ=>?_) fun TZ=>?_))
 ·
  exact (Jv 16 [(91,.bool true)]∘aN∘Jj∘JT∘JP∘Jp 2∘Jj∘JZ∘dL) fun HM=>by exact zN HM.below (SG hlen qF (by rw [hK];exact hfin) (by rintro ⟨h1,h2,h3⟩;first|omega|(rw [h2] at oF;cases oF))) rfl
 refine (Jc O0∘Jc O1∘dR 4∘Jy (h:=by exact Yl.yA aM (j:=p+4) rfl rfl rfl om)∘JI (h:=by exact fun HM=>QE A (p+4) c (b.take (p+4)) B _ (hL.mem HM hB) (HM.le hB) (q23 (HM.old hr) om) om (by rw [List.length_take];omega) om (fun z hz=>hl z (List.mem_of_mem_take hz)))) fun w80 hbw=>(Jp 3) (Ju (fun oF=>?_) fun oF=>?_)
 ·
  exact (Jv 8 [(91,.bool true)]∘aN∘Jj∘JT∘JP∘Jp 2∘Jj∘JZ∘dL) fun HM=>by exact zN HM.below (SG hlen qF (by rw [hK];exact hfin) (by rintro ⟨h1,h2,h3⟩;first|omega|(rw [h2] at oF;cases oF))) rfl
 refine (Jc O1∘dR 4∘Jp 1∘Ja∘Jc O0∘Jl∘Jp 2∘aN∘Jj) (Ju (fun pU=>?_) fun pU=>?_)
 ·
  intro a Z HM
  have hd91:=bne_iff_ne.1 pU
  exact Jb Z HM ((JT∘JP∘Jp 2∘Jj∘JZ∘dL) fun HM=>by exact zN HM.below (SG hlen qF (by rw [hK];exact hfin) (by rintro ⟨h1,h2,h3⟩;first|omega|(rw [h2] at oF;cases oF))) rfl)
 intro a Z HM
 have hd91:=bne_eq_false_iff_eq.1 pU
 have hall:p+4≤b.length∧zn (b.take (p+4))=true∧p+4+sum=b.length:=⟨by omega,by simpa using oF,by omega⟩
 refine Jb Z HM ((JF∘aI∘JQ∘JP∘Jp 1∘Jl∘Jp 1∘Jq) fun a Z HM=>?_)
 replace HM:=HM.j3 (i:=3) (ys:=(dE (Pl.up (p+4)) out 0).flatMap fe) rfl (by rw [qtw])
 refine Jb Z HM ((JG∘JB) fun a Z HM=>?_)
 refine qj (fun mS aS wS=>∃(j:Nat),(j≤out.length)∧mS=out.length-j∧Fr aS 129 [] [(94,vI j),(93,vI out.length),(91,.bool false),(30,.bool false),(29,vI i),(28,vI (bU b 3 1024)),(9,vI sum),(8,vI last),(7,.slice Ao out.length co),(6,.func (.func 61) #[] #[vP g1 0,vP g4 0,vP g5 0]),(5,vP g5 0),(4,vP g4 0),(16,.bool false),(12,.bool false),(3,vI 0),(2,vN),(1,vP g1 0)]∧Mem w wS [.blk g1 #[.slice A b.length c] 35,.blk g4 #[vI p] 3,.blk g5 #[.bool ok] 4,.row (.slice Ao out.length co) out.length ((dE (Pl.up (p+4)) out j).flatMap fe) 128 4]) (m:=out.length-0) ⟨0,Nat.zero_le _,rfl,Z.sub kr,HM.pk [0,1,2,3]⟩ ?_
 clear Z HM;rintro mS a w_ ⟨j,hj,rfl,Z,HM⟩
 refine Jb Z HM ((JP∘Jp 1∘Jj∘JQ) (Ju (fun iy=>?_) fun iy=>?_))
 ·
  intro a Z HM
  have hd95:=of_decide_eq_true iy
  have oG:j<out.length:=by omega
  have hmx:=Ez _ (qs Pl.zero oG)
  have hu1:((out.getD j Pl.zero).zO (p+4)).st=(out.getD j Pl.zero).st:=rfl
  have hu2:((out.getD j Pl.zero).Ed (p+4)).en=(out.getD j Pl.zero).en:=rfl
  refine Jb Z HM ((JT∘aI∘JQ∘JB∘JP∘Jp 2∘aT∘Jj) fun a Z HM=>?_)
  refine wp_seq ?_
  refine Jb Z HM ((Vs .n [10]) fun alH=>(Vp [0,1]) ?_)
  repeat (first|clear Z|clear HM|clear HS)
  intro a Z HM HS
  obtain ⟨FI,rfl⟩:=qc2 (HM.own (i:=3) rfl) (Nat.lt_of_le_of_lt (Nat.zero_le _) (show j<out.length from by omega))
  refine Vb Z HM HS ((Vy 2 (h:=by exact Yl.xq FI j 4 rfl rfl rfl)∘Vf 3 1∘Vy 4 (v:=vI ((out.getD j Pl.zero).sn)) (h:=by exact Yl.ze rfl rfl kr (fun _ h=>h.Ap sH (i:=3) rfl (k:=j) (off:=1) (x:=(out.getD j Pl.zero)) ((FD (Pl.up (p+4)) out Pl.zero oG)) rfl))∘Vc 5 O1∘EU 6 4∘Va 7∘Vu 8 (h:=by exact fun _=>Yl.xq FI j 4 rfl rfl rfl)∘Vf 9 1) fun a Z HM HS=>?_)
  refine s_on Z 10 rfl ?_
  refine P6 Z HM (i:=3) rfl rfl rfl rfl kr rfl rfl (by rw [qK fe 4 sH];simp only [List.length_set,TM];omega) fun T9 HM=>?_
  replace HM:=HM.j3 (i:=3) (ys:=((dE (Pl.up (p+4)) out j).set j ((out.getD j Pl.zero).zO (p+4))).flatMap fe) rfl (P7 fe 4 sH (dE (Pl.up (p+4)) out j) j (out.getD j Pl.zero) ((out.getD j Pl.zero).zO (p+4)) (FD (Pl.up (p+4)) out Pl.zero oG) 1 de _ rfl)
  refine jZ kr ?_
  refine qh kr ?_
  refine wp_seq ?_
  refine Jb Z HM ((Vs .n [10]) fun alI=>(Vp [0,1]∘Vy 2 (h:=by exact Yl.xq FI j 4 rfl rfl rfl)∘Vf 3 2∘Vy 4 (v:=vI (((out.getD j Pl.zero).zO (p+4)).st)) (h:=by exact Yl.ze rfl rfl kr (fun _ h=>h.Ap sH (i:=3) rfl (k:=j) (off:=2) (x:=((out.getD j Pl.zero).zO (p+4))) ((FH (FD (Pl.up (p+4)) out Pl.zero oG))) rfl))∘Vc 5 O1∘EU 6 4∘Va 7∘Vu 8 (h:=by exact fun _=>Yl.xq FI j 4 rfl rfl rfl)∘Vf 9 2) fun a Z HM HS=>?_)
  refine s_on Z 10 rfl ?_
  refine P6 Z HM (i:=3) rfl rfl rfl rfl kr rfl rfl (by rw [qK fe 4 sH];simp only [List.length_set,TM];omega) fun Ua HM=>?_
  replace HM:=HM.j3 (i:=3) (ys:=(((dE (Pl.up (p+4)) out j).set j ((out.getD j Pl.zero).zO (p+4))).set j ((out.getD j Pl.zero).Ed (p+4))).flatMap fe) rfl (P7 fe 4 sH ((dE (Pl.up (p+4)) out j).set j ((out.getD j Pl.zero).zO (p+4))) j ((out.getD j Pl.zero).zO (p+4)) ((out.getD j Pl.zero).Ed (p+4)) (FH (FD (Pl.up (p+4)) out Pl.zero oG)) 2 de _ rfl)
  refine jZ kr ?_
  refine qh kr ?_
  refine Jb Z HM ((Vs .n [10]) fun alJ=>(Vp [0,1]∘Vy 2 (h:=by exact Yl.xq FI j 4 rfl rfl rfl)∘Vf 3 3∘Vy 4 (v:=vI (((out.getD j Pl.zero).Ed (p+4)).en)) (h:=by exact Yl.ze rfl rfl kr (fun _ h=>h.Ap sH (i:=3) rfl (k:=j) (off:=3) (x:=((out.getD j Pl.zero).Ed (p+4))) ((FH (FH (FD (Pl.up (p+4)) out Pl.zero oG)))) rfl))∘Vc 5 O1∘EU 6 4∘Va 7∘Vu 8 (h:=by exact fun _=>Yl.xq FI j 4 rfl rfl rfl)∘Vf 9 3) fun a Z HM HS=>?_)
  refine s_on Z 10 rfl ?_
  refine P6 Z HM (i:=3) rfl rfl rfl rfl kr rfl rfl (by rw [qK fe 4 sH];simp only [List.length_set,TM];omega) fun Ub HM=>?_
  replace HM:=HM.j3 (i:=3) (ys:=(dE (Pl.up (p+4)) out (j+1)).flatMap fe) rfl ((P7 fe 4 sH (((dE (Pl.up (p+4)) out j).set j ((out.getD j Pl.zero).zO (p+4))).set j ((out.getD j Pl.zero).Ed (p+4))) j ((out.getD j Pl.zero).Ed (p+4)) ((out.getD j Pl.zero).up (p+4)) (FH (FH (FD (Pl.up (p+4)) out Pl.zero oG))) 3 de _ rfl).trans (by rw [List.set_set,List.set_set,qtx (Pl.up (p+4)) out Pl.zero oG]))
  refine jZ kr ?_
  refine qh kr ?_
  refine Jb Z HM ((JG∘JR∘dR 1∘Jp 1∘aN∘Jq) fun a Z HM=>?_)
  exact ⟨_,om,j+1,by omega,rfl,Z.sub kr,HM.pk [0,1,2,3]⟩
 intro a Z HM
 have hd95:=of_decide_eq_false iy
 have hjn:out.length≤j:=by omega
 exact Jb Z HM ((JF∘JX∘JG∘JP∘Jp 3∘Jj∘JZ∘dL) fun HM=>qyd (q7o hlen qF (by rw [hK];exact hfin) hall) (by rw [List.length_map]) (by have h:=HM.own (i:=3) rfl;rwa [qye hjn] at h) hco HM.below)
def wB (W:World) (g p:Nat) (A:Option Addr) (c:Nat) (b q:List Nat) (sv:Value) (fs:List ag) (r:Ending) (w':World):Prop:=
 (∃x e NA nc,aV b p x e∧r= .returned (vQ x)∧(q++[x]).length≤nc∧Mem W w' (.blk g #[.slice A b.length c,vI e,.slice NA (q++[x]).length nc,sv] 285:: .row (.slice NA (q++[x]).length nc) (q++[x]).length ((q++[x]).map aK) 30 1::fs))∨((ae (b.drop p)).2.2≠0∧iR W fs (oO dI 344) r w')
theorem q07 {W w':World} {g p:Nat} {A:Option Addr} {c:Nat} {b q:List Nat} {sv:Value} {fs:List ag} {r:Ending} (h:(ae (b.drop p)).2.2≠0) (hd:iR W fs (oO dI 344) r w'):wB W g p A c b q sv fs r w':= .inr ⟨h,hd⟩
theorem q08 {W w':World} {g p:Nat} {A:Option Addr} {c:Nat} {b q:List Nat} {sv:Value} {fs:List ag} {r:Ending} {x e nc:Nat} {NA:Option Addr} (h:aV b p x e) (hr:r= .returned (vQ x)) (hc:(q++[x]).length≤nc) (hm:Mem W w' (.blk g #[.slice A b.length c,vI e,.slice NA (q++[x]).length nc,sv] 285:: .row (.slice NA (q++[x]).length nc) (q++[x]).length ((q++[x]).map aK) 30 1::fs)):wB W g p A c b q sv fs r w':= .inl ⟨x,e,NA,nc,h,hr,hc,hm⟩
theorem qk6 (W w:World) (g p:Nat) (A NA:Option Addr) (c nc:Nat) (b q:List Nat) (sv:Value) (fs:List ag) (HW:Mem W w (.blk g #[.slice A b.length c,vI p,.slice NA q.length nc,sv] 285:: .row (.slice NA q.length nc) q.length (q.map aK) 30 1::fs)) (hin:Rd W W.heap.size 1 A b.length (b.map B8)) (hbc:b.length≤c) (hl:∀z∈b,z<256) (hb:b.length≤16777216) (ha:p≤b.length) (hq:q.length≤p):
    Calls Tryz.prog 241 #[vP g 0] w (wB W g p A c b q sv fs):=by
 refine (dM Tryz.func241 42) ?_
 intro a Z HM
 replace HM:=HW
 have hv:∃x n er,ae (b.drop p)=(x,n,er):=⟨_,_,_,rfl⟩
 obtain ⟨x,n,er,hv⟩:=hv
 have hl2:∀z∈b.drop p,z<256:=fun z hz=>hl z (List.mem_of_mem_drop hz)
 have hdl:(b.drop p).length=b.length-p:=List.length_drop
 refine Jb Z HM ((JP∘Jp 1∘Jj) fun a Z HM=>?_)
 refine wp_seq ?_
 refine Jb Z HM ((Vs .n []) fun wd1=>(Vp [0,4]∘Vn 1∘Vf 2 0∘Vc 3 O0∘Vn 5∘Vf 6 1∘Vc 7 O0∘Vy 8 (v:= .slice (if c=p then A else A.map (·.add (p*1))) (b.length-p) (c-p)) (h:=by exact Yl.sliceFrom aM (j:=p) rfl rfl rfl om)∘Vo (.slice (if c=p then A else A.map (·.add (p*1))) ((b.drop p).length) (c-p)) (by rw [List.length_drop])∘VI 9 .n (h:=by exact fun HM=>q0t hv (IY (HM.old hin) ha hbc) hl2 om)) fun w16 hbw=>(Vp [10]∘Vx 11∘Vx 12∘Vx 13∘Vp [14,15,16]∘Vd∘JQ∘JP∘Jp 2∘bK∘Jj) (Ju (fun iA=>?_) fun iA=>?_))
 ·
  intro a Z HM
  have kN:=bne_iff_ne.1 iA
  refine Jb Z HM ((JT∘JR) fun a Z HM=>?_)
  refine fo Z 0 rfl rfl ?_
  exact mK Z [vI 344] rfl (Nq 344 _ (HM.pt 2 [])) fun w2 HM=>Fh Z (q07 (qw7 hv kN) ⟨rfl,HM⟩)
 intro a Z HM
 have kN:=bne_eq_false_iff_eq.1 iA
 have her:er=0:=by omega
 revert HM;revert a;repeat (first|clear Z|clear HM)
 intro a Z HM
 subst her
 have hin2:=Zb ha hv
 refine Jb Z HM ((JF∘aI∘JP∘Jp 1∘Jn∘Jg 1 O0∘Jp 1∘Ja∘Jn∘Jf 1∘JW bg fJ) fun akF=>(jc∘Jr∘Jp 2∘Jn∘Jg 2 O0∘Jp 1∘JU zz #[vQ x]) fun yK g37=>(JD [aK x] 2 (fun _ _=>fA) zz (hr:=by exact fun HM=>HM.aZ (i:=0) (n:=1) (size:=1) rfl rfl) (h1:=by simp [Value.oneCell',aK,B8])) fun w38 A38 c38 hc38=>(Jn∘Jf 2∘JW fJ fA) fun aau=>(jc∘Jq) fun a Z HM=>?_)
 have wC:q.length+1=(q++[x]).length:=zx rfl
 replace HM:=HM.bu (i:=2) (ys:=(q++[x]).map aK) rfl wC (by simp)
 rw [wC] at hc38
 replace HM:=HM.cz (i:=1) (ds:= #[.slice A b.length c,vI (p+n:Nat),.slice A38 ((q++[x]).length) c38,sv]) rfl (by rw [wC];try rfl)
 exact Jb Z HM ((JG∘JP∘Jp 2∘qR∘Jj∘JZ∘bq) fun HM=>q08 (.of hv) rfl hc38 (HM.pt 3 [1,2]))
theorem NL (W w:World) (g p:Nat) (A NA:Option Addr) (c nc:Nat) (b q:List Nat) (sv:Value) (fs:List ag) (HW:Mem W w (.blk g #[.slice A b.length c,vI p,.slice NA q.length nc,sv] 285:: .row (.slice NA q.length nc) q.length (q.map aK) 30 1::fs)) (hin:Rd W W.heap.size 1 A b.length (b.map B8)) (hbc:b.length≤c) (hl:∀z∈b,z<256) (hb:b.length≤16777216) (ha:p≤b.length) (hq:q.length≤p) {x e:Nat} (h:aV b p x e):
  Calls Tryz.prog 241 #[vP g 0] w (fun r w'=>r= .returned (vQ x)∧∃NA nc,(q++[x]).length≤nc∧Mem W w' (.blk g #[.slice A b.length c,vI e,.slice NA (q++[x]).length nc,sv] 285:: .row (.slice NA (q++[x]).length nc) (q++[x]).length ((q++[x]).map aK) 30 1::fs)):=
 (qk6 W w g p A NA c nc b q sv fs HW hin hbc hl hb ha hq).mono fun r w' h1 => by
  rcases h1 with ⟨x2,e2,NA,nc,h2,h3,h4,h5⟩|⟨h2,_⟩
  ·obtain ⟨rfl,rfl⟩:=aV.one h h2
   exact ⟨h3,NA,nc,h4,h5⟩
  ·rw [h.1] at h2;exact absurd rfl h2
theorem NM (W w:World) (g p:Nat) (A NA:Option Addr) (c nc:Nat) (b q:List Nat) (sv:Value) (fs:List ag) (HW:Mem W w (.blk g #[.slice A b.length c,vI p,.slice NA q.length nc,sv] 285:: .row (.slice NA q.length nc) q.length (q.map aK) 30 1::fs)) (hin:Rd W W.heap.size 1 A b.length (b.map B8)) (hbc:b.length≤c) (hl:∀z∈b,z<256) (hb:b.length≤16777216) (ha:p≤b.length) (hq:q.length≤p) (h:(ae (b.drop p)).2.2≠0):
  Calls Tryz.prog 241 #[vP g 0] w (iR W fs (oO dI 344)):=
 (qk6 W w g p A NA c nc b q sv fs HW hin hbc hl hb ha hq).mono fun r w' h1 => by
  rcases h1 with ⟨x2,e2,NA,nc,h2,h3,h4,h5⟩|⟨_,h2⟩
  ·rw [h2.1] at h;exact absurd rfl h
  ·exact h2
def rz (W:World) (g p:Nat) (A:Option Addr) (c:Nat) (b q:List Nat) (sv:Value) (lo hi:Nat) (fs:List ag) (r:Ending) (w':World):Prop:=
 (∃x e NA nc,aV b p x e∧¬(x<lo∨hi<x)∧r= .returned (vI x)∧(q++[x]).length≤nc∧Mem W w' (.blk g #[.slice A b.length c,vI e,.slice NA (q++[x]).length nc,sv] 285:: .row (.slice NA (q++[x]).length nc) (q++[x]).length ((q++[x]).map aK) 30 1::fs))∨((∃x e,aV b p x e∧(x<lo∨hi<x))∧iR W fs (oO dI 345) r w')∨((ae (b.drop p)).2.2≠0∧iR W fs (oO dI 344) r w')
theorem q09 {W w':World} {g p:Nat} {A:Option Addr} {c:Nat} {b q:List Nat} {sv:Value} {fs:List ag} {r:Ending} {lo hi:Nat} (h:(ae (b.drop p)).2.2≠0) (hd:iR W fs (oO dI 344) r w'):rz W g p A c b q sv lo hi fs r w':= .inr (.inr ⟨h,hd⟩)
theorem qoh {W w':World} {g p:Nat} {A:Option Addr} {c:Nat} {b q:List Nat} {sv:Value} {fs:List ag} {r:Ending} {lo hi x e:Nat} (h:aV b p x e) (h2:x<lo∨hi<x) (hd:iR W fs (oO dI 345) r w'):rz W g p A c b q sv lo hi fs r w':= .inr (.inl ⟨⟨x,e,h,h2⟩,hd⟩)
theorem q1a {W w':World} {g p:Nat} {A:Option Addr} {c:Nat} {b q:List Nat} {sv:Value} {fs:List ag} {r:Ending} {lo hi x e nc:Nat} {NA:Option Addr} (h:aV b p x e) (h2:¬(x<lo∨hi<x)) (hr:r= .returned (vI x)) (hc:(q++[x]).length≤nc) (hm:Mem W w' (.blk g #[.slice A b.length c,vI e,.slice NA (q++[x]).length nc,sv] 285:: .row (.slice NA (q++[x]).length nc) (q++[x]).length ((q++[x]).map aK) 30 1::fs)):rz W g p A c b q sv lo hi fs r w':= .inl ⟨x,e,NA,nc,h,h2,hr,hc,hm⟩
theorem Tz (W w:World) (g p:Nat) (A NA:Option Addr) (c nc:Nat) (b q:List Nat) (sv:Value) (fs:List ag) (lo hi:Nat) (hhi:hi<9223372036854775808) (HW:Mem W w (.blk g #[.slice A b.length c,vI p,.slice NA q.length nc,sv] 285:: .row (.slice NA q.length nc) q.length (q.map aK) 30 1::fs)) (hin:Rd W W.heap.size 1 A b.length (b.map B8)) (hbc:b.length≤c) (hl:∀z∈b,z<256) (hb:b.length≤16777216) (ha:p≤b.length) (hq:q.length≤p):
    Calls Tryz.prog 242 #[vP g 0,vQ lo,vQ hi] w (rz W g p A c b q sv lo hi fs):=by
 refine (MB Tryz.func242 21) ?_
 intro a Z HM
 replace HM:=HW
 refine Jb Z HM ((JP∘Jp 1∘Jj∘JQ) fun a Z HM=>?_)
 rcases Fp b p with hv|⟨x,e,hv⟩
 ·
  refine Jb Z HM ((JR∘Jp 1) fun a Z HM=>?_)
  refine fo Z 1 rfl rfl ?_
  exact mK Z [vP g 0] rfl (NM W _ g p A NA c nc b q sv _ (HM.pt 2 [0,1]) hin hbc hl hb ha hq hv) fun w2 HM=>Fh Z (q09 hv ⟨rfl,(HM)⟩)
 ·
  have hx:=hv.lt hl
  refine Jb Z HM ((JR∘Jp 1∘JL (h:=by exact fun HM=>NL W _ g p A NA c nc b q sv _ (HM.pt 2 [0,1]) hin hbc hl hb ha hq hv)) ?_)
  rintro HM _ w9 ⟨rfl,A9,c9,U3,dh⟩
  refine ⟨_,rfl,_,dh,?_⟩
  refine (Jp 1∘bK∘Jj∘JQ∘JP∘Jp 4) (Ju (fun cB=>?_) fun cB=>?_)
  ·
   intro a Z HM
   have iE:=of_decide_eq_true cB
   refine Jb Z HM ((Jp 4∘aN∘Jj∘JT∘JR) fun a Z HM=>?_)
   refine fo Z 0 rfl rfl ?_
   exact mK Z [vI 345] rfl (Nq 345 _ (HM.pt 2 [])) fun w2 HM=>Fh Z (qoh hv (.inl om) ⟨rfl,HM⟩)
  intro a Z HM
  have iE:=of_decide_eq_false cB
  refine Jb Z HM ((Jp 4∘aN∘Jj) (Ji (fun mr=>?_) fun mr=>?_))
  ·
   refine (JT∘JR) fun a Z HM=>?_
   refine fo Z 0 rfl rfl ?_
   exact mK Z [vI 345] rfl (Nq 345 _ (HM.pt 2 [])) fun w2 HM=>Fh Z (qoh hv (.inr om) ⟨rfl,HM⟩)
  exact (JF∘aI∘JP∘Jp 1∘Jw .i64∘Jp 1∘bK∘Jj∘JZ∘bq) fun HM=>q1a hv om rfl U3 (HM.pt 2 [0,1])
theorem NN (W w:World) (g p:Nat) (A NA:Option Addr) (c nc:Nat) (b q:List Nat) (sv:Value) (fs:List ag) (lo hi:Nat) (hhi:hi<9223372036854775808) (HW:Mem W w (.blk g #[.slice A b.length c,vI p,.slice NA q.length nc,sv] 285:: .row (.slice NA q.length nc) q.length (q.map aK) 30 1::fs)) (hin:Rd W W.heap.size 1 A b.length (b.map B8)) (hbc:b.length≤c) (hl:∀z∈b,z<256) (hb:b.length≤16777216) (ha:p≤b.length) (hq:q.length≤p) {x e:Nat} (h:aV b p x e) (hh:¬(x<lo∨hi<x)):
  Calls Tryz.prog 242 #[vP g 0,vQ lo,vQ hi] w (fun r w'=>r= .returned (vI x)∧∃NA nc,(q++[x]).length≤nc∧Mem W w' (.blk g #[.slice A b.length c,vI e,.slice NA (q++[x]).length nc,sv] 285:: .row (.slice NA (q++[x]).length nc) (q++[x]).length ((q++[x]).map aK) 30 1::fs)):=
 (Tz W w g p A NA c nc b q sv fs lo hi hhi HW hin hbc hl hb ha hq).mono fun r w' h1 => by
  rcases h1 with ⟨x2,e2,NA,nc,h2,_,h3,h4,h5⟩|⟨⟨x2,e2,h2,h3⟩,_⟩|⟨h2,_⟩
  ·obtain ⟨rfl,rfl⟩:=aV.one h h2
   exact ⟨h3,NA,nc,h4,h5⟩
  ·obtain ⟨rfl,rfl⟩:=aV.one h h2
   exact absurd h3 hh
  ·rw [h.1] at h2;exact absurd rfl h2
theorem TA (W w:World) (g p:Nat) (A NA:Option Addr) (c nc:Nat) (b q:List Nat) (sv:Value) (fs:List ag) (lo hi:Nat) (hhi:hi<9223372036854775808) (HW:Mem W w (.blk g #[.slice A b.length c,vI p,.slice NA q.length nc,sv] 285:: .row (.slice NA q.length nc) q.length (q.map aK) 30 1::fs)) (hin:Rd W W.heap.size 1 A b.length (b.map B8)) (hbc:b.length≤c) (hl:∀z∈b,z<256) (hb:b.length≤16777216) (ha:p≤b.length) (hq:q.length≤p) {x e:Nat} (h:aV b p x e) (hh:x<lo∨hi<x):
  Calls Tryz.prog 242 #[vP g 0,vQ lo,vQ hi] w (iR W fs (oO dI 345)):=
 (Tz W w g p A NA c nc b q sv fs lo hi hhi HW hin hbc hl hb ha hq).mono fun r w' h1 => by
  rcases h1 with ⟨x2,e2,NA,nc,h2,h3,_⟩|⟨_,h2⟩|⟨h2,_⟩
  ·obtain ⟨rfl,rfl⟩:=aV.one h h2
   exact absurd hh h3
  ·exact h2
  ·rw [h.1] at h2;exact absurd rfl h2
theorem TB (W w:World) (g p:Nat) (A NA:Option Addr) (c nc:Nat) (b q:List Nat) (sv:Value) (fs:List ag) (lo hi:Nat) (hhi:hi<9223372036854775808) (HW:Mem W w (.blk g #[.slice A b.length c,vI p,.slice NA q.length nc,sv] 285:: .row (.slice NA q.length nc) q.length (q.map aK) 30 1::fs)) (hin:Rd W W.heap.size 1 A b.length (b.map B8)) (hbc:b.length≤c) (hl:∀z∈b,z<256) (hb:b.length≤16777216) (ha:p≤b.length) (hq:q.length≤p) (h:(ae (b.drop p)).2.2≠0):
  Calls Tryz.prog 242 #[vP g 0,vQ lo,vQ hi] w (iR W fs (oO dI 344)):=
 (Tz W w g p A NA c nc b q sv fs lo hi hhi HW hin hbc hl hb ha hq).mono fun r w' h1 => by
  rcases h1 with ⟨x2,e2,NA,nc,h2,_⟩|⟨⟨x2,e2,h2,_⟩,_⟩|⟨_,h2⟩
  ·rw [h2.1] at h;exact absurd rfl h
  ·rw [h2.1] at h;exact absurd rfl h
  ·exact h2
def TC (W:World) (g p:Nat) (A:Option Addr) (c:Nat) (b q:List Nat) (sv:Value) (n:Nat) (fs:List ag) (r:Ending) (w':World):Prop:=
 (∃xs e NA nc,zy b n p xs e∧r= .returned (.tuple #[])∧(q++xs).length≤nc∧Mem W w' (.blk g #[.slice A b.length c,vI e,.slice NA (q++xs).length nc,sv] 285:: .row (.slice NA (q++xs).length nc) (q++xs).length ((q++xs).map aK) 30 1::fs))∨((aj n (b.drop p)).2.2≠0∧iR W fs (oO dI 344) r w')
theorem qx8 {W w':World} {g p:Nat} {A:Option Addr} {c:Nat} {b q:List Nat} {sv:Value} {fs:List ag} {r:Ending} {n:Nat} (h:(aj n (b.drop p)).2.2≠0) (hd:iR W fs (oO dI 344) r w'):TC W g p A c b q sv n fs r w':= .inr ⟨h,hd⟩
theorem qx9 {W w':World} {g p:Nat} {A:Option Addr} {c:Nat} {b q:List Nat} {sv:Value} {fs:List ag} {r:Ending} {n e nc:Nat} {xs:List Nat} {NA:Option Addr} (h:zy b n p xs e) (hr:r= .returned (.tuple #[])) (hc:(q++xs).length≤nc) (hm:Mem W w' (.blk g #[.slice A b.length c,vI e,.slice NA (q++xs).length nc,sv] 285:: .row (.slice NA (q++xs).length nc) (q++xs).length ((q++xs).map aK) 30 1::fs)):TC W g p A c b q sv n fs r w':= .inl ⟨xs,e,NA,nc,h,hr,hc,hm⟩
theorem qr8 (W w:World) (g p:Nat) (A NA:Option Addr) (c nc:Nat) (b q:List Nat) (sv:Value) (fs:List ag) (n:Nat) (hnn:n≤1000000) (hnc:q.length≤nc) (HW:Mem W w (.blk g #[.slice A b.length c,vI p,.slice NA q.length nc,sv] 285:: .row (.slice NA q.length nc) q.length (q.map aK) 30 1::fs)) (hin:Rd W W.heap.size 1 A b.length (b.map B8)) (hbc:b.length≤c) (hl:∀z∈b,z<256) (hb:b.length≤16777216) (ha:p≤b.length) (hq:q.length≤p):
    Calls Tryz.prog 243 #[vP g 0,vI n] w (TC W g p A c b q sv n fs):=by
 refine (lF Tryz.func243 10) ?_
 intro a Z HM
 replace HM:=HW
 refine Jb Z HM ((JP∘Jp 2∘Jq) fun a Z HM=>?_)
 rw [←List.append_nil q] at HM
 refine Jb Z HM ((JG∘JB) fun a Z HM=>?_)
 refine qj (fun mS aS wS=>∃(k:Nat) (xs:List Nat) (e:Nat) (NA:Option Addr) (nc:Nat),(zy b k p xs e)∧(k≤n)∧((q++xs).length≤nc)∧mS=n-k∧Fr aS 10 [] [(0,vP g 0),(4,vI n),(5,vI k)]∧Mem W wS (.blk g #[.slice A b.length c,vI e,.slice NA ((q++xs).length) nc,sv] 285:: .row (.slice NA ((q++xs).length) nc) ((q++xs).length) ((q++xs).map aK) 30 1::fs)) (m:=n-0) ⟨0,[],p,NA,nc,zy.nil b p,Nat.zero_le _,(by rw [List.append_nil];exact hnc),rfl,Z.sub kr,HM.pt 2 [0,1]⟩ ?_
 clear Z HM;rintro mS a w_ ⟨k,xs,e,NA,nc,hxs,hle,hnc,rfl,Z,HM⟩
 have hin2:=hxs.in ha
 refine Jb Z HM ((JP∘Jp 1∘Jj∘JQ) (Ji (fun hd6=>?_) fun hd6=>?_))
 ·
  refine (JT∘aI∘JQ∘JB) fun a Z HM=>?_
  have hkn:k<n:=by omega
  rcases Fp b e with hv|⟨x,e2,hv⟩
  ·
   refine Jb Z HM ((JR∘Jp 1) fun a Z HM=>?_)
   refine fo Z 1 rfl rfl ?_
   exact mK Z [vP g 0] rfl (NM W _ g e A NA c nc b (q++xs) sv _ (HM.pt 2 [0,1]) hin hbc hl hb om (by rw [List.length_append];omega) hv) fun w2 HM=>Fh Z (qx8 (hxs.stuck hkn hv) ⟨rfl,HM⟩)
  ·
   refine Jb Z HM ((JR∘Jp 1∘JL (h:=by exact fun HM=>NL W _ g e A NA c nc b (q++xs) sv _ (HM.pt 2 [0,1]) hin hbc hl hb om (by rw [List.length_append];omega) hv)) ?_)
   rintro HM _ w8 ⟨rfl,A8,c8,hc8,dh⟩
   refine ⟨_,rfl,_,dh,?_⟩
   refine (sZ∘Jq) fun a Z HM=>?_
   rw [List.append_assoc] at HM
   refine Jb Z HM ((JG∘JR∘dR 1∘Jp 1∘aT∘Jq) fun a Z HM=>?_)
   exact ⟨_,om,k+1,(xs++[x]),e2,A8,c8,hxs.snoc hv,hkn,(by rwa [List.append_assoc] at hc8),rfl,Z.sub kr,HM.pt 2 [0,1]⟩
 refine (JF∘JX) ?_
 repeat (first|clear Z|clear HM)
 intro a Z HM
 obtain rfl:k=n:=by omega
 exact iM rfl Z (qx9 hxs rfl hnc HM)
theorem Kh (W w:World) (g p:Nat) (A NA:Option Addr) (c nc:Nat) (b q:List Nat) (sv:Value) (fs:List ag) (n:Nat) (hnn:n≤1000000) (hnc:q.length≤nc) (HW:Mem W w (.blk g #[.slice A b.length c,vI p,.slice NA q.length nc,sv] 285:: .row (.slice NA q.length nc) q.length (q.map aK) 30 1::fs)) (hin:Rd W W.heap.size 1 A b.length (b.map B8)) (hbc:b.length≤c) (hl:∀z∈b,z<256) (hb:b.length≤16777216) (ha:p≤b.length) (hq:q.length≤p) {xs:List Nat} {e:Nat} (h:zy b n p xs e):
  Calls Tryz.prog 243 #[vP g 0,vI n] w (fun r w'=>r= .returned (.tuple #[])∧∃NA nc,(q++xs).length≤nc∧Mem W w' (.blk g #[.slice A b.length c,vI e,.slice NA (q++xs).length nc,sv] 285:: .row (.slice NA (q++xs).length nc) (q++xs).length ((q++xs).map aK) 30 1::fs)):=
 (qr8 W w g p A NA c nc b q sv fs n hnn hnc HW hin hbc hl hb ha hq).mono fun r w' h1 => by
  rcases h1 with ⟨x2,e2,NA,nc,h2,h3,h4,h5⟩|⟨h2,_⟩
  ·obtain ⟨rfl,rfl⟩:=zy.one h h2
   exact ⟨h3,NA,nc,h4,h5⟩
  ·rw [h.1] at h2;exact absurd rfl h2
theorem Ki (W w:World) (g p:Nat) (A NA:Option Addr) (c nc:Nat) (b q:List Nat) (sv:Value) (fs:List ag) (n:Nat) (hnn:n≤1000000) (hnc:q.length≤nc) (HW:Mem W w (.blk g #[.slice A b.length c,vI p,.slice NA q.length nc,sv] 285:: .row (.slice NA q.length nc) q.length (q.map aK) 30 1::fs)) (hin:Rd W W.heap.size 1 A b.length (b.map B8)) (hbc:b.length≤c) (hl:∀z∈b,z<256) (hb:b.length≤16777216) (ha:p≤b.length) (hq:q.length≤p) (h:(aj n (b.drop p)).2.2≠0):
  Calls Tryz.prog 243 #[vP g 0,vI n] w (iR W fs (oO dI 344)):=
 (qr8 W w g p A NA c nc b q sv fs n hnn hnc HW hin hbc hl hb ha hq).mono fun r w' h1 => by
  rcases h1 with ⟨x2,e2,NA,nc,h2,h3,h4,h5⟩|⟨_,h2⟩
  ·rw [h2.1] at h;exact absurd rfl h
  ·exact h2
theorem q7t (W w:World) (g p:Nat) (iv nv:Value) (SA:Option Addr) (sc:Nat) (l:List fT) (nm:ByteArray) (fs:List ag) (HW:Mem W w (.blk g #[iv,vI p,nv,.slice SA l.length sc] 285:: .row (.slice SA l.length sc) l.length (l.flatMap dW) 387 3::fs)) (hll:l.length≤1000):
    Calls Tryz.prog 240 #[vP g 0,.string nm] w (fun r w'=>r= .returned (.tuple #[])∧∃SA sc,(l++[(⟨nm,ji l,p⟩:fT)]).length≤sc∧Mem W w' (.blk g #[iv,vI p,nv,.slice SA (l++[(⟨nm,ji l,p⟩:fT)]).length sc] 285:: .row (.slice SA (l++[(⟨nm,ji l,p⟩:fT)]).length sc) (l++[(⟨nm,ji l,p⟩:fT)]).length ((l++[(⟨nm,ji l,p⟩:fT)]).flatMap dW) 387 3::fs)):=by
 refine (lF Tryz.func240 38) ?_
 intro a Z HM
 replace HM:=HW
 refine Jb Z HM ((JP∘Jp 1∘Jj∘JQ∘JP∘Jp 1∘Jn∘Jg 3 O0∘Jl∘Jp 1∘gW∘Jr∘Jp 2∘aT∘Jj) (Ju (fun ek=>?_) fun ek=>?_))
 ·
  intro a Z HM
  have j4:=of_decide_eq_true ek
  refine Jb Z HM ((JT∘JR∘Jp 1∘Jn∘Jg 3 O0∘Jp 1∘CF 1) ?_)
  repeat (first|clear Z|clear HM)
  intro a Z HM
  obtain ⟨gSA,rfl⟩:=qc2 (HM.own (i:=1) rfl) (Nat.lt_of_le_of_lt (Nat.zero_le _) (show l.length-1<l.length from by omega))
  refine Jb Z HM ((Jy (h:=by exact Yl.xq gSA (l.length-1) 3 rfl rfl rfl)∘Jf 2∘Jy (v:=vI ((l.getD (l.length-1) fT.zero).to)) (h:=by exact Yl.ze rfl rfl kr (fun _ h=>h.Ap q0d (i:=1) rfl (k:=(l.length-1)) (off:=2) (x:=(l.getD (l.length-1) fT.zero)) ((getD_at fT.zero om)) rfl))∘Jo (vI (ji l)) (by exact rfl)∘Jp 1∘aN∘Jj∘Vs (.t (.f .n)) [16]) fun wd4=>(Vp [0,1,5,6,7]∘Vn 2∘Vf 3 3∘Vc 4 O0∘Vn 8∘Vf 9 1∘Vc 10 O0∘Vy 11 (v:= .agg #[.string nm,vI (ji l),vI p]) (h:=by exact Yl.build (vs:=[(0,.string nm),(1,vI (ji l)),(2,vI p)]) rfl kr kr)) fun a Z HM HS=>?_)
  refine s_on Z 12 rfl (mh Z HM NK [(0,.agg #[.string nm,vI (ji l),vI p])] #[.string nm,vI (ji l),vI p] ?_)
  clear Z HM;intro a Ie g34 Z HM
  refine aD (HM.pt 3 [1]) (fun HS=>?_)
  refine s_on Z 13 rfl (yw Z HM (i:=2) rfl NK rfl rfl rfl (news:=([(⟨nm,ji l,p⟩:fT)].flatMap dW)) (HM.aZ (i:=0) (n:=1) (size:=3) rfl rfl) (YU _) om om rfl de ?_)
  clear Z HM;intro a NI DY DZ Z HM wD
  refine aD (HM.pt 3 [1]) (fun HS=>?_)
  refine Vb Z HM HS ((Vn 14∘Vf 15 3) fun a Z HM HS=>?_)
  refine s_on Z 16 rfl (iN Z HM 1 fun Kj HM=>?_)
  refine jZ kr ?_
  refine qh kr ?_
  have iX:l.length+1=(l++[(⟨nm,ji l,p⟩:fT)]).length:=zx rfl
  replace HM:=HM.bu (i:=2) (ys:=(l++[(⟨nm,ji l,p⟩:fT)]).flatMap dW) rfl iX (List.flatMap_append.symm)
  rw [iX] at wD
  replace Z:=Z.sp 35 (.slice DY ((l++[(⟨nm,ji l,p⟩:fT)]).length) DZ) rfl (by rw [iX])
  replace HM:=HM.cz (i:=1) (ds:= #[iv,vI p,nv,.slice DY ((l++[(⟨nm,ji l,p⟩:fT)]).length) DZ]) rfl (by rw [iX];try rfl)
  exact iM rfl Z ⟨rfl,DY,DZ,wD,HM.pt 3 [1,2]⟩
 intro a Z HM
 have j4:=of_decide_eq_false ek
 replace Z:=Z.sp 4 (vI (ji l)) rfl (by rw [q0r (l:=l) om];rfl)
 refine Jb Z HM ((JF∘aI∘Vs (.t (.f .n)) [16]) fun wd4=>(Vp [0,1,5,6,7]∘Vn 2∘Vf 3 3∘Vc 4 O0∘Vn 8∘Vf 9 1∘Vc 10 O0∘Vy 11 (v:= .agg #[.string nm,vI (ji l),vI p]) (h:=by exact Yl.build (vs:=[(0,.string nm),(1,vI (ji l)),(2,vI p)]) rfl kr kr)) fun a Z HM HS=>?_)
 refine s_on Z 12 rfl (mh Z HM NK [(0,.agg #[.string nm,vI (ji l),vI p])] #[.string nm,vI (ji l),vI p] ?_)
 clear Z HM;intro a Ie g34 Z HM
 refine aD (HM.pt 3 [1]) (fun HS=>?_)
 refine s_on Z 13 rfl (yw Z HM (i:=2) rfl NK rfl rfl rfl (news:=([(⟨nm,ji l,p⟩:fT)].flatMap dW)) (HM.aZ (i:=0) (n:=1) (size:=3) rfl rfl) (YU _) om om rfl de ?_)
 clear Z HM;intro a NI DY DZ Z HM wD
 refine aD (HM.pt 3 [1]) (fun HS=>?_)
 refine Vb Z HM HS ((Vn 14∘Vf 15 3) fun a Z HM HS=>?_)
 refine s_on Z 16 rfl (iN Z HM 1 fun Kj HM=>?_)
 refine jZ kr ?_
 refine qh kr ?_
 have iX:l.length+1=(l++[(⟨nm,ji l,p⟩:fT)]).length:=zx rfl
 replace HM:=HM.bu (i:=2) (ys:=(l++[(⟨nm,ji l,p⟩:fT)]).flatMap dW) rfl iX (List.flatMap_append.symm)
 rw [iX] at wD
 replace Z:=Z.sp 35 (.slice DY ((l++[(⟨nm,ji l,p⟩:fT)]).length) DZ) rfl (by rw [iX])
 replace HM:=HM.cz (i:=1) (ds:= #[iv,vI p,nv,.slice DY ((l++[(⟨nm,ji l,p⟩:fT)]).length) DZ]) rfl (by rw [iX];try rfl)
 exact iM rfl Z ⟨rfl,DY,DZ,wD,HM.pt 3 [1,2]⟩
theorem zK (W w:World) (g p:Nat) (iv nv:Value) (SA:Option Addr) (sc:Nat) (l:List fT) (nm:ByteArray) (fs:List ag) (HW:Mem W w (.blk g #[iv,vI p,nv,.slice SA l.length sc] 285:: .row (.slice SA l.length sc) l.length (l.flatMap dW) 387 3::fs)) (hll:l.length≤1000) {l2:List fT} (h:l++[(⟨nm,ji l,p⟩:fT)]=l2):
  Calls Tryz.prog 240 #[vP g 0,.string nm] w (fun r w'=>r= .returned (.tuple #[])∧∃SA sc,l2.length≤sc∧Mem W w' (.blk g #[iv,vI p,nv,.slice SA l2.length sc] 285:: .row (.slice SA l2.length sc) l2.length (l2.flatMap dW) 387 3::fs)):=by
 subst h
 exact q7t W w g p iv nv SA sc l nm fs HW hll
def NP (W:World) (g:Nat) (A:Option Addr) (c:Nat) (b:List Nat) (fs:List ag) (r:Ending) (w':World):Prop:=
 (∃p NA nc SA sc,tJ b= .ok p∧r= .returned (vI 0)∧p.nums.length≤nc∧p.secs.length≤sc∧Mem W w' (.blk g #[.slice A b.length c,vI ((b.length+4:Nat):Int),.slice NA p.nums.length nc,.slice SA p.secs.length sc] 285:: .row (.slice NA p.nums.length nc) p.nums.length (p.nums.map aK) 30 1:: .row (.slice SA p.secs.length sc) p.secs.length (p.secs.flatMap dW) 387 3::fs))∨(∃k:Nat,tJ b= .error k∧r= .returned (vI k)∧Mem W w' fs)
section
variable {W w:World} {g g2 c k i n:Nat} {A:Option Addr} {b:List Nat} {fs ks:List ag} {σ:List (Nat×Value)} {a:Act}
theorem zt (Z:Fr a n [{target:= .fn (.func 239) [Value.pointer (some ⟨g2,0,none⟩)].toArray,args:= #[]}] σ) (h2:σ.lookup 2=some (vP g2 0)) (HM:Mem W w ks) (hi:ks[i]?=some (.blk g2 #[vI 0] dI)) (hp:tJ b= .error k) (j:List Nat) (hj:j.Nodup) (he:picks (ks.set i (.blk g2 #[vI k] dI)) j=fs):
  Leaves Tryz.prog Tryz.f213 a.tmps (NP W g A c b fs) a.defers (.panicking (oO dI k)) w:=by
 refine qtm (v:=vI k) Z kr (qxb k 0 w HM hi rfl) rfl fun w' hm=>⟨?_,.inr ⟨k,hp,rfl,hm.picks j hj he⟩⟩
 have hl:=(List.getElem?_eq_some_iff.1 hi).1
 exact jN.cell1 (i:=i) Z hm h2 (List.getElem?_set_self hl) kr rfl
theorem q1b (Z:Fr a n [{target:= .fn (.func 239) [Value.pointer (some ⟨g2,0,none⟩)].toArray,args:= #[]}] σ) (h2:σ.lookup 2=some (vP g2 0)) (HM:Mem W w ks) (hi:ks[i]?=some (.blk g2 #[vI 0] dI)) (hk:∀w',Mem W w' (ks.set i (.blk g2 #[vI 0] dI))→NP W g A c b fs (.returned (vI 0)) w'):
  Leaves Tryz.prog Tryz.f213 a.tmps (NP W g A c b fs) a.defers .returning w:=by
 refine qw3 (v:=vI 0) Z kr (qto 0 w HM hi rfl) rfl fun w' hm=>⟨?_,hk w' hm⟩
 have hl:=(List.getElem?_eq_some_iff.1 hi).1
 exact jN.cell1 (i:=i) Z hm h2 (List.getElem?_set_self hl) kr rfl
end
theorem qsa (nx cp cr gp:Nat) (gs cl cu:List Nat) (tk:Nat) (ts sp:List Nat) (e1 e2 e3 e4 e5 e6 e7:Nat):(⟨nx,cp,cr,gp,gs,cl,cu,tk,ts,sp,e1,e2,e3,e4,e5,e6,e7⟩:Pr).nums=((((((((((([]:List Nat)++[nx])++[cp])++[cr])++[gp])++gs)++cl)++cu)++[tk])++ts)++sp):=by simp [Pr.nums]
theorem qsb (W w : World) (g : Nat) (A : Option Addr) (c : Nat) (b : List Nat) (HW : Mem W w [.blk g #[.slice A b.length c, vI 0, vN, vN] 285]) (hin : Rd W W.heap.size 1 A b.length (b.map B8)) (hbc : b.length ≤ c) (hl : ∀ z ∈ b, z < 256) (hb : b.length ≤ 16777216) (hb3 : 3 ≤ b.length) :
    Calls Tryz.prog 213 #[vP g 0] w (NP W g A c b []):=by
 refine qn3 (vs:=[vP g 0]) Tryz.func213 rfl rfl kr (σ0:=[(0,vP g 0)]) rfl ?_
 intro a Z
 have HM:=Mem.start w
 replace HM:=(HW.nil 387 3).nil 30 1
 have hc0:([]:List Nat).length≤0:=Nat.le_refl _
 have hp:tJ b=tJ b:=rfl
 have hq0:([]:List Nat).length≤3:=Nat.zero_le _
 refine Jb Z HM ((JP∘JA #[vI 0]) fun w2 g2=>(Jr∘Jy (h:=by exact Yl.makeFunc (fst:=[]) (aJ:=[vP g2 0]) rfl rfl rfl)) fun a Z HM=>?_)
 refine fo Z 1 rfl rfl ?_
 refine q4s Z (f:=239) (aJ:=[vP g2 0]) rfl rfl rfl ?_
 clear Z;intro a Z
 refine Jb Z HM ((xA∘Jr∘Jp 1∘Jn∘Jf 1∘JW sV fJ) fun qB=>(AA∘Jr∘Jp 1∘JL (h:=by exact fun HM=>zK (l2:=[qd]) W _ g 3 _ _ none 0 ([]:List fT) _ _ (HM.pk [3,2,0,1]) (Nat.le_of_ble_eq_true rfl) rfl)) ?_)
 rintro HM _ uH ⟨rfl,Kk,k10,hk10,dh⟩
 refine ⟨_,rfl,_,dh,?_⟩
 refine (sZ∘Jq) fun a Z HM=>?_
 replace HM:Mem W _ [.blk g #[.slice A b.length c,vI 3,.slice none (([]:List Nat).length) 0,.slice Kk ([qd].length) k10] 285,.row (.slice Kk ([qd].length) k10) ([qd].length) ([qd].flatMap dW) 387 3,.blk g2 #[vI 0] 61,.row (.slice none (([]:List Nat).length) 0) (([]:List Nat).length) (([]:List Nat).map aK) 30 1]:=HM
 refine Jb Z HM ((JG∘JQ) fun a Z HM=>?_)
 rcases Fp b 3 with lN|⟨nx,e1,lN⟩
 ·
  refine Jb Z HM ((JR∘Jp 1) fun a Z HM=>?_)
  refine fo Z 1 rfl rfl ?_
  exact mK Z [vP g 0] rfl (NM W _ g 3 A none c 0 b ([]:List Nat) (.slice Kk ([qd].length) k10) _ (HM.pk [0,3,1,2]) hin hbc hl hb hb3 hq0 lN) fun w2 HM=>zt Z rfl HM (i:=1) rfl (hp.trans (Nl lN)) [] de rfl
 ·
  have hp:=hp.trans lN.go1
  have og:=lN.in hb3
  have rA:=nR (x:=nx) hq0 og.1
  refine Jb Z HM ((JR∘Jp 1∘JL (h:=by exact fun HM=>NL W _ g 3 A none c 0 b ([]:List Nat) (.slice Kk ([qd].length) k10) _ (HM.pk [0,3,1,2]) hin hbc hl hb hb3 hq0 lN)) ?_)
  rintro HM _ EW ⟨rfl,Kl,c12,Pf,dh⟩
  refine ⟨_,rfl,_,dh,?_⟩
  refine (sZ∘Jr∘Jp 1∘JL (h:=by exact fun HM=>zK (l2:=[qd,⟨qa 0,3,e1⟩]) W _ g e1 _ _ Kk k10 ([qd]) _ _ (HM.pk [0,2,1,3]) (Nat.le_of_ble_eq_true rfl) rfl)) ?_
  rintro HM _ yI ⟨rfl,wE,k14,akO,dh⟩
  refine ⟨_,rfl,_,dh,?_⟩
  refine (sZ∘Jq) fun a Z HM=>?_
  replace HM:Mem W _ [.blk g #[.slice A b.length c,vI e1,.slice Kl ((([]:List Nat)++[nx]).length) c12,.slice wE ([qd,⟨qa 0,3,e1⟩].length) k14] 285,.row (.slice wE ([qd,⟨qa 0,3,e1⟩].length) k14) ([qd,⟨qa 0,3,e1⟩].length) ([qd,⟨qa 0,3,e1⟩].flatMap dW) 387 3,.row (.slice Kl ((([]:List Nat)++[nx]).length) c12) ((([]:List Nat)++[nx]).length) ((([]:List Nat)++[nx]).map aK) 30 1,.blk g2 #[vI 0] 61]:=HM
  refine Jb Z HM ((JG∘JQ) fun a Z HM=>?_)
  rcases Np b e1 1 64 with iY|⟨cp,a1,iY,oh⟩|⟨cp,a1,iY,oh⟩
  ·
   refine Jb Z HM ((JR∘Jp 1) fun a Z HM=>?_)
   refine fo Z 1 rfl rfl ?_
   exact mK Z [vP g 0,vQ 1,vQ 64] rfl (TB W _ g e1 A Kl c c12 b (([]:List Nat)++[nx]) (.slice wE ([qd,⟨qa 0,3,e1⟩].length) k14) _ 1 64 de (HM.pk [0,2,1,3]) hin hbc hl hb og.2 rA iY) fun w2 HM=>zt Z rfl HM (i:=1) rfl (hp.trans (Nn iY)) [] de rfl
  ·
   refine Jb Z HM ((JR∘Jp 1) fun a Z HM=>?_)
   refine fo Z 1 rfl rfl ?_
   exact mK Z [vP g 0,vQ 1,vQ 64] rfl (TA W _ g e1 A Kl c c12 b (([]:List Nat)++[nx]) (.slice wE ([qd,⟨qa 0,3,e1⟩].length) k14) _ 1 64 de (HM.pk [0,2,1,3]) hin hbc hl hb og.2 rA iY oh) fun w2 HM=>zt Z rfl HM (i:=1) rfl (hp.trans (iY.bad oh)) [] de rfl
  ·
   have hp:=hp.trans (iY.goC oh)
   have rC:=iY.in og.2
   have wF:=nR (x:=cp) rA rC.1
   refine Jb Z HM ((JR∘Jp 1∘JL (h:=by exact fun HM=>NN W _ g e1 A Kl c c12 b (([]:List Nat)++[nx]) (.slice wE ([qd,⟨qa 0,3,e1⟩].length) k14) _ 1 64 de (HM.pk [0,2,1,3]) hin hbc hl hb og.2 rA iY oh)) ?_)
   rintro HM _ w16 ⟨rfl,gG,c16,hc16,dh⟩
   refine ⟨_,rfl,_,dh,?_⟩
   refine (Jp 1∘bK∘Jj∘JQ) fun a Z HM=>?_
   rcases Fp b a1 with lQ|⟨cr,a2,lQ⟩
   ·
    refine Jb Z HM ((JR∘Jp 1) fun a Z HM=>?_)
    refine fo Z 1 rfl rfl ?_
    exact mK Z [vP g 0] rfl (NM W _ g a1 A gG c c16 b ((([]:List Nat)++[nx])++[cp]) (.slice wE ([qd,⟨qa 0,3,e1⟩].length) k14) _ (HM.pk [0,1,2,3]) hin hbc hl hb rC.2 wF lQ) fun w2 HM=>zt Z rfl HM (i:=1) rfl (hp.trans (Nl lQ)) [] de rfl
   ·
    have hp:=hp.trans lQ.go1
    have ol:=lQ.in rC.2
    have rD:=nR (x:=cr) wF ol.1
    refine Jb Z HM ((JR∘Jp 1∘JL (h:=by exact fun HM=>NL W _ g a1 A gG c c16 b ((([]:List Nat)++[nx])++[cp]) (.slice wE ([qd,⟨qa 0,3,e1⟩].length) k14) _ (HM.pk [0,1,2,3]) hin hbc hl hb rC.2 wF lQ)) ?_)
    rintro HM _ w18 ⟨rfl,NQ,c18,hc18,dh⟩
    refine ⟨_,rfl,_,dh,?_⟩
    refine (sZ∘Jj∘JQ) fun a Z HM=>?_
    rcases Np b a2 1 256 with iZ|⟨gp,e2,iZ,oq⟩|⟨gp,e2,iZ,oq⟩
    ·
     refine Jb Z HM ((JR∘Jp 1) fun a Z HM=>?_)
     refine fo Z 1 rfl rfl ?_
     exact mK Z [vP g 0,vQ 1,vQ 256] rfl (TB W _ g a2 A NQ c c18 b (((([]:List Nat)++[nx])++[cp])++[cr]) (.slice wE ([qd,⟨qa 0,3,e1⟩].length) k14) _ 1 256 de (HM.pk [0,1,2,3]) hin hbc hl hb ol.2 rD iZ) fun w2 HM=>zt Z rfl HM (i:=1) rfl (hp.trans (Nn iZ)) [] de rfl
    ·
     refine Jb Z HM ((JR∘Jp 1) fun a Z HM=>?_)
     refine fo Z 1 rfl rfl ?_
     exact mK Z [vP g 0,vQ 1,vQ 256] rfl (TA W _ g a2 A NQ c c18 b (((([]:List Nat)++[nx])++[cp])++[cr]) (.slice wE ([qd,⟨qa 0,3,e1⟩].length) k14) _ 1 256 de (HM.pk [0,1,2,3]) hin hbc hl hb ol.2 rD iZ oq) fun w2 HM=>zt Z rfl HM (i:=1) rfl (hp.trans (iZ.bad oq)) [] de rfl
    ·
     have hp:=hp.trans (iZ.goC oq)
     have rE:=iZ.in ol.2
     have wG:=nR (x:=gp) rD rE.1
     refine Jb Z HM ((JR∘Jp 1∘JL (h:=by exact fun HM=>NN W _ g a2 A NQ c c18 b (((([]:List Nat)++[nx])++[cp])++[cr]) (.slice wE ([qd,⟨qa 0,3,e1⟩].length) k14) _ 1 256 de (HM.pk [0,1,2,3]) hin hbc hl hb ol.2 rD iZ oq)) ?_)
     rintro HM _ jv ⟨rfl,NR,c20,wu,dh⟩
     refine ⟨_,rfl,_,dh,?_⟩
     refine (Jp 1∘bK∘Jq) fun a Z HM=>?_
     have h3:3*cp*(gp-1)≤192*255:=Nat.mul_le_mul om om
     refine Jb Z HM ((JG∘JP∘Jp 1∘JL (h:=by exact fun HM=>zK (l2:=[qd,⟨qa 0,3,e1⟩,⟨qa 1,e1,e2⟩]) W _ g e2 _ _ wE k14 ([qd,⟨qa 0,3,e1⟩]) _ _ (HM.pk [0,2,1,3]) (Nat.le_of_ble_eq_true rfl) rfl)) ?_)
     rintro HM _ MC ⟨rfl,Km,k22,akP,dh⟩
     refine ⟨_,rfl,_,dh,?_⟩
     refine (sZ∘Jq) fun a Z HM=>?_
     replace HM:Mem W _ [.blk g #[.slice A b.length c,vI e2,.slice NR (((((([]:List Nat)++[nx])++[cp])++[cr])++[gp]).length) c20,.slice Km ([qd,⟨qa 0,3,e1⟩,⟨qa 1,e1,e2⟩].length) k22] 285,.row (.slice Km ([qd,⟨qa 0,3,e1⟩,⟨qa 1,e1,e2⟩].length) k22) ([qd,⟨qa 0,3,e1⟩,⟨qa 1,e1,e2⟩].length) ([qd,⟨qa 0,3,e1⟩,⟨qa 1,e1,e2⟩].flatMap dW) 387 3,.row (.slice NR (((((([]:List Nat)++[nx])++[cp])++[cr])++[gp]).length) c20) (((((([]:List Nat)++[nx])++[cp])++[cr])++[gp]).length) (((((([]:List Nat)++[nx])++[cp])++[cr])++[gp]).map aK) 30 1,.blk g2 #[vI 0] 61]:=HM
     refine Jb Z HM ((JG∘JQ) fun a Z HM=>?_)
     rcases Fq b (2*(gp-1)) e2 with lS|⟨gs,e3,lS⟩
     ·
      refine Jb Z HM ((JR∘Jp 2∘CF 1∘Jp 1∘Jo (vI (2*(gp-1):Nat)) (by exact uz om om)) fun a Z HM=>?_)
      refine fo Z 4 rfl rfl ?_
      exact mK Z [vP g 0,vI (2*(gp-1):Nat)] rfl (Ki W _ g e2 A NR c c20 b ((((([]:List Nat)++[nx])++[cp])++[cr])++[gp]) (.slice Km ([qd,⟨qa 0,3,e1⟩,⟨qa 1,e1,e2⟩].length) k22) _ (2*(gp-1)) om wu (HM.pk [0,2,1,3]) hin hbc hl hb rE.2 wG lS) fun w2 HM=>zt Z rfl HM (i:=1) rfl (hp.trans (Fj lS)) [] de rfl
     ·
      have hp:=hp.trans lS.Fs
      have ou:=lS.in rE.2
      have wH:=nS (xs:=gs) wG ou.1 ou.2.1
      refine Jb Z HM ((JR∘Jp 2∘CF 1∘Jp 1∘Jo (vI (2*(gp-1):Nat)) (by exact uz om om)∘JL (h:=by exact fun HM=>Kh W _ g e2 A NR c c20 b ((((([]:List Nat)++[nx])++[cp])++[cr])++[gp]) (.slice Km ([qd,⟨qa 0,3,e1⟩,⟨qa 1,e1,e2⟩].length) k22) _ (2*(gp-1)) om wu (HM.pk [0,2,1,3]) hin hbc hl hb rE.2 wG lS)) ?_)
      rintro HM _ Fz ⟨rfl,NS,NT,hc27,dh⟩
      refine ⟨_,rfl,_,dh,?_⟩
      refine (CE∘Jr∘Jp 1∘JL (h:=by exact fun HM=>zK (l2:=[qd,⟨qa 0,3,e1⟩,⟨qa 1,e1,e2⟩,⟨qa 2,e2,e3⟩]) W _ g e3 _ _ Km k22 ([qd,⟨qa 0,3,e1⟩,⟨qa 1,e1,e2⟩]) _ _ (HM.pk [0,2,1,3]) (Nat.le_of_ble_eq_true rfl) rfl)) ?_
      rintro HM _ QC ⟨rfl,Kn,Ko,akQ,dh⟩
      refine ⟨_,rfl,_,dh,?_⟩
      refine (sZ∘Jq) fun a Z HM=>?_
      replace HM:Mem W _ [.blk g #[.slice A b.length c,vI e3,.slice NS ((((((([]:List Nat)++[nx])++[cp])++[cr])++[gp])++gs).length) NT,.slice Kn ([qd,⟨qa 0,3,e1⟩,⟨qa 1,e1,e2⟩,⟨qa 2,e2,e3⟩].length) Ko] 285,.row (.slice Kn ([qd,⟨qa 0,3,e1⟩,⟨qa 1,e1,e2⟩,⟨qa 2,e2,e3⟩].length) Ko) ([qd,⟨qa 0,3,e1⟩,⟨qa 1,e1,e2⟩,⟨qa 2,e2,e3⟩].length) ([qd,⟨qa 0,3,e1⟩,⟨qa 1,e1,e2⟩,⟨qa 2,e2,e3⟩].flatMap dW) 387 3,.row (.slice NS ((((((([]:List Nat)++[nx])++[cp])++[cr])++[gp])++gs).length) NT) ((((((([]:List Nat)++[nx])++[cp])++[cr])++[gp])++gs).length) ((((((([]:List Nat)++[nx])++[cp])++[cr])++[gp])++gs).map aK) 30 1,.blk g2 #[vI 0] 61]:=HM
      refine Jb Z HM ((JG∘JQ) fun a Z HM=>?_)
      rcases Fq b cp e3 with lT|⟨cl,e4,lT⟩
      ·
       refine Jb Z HM ((JR∘Jp 2) fun a Z HM=>?_)
       refine fo Z 2 rfl rfl ?_
       exact mK Z [vP g 0,vI cp] rfl (Ki W _ g e3 A NS c NT b (((((([]:List Nat)++[nx])++[cp])++[cr])++[gp])++gs) (.slice Kn ([qd,⟨qa 0,3,e1⟩,⟨qa 1,e1,e2⟩,⟨qa 2,e2,e3⟩].length) Ko) _ cp om hc27 (HM.pk [0,2,1,3]) hin hbc hl hb ou.2.2 wH lT) fun w2 HM=>zt Z rfl HM (i:=1) rfl (hp.trans (Fj lT)) [] de rfl
      ·
       have hp:=hp.trans lT.Fs
       have ow:=lT.in ou.2.2
       have wI:=nS (xs:=cl) wH ow.1 ow.2.1
       refine Jb Z HM ((JR∘Jp 2∘JL (h:=by exact fun HM=>Kh W _ g e3 A NS c NT b (((((([]:List Nat)++[nx])++[cp])++[cr])++[gp])++gs) (.slice Kn ([qd,⟨qa 0,3,e1⟩,⟨qa 1,e1,e2⟩,⟨qa 2,e2,e3⟩].length) Ko) _ cp om hc27 (HM.pk [0,2,1,3]) hin hbc hl hb ou.2.2 wH lT)) ?_)
       rintro HM _ w32 ⟨rfl,CU,c32,hc32,dh⟩
       refine ⟨_,rfl,_,dh,?_⟩
       refine (AA∘Jr∘Jp 1∘JL (h:=by exact fun HM=>zK (l2:=[qd,⟨qa 0,3,e1⟩,⟨qa 1,e1,e2⟩,⟨qa 2,e2,e3⟩,⟨qa 3,e3,e4⟩]) W _ g e4 _ _ Kn Ko ([qd,⟨qa 0,3,e1⟩,⟨qa 1,e1,e2⟩,⟨qa 2,e2,e3⟩]) _ _ (HM.pk [0,2,1,3]) (Nat.le_of_ble_eq_true rfl) rfl)) ?_
       rintro HM _ Ie ⟨rfl,Kq,Kr,akR,dh⟩
       refine ⟨_,rfl,_,dh,?_⟩
       refine (sZ∘Jq) fun a Z HM=>?_
       replace HM:Mem W _ [.blk g #[.slice A b.length c,vI e4,.slice CU (((((((([]:List Nat)++[nx])++[cp])++[cr])++[gp])++gs)++cl).length) c32,.slice Kq ([qd,⟨qa 0,3,e1⟩,⟨qa 1,e1,e2⟩,⟨qa 2,e2,e3⟩,⟨qa 3,e3,e4⟩].length) Kr] 285,.row (.slice Kq ([qd,⟨qa 0,3,e1⟩,⟨qa 1,e1,e2⟩,⟨qa 2,e2,e3⟩,⟨qa 3,e3,e4⟩].length) Kr) ([qd,⟨qa 0,3,e1⟩,⟨qa 1,e1,e2⟩,⟨qa 2,e2,e3⟩,⟨qa 3,e3,e4⟩].length) ([qd,⟨qa 0,3,e1⟩,⟨qa 1,e1,e2⟩,⟨qa 2,e2,e3⟩,⟨qa 3,e3,e4⟩].flatMap dW) 387 3,.row (.slice CU (((((((([]:List Nat)++[nx])++[cp])++[cr])++[gp])++gs)++cl).length) c32) (((((((([]:List Nat)++[nx])++[cp])++[cr])++[gp])++gs)++cl).length) (((((((([]:List Nat)++[nx])++[cp])++[cr])++[gp])++gs)++cl).map aK) 30 1,.blk g2 #[vI 0] 61]:=HM
       refine Jb Z HM ((JG∘JQ) fun a Z HM=>?_)
       rcases Fq b cp e4 with lU|⟨cu,e5,lU⟩
       ·
        refine Jb Z HM ((JR∘Jp 2) fun a Z HM=>?_)
        refine fo Z 2 rfl rfl ?_
        exact mK Z [vP g 0,vI cp] rfl (Ki W _ g e4 A CU c c32 b ((((((([]:List Nat)++[nx])++[cp])++[cr])++[gp])++gs)++cl) (.slice Kq ([qd,⟨qa 0,3,e1⟩,⟨qa 1,e1,e2⟩,⟨qa 2,e2,e3⟩,⟨qa 3,e3,e4⟩].length) Kr) _ cp om hc32 (HM.pk [0,2,1,3]) hin hbc hl hb ow.2.2 wI lU) fun w2 HM=>zt Z rfl HM (i:=1) rfl (hp.trans (Fj lU)) [] de rfl
       ·
        have hp:=hp.trans lU.Fs
        have kG:=lU.in ow.2.2
        have oz:=nS (xs:=cu) wI kG.1 kG.2.1
        refine Jb Z HM ((JR∘Jp 2∘JL (h:=by exact fun HM=>Kh W _ g e4 A CU c c32 b ((((((([]:List Nat)++[nx])++[cp])++[cr])++[gp])++gs)++cl) (.slice Kq ([qd,⟨qa 0,3,e1⟩,⟨qa 1,e1,e2⟩,⟨qa 2,e2,e3⟩,⟨qa 3,e3,e4⟩].length) Kr) _ cp om hc32 (HM.pk [0,2,1,3]) hin hbc hl hb ow.2.2 wI lU)) ?_)
        rintro HM _ yK ⟨rfl,jO,c37,iP,dh⟩
        refine ⟨_,rfl,_,dh,?_⟩
        refine (AA∘Jr∘Jp 1∘JL (h:=by exact fun HM=>zK (l2:=[qd,⟨qa 0,3,e1⟩,⟨qa 1,e1,e2⟩,⟨qa 2,e2,e3⟩,⟨qa 3,e3,e4⟩,⟨qa 4,e4,e5⟩]) W _ g e5 _ _ Kq Kr ([qd,⟨qa 0,3,e1⟩,⟨qa 1,e1,e2⟩,⟨qa 2,e2,e3⟩,⟨qa 3,e3,e4⟩]) _ _ (HM.pk [0,2,1,3]) (Nat.le_of_ble_eq_true rfl) rfl)) ?_
        rintro HM _ w39 ⟨rfl,zL,zM,akS,dh⟩
        refine ⟨_,rfl,_,dh,?_⟩
        refine (sZ∘Jq) fun a Z HM=>?_
        replace HM:Mem W _ [.blk g #[.slice A b.length c,vI e5,.slice jO ((((((((([]:List Nat)++[nx])++[cp])++[cr])++[gp])++gs)++cl)++cu).length) c37,.slice zL ([qd,⟨qa 0,3,e1⟩,⟨qa 1,e1,e2⟩,⟨qa 2,e2,e3⟩,⟨qa 3,e3,e4⟩,⟨qa 4,e4,e5⟩].length) zM] 285,.row (.slice zL ([qd,⟨qa 0,3,e1⟩,⟨qa 1,e1,e2⟩,⟨qa 2,e2,e3⟩,⟨qa 3,e3,e4⟩,⟨qa 4,e4,e5⟩].length) zM) ([qd,⟨qa 0,3,e1⟩,⟨qa 1,e1,e2⟩,⟨qa 2,e2,e3⟩,⟨qa 3,e3,e4⟩,⟨qa 4,e4,e5⟩].length) ([qd,⟨qa 0,3,e1⟩,⟨qa 1,e1,e2⟩,⟨qa 2,e2,e3⟩,⟨qa 3,e3,e4⟩,⟨qa 4,e4,e5⟩].flatMap dW) 387 3,.row (.slice jO ((((((((([]:List Nat)++[nx])++[cp])++[cr])++[gp])++gs)++cl)++cu).length) c37) ((((((((([]:List Nat)++[nx])++[cp])++[cr])++[gp])++gs)++cl)++cu).length) ((((((((([]:List Nat)++[nx])++[cp])++[cr])++[gp])++gs)++cl)++cu).map aK) 30 1,.blk g2 #[vI 0] 61]:=HM
        refine Jb Z HM ((JG∘JQ) fun a Z HM=>?_)
        rcases Np b e5 0 65535 with gZ|⟨tk,a3,gZ,lV⟩|⟨tk,a3,gZ,lV⟩
        ·
         refine Jb Z HM ((JR∘Jp 2) fun a Z HM=>?_)
         refine fo Z 2 rfl rfl ?_
         exact mK Z [vP g 0,vQ 0,vQ 65535] rfl (TB W _ g e5 A jO c c37 b (((((((([]:List Nat)++[nx])++[cp])++[cr])++[gp])++gs)++cl)++cu) (.slice zL ([qd,⟨qa 0,3,e1⟩,⟨qa 1,e1,e2⟩,⟨qa 2,e2,e3⟩,⟨qa 3,e3,e4⟩,⟨qa 4,e4,e5⟩].length) zM) _ 0 65535 de (HM.pk [0,2,1,3]) hin hbc hl hb kG.2.2 oz gZ) fun w2 HM=>zt Z rfl HM (i:=1) rfl (hp.trans (Nn gZ)) [] de rfl
        ·
         refine Jb Z HM ((JR∘Jp 2) fun a Z HM=>?_)
         refine fo Z 2 rfl rfl ?_
         exact mK Z [vP g 0,vQ 0,vQ 65535] rfl (TA W _ g e5 A jO c c37 b (((((((([]:List Nat)++[nx])++[cp])++[cr])++[gp])++gs)++cl)++cu) (.slice zL ([qd,⟨qa 0,3,e1⟩,⟨qa 1,e1,e2⟩,⟨qa 2,e2,e3⟩,⟨qa 3,e3,e4⟩,⟨qa 4,e4,e5⟩].length) zM) _ 0 65535 de (HM.pk [0,2,1,3]) hin hbc hl hb kG.2.2 oz gZ lV) fun w2 HM=>zt Z rfl HM (i:=1) rfl (hp.trans (gZ.bad lV)) [] de rfl
        ·
         have hp:=hp.trans (gZ.goC lV)
         have rF:=gZ.in kG.2.2
         have wJ:=nR (x:=tk) oz rF.1
         rcases Fq b (8*tk) a3 with lW|⟨ts,e6,lW⟩
         ·
          refine Jb Z HM ((JR∘Jp 2∘JL (h:=by exact fun HM=>NN W _ g e5 A jO c c37 b (((((((([]:List Nat)++[nx])++[cp])++[cr])++[gp])++gs)++cl)++cu) (.slice zL ([qd,⟨qa 0,3,e1⟩,⟨qa 1,e1,e2⟩,⟨qa 2,e2,e3⟩,⟨qa 3,e3,e4⟩,⟨qa 4,e4,e5⟩].length) zM) _ 0 65535 de (HM.pk [0,2,1,3]) hin hbc hl hb kG.2.2 oz gZ lV)) ?_)
          rintro HM _ Na ⟨rfl,TD,TE,D5,dh⟩
          refine ⟨_,rfl,_,dh,?_⟩
          refine (Jp 1∘Jo (vI (8*tk:Nat)) (by exact uz om om)) fun a Z HM=>?_
          refine fo Z 4 rfl rfl ?_
          exact mK Z [vP g 0,vI (8*tk:Nat)] rfl (Ki W _ g a3 A TD c TE b ((((((((([]:List Nat)++[nx])++[cp])++[cr])++[gp])++gs)++cl)++cu)++[tk]) (.slice zL ([qd,⟨qa 0,3,e1⟩,⟨qa 1,e1,e2⟩,⟨qa 2,e2,e3⟩,⟨qa 3,e3,e4⟩,⟨qa 4,e4,e5⟩].length) zM) _ (8*tk) om D5 (HM.pk [0,1,2,3]) hin hbc hl hb rF.2 wJ lW) fun w2 HM=>zt Z rfl HM (i:=1) rfl (hp.trans (Fj lW)) [] de rfl
         ·
          have hp:=hp.trans lW.Fs
          have oD:=lW.in rF.2
          have wK:=nS (xs:=ts) wJ oD.1 oD.2.1
          refine Jb Z HM ((JR∘Jp 2∘JL (h:=by exact fun HM=>NN W _ g e5 A jO c c37 b (((((((([]:List Nat)++[nx])++[cp])++[cr])++[gp])++gs)++cl)++cu) (.slice zL ([qd,⟨qa 0,3,e1⟩,⟨qa 1,e1,e2⟩,⟨qa 2,e2,e3⟩,⟨qa 3,e3,e4⟩,⟨qa 4,e4,e5⟩].length) zM) _ 0 65535 de (HM.pk [0,2,1,3]) hin hbc hl hb kG.2.2 oz gZ lV)) ?_)
          rintro HM _ Na ⟨rfl,TD,TE,D5,dh⟩
          refine ⟨_,rfl,_,dh,?_⟩
          refine (Jp 1∘Jo (vI (8*tk:Nat)) (by exact uz om om)∘JL (h:=by exact fun HM=>Kh W _ g a3 A TD c TE b ((((((((([]:List Nat)++[nx])++[cp])++[cr])++[gp])++gs)++cl)++cu)++[tk]) (.slice zL ([qd,⟨qa 0,3,e1⟩,⟨qa 1,e1,e2⟩,⟨qa 2,e2,e3⟩,⟨qa 3,e3,e4⟩,⟨qa 4,e4,e5⟩].length) zM) _ (8*tk) om D5 (HM.pk [0,1,2,3]) hin hbc hl hb rF.2 wJ lW)) ?_
          rintro HM _ Xn ⟨rfl,xD,xE,yL,dh⟩
          refine ⟨_,rfl,_,dh,?_⟩
          refine (CE∘Jr∘Jp 1∘JL (h:=by exact fun HM=>zK (l2:=[qd,⟨qa 0,3,e1⟩,⟨qa 1,e1,e2⟩,⟨qa 2,e2,e3⟩,⟨qa 3,e3,e4⟩,⟨qa 4,e4,e5⟩,⟨qa 5,e5,e6⟩]) W _ g e6 _ _ zL zM ([qd,⟨qa 0,3,e1⟩,⟨qa 1,e1,e2⟩,⟨qa 2,e2,e3⟩,⟨qa 3,e3,e4⟩,⟨qa 4,e4,e5⟩]) _ _ (HM.pk [0,2,1,3]) (Nat.le_of_ble_eq_true rfl) rfl)) ?_
          rintro HM _ w46 ⟨rfl,Kt,Ku,akT,dh⟩
          refine ⟨_,rfl,_,dh,?_⟩
          refine (sZ∘Jq) fun a Z HM=>?_
          replace HM:Mem W _ [.blk g #[.slice A b.length c,vI e6,.slice xD ((((((((((([]:List Nat)++[nx])++[cp])++[cr])++[gp])++gs)++cl)++cu)++[tk])++ts).length) xE,.slice Kt ([qd,⟨qa 0,3,e1⟩,⟨qa 1,e1,e2⟩,⟨qa 2,e2,e3⟩,⟨qa 3,e3,e4⟩,⟨qa 4,e4,e5⟩,⟨qa 5,e5,e6⟩].length) Ku] 285,.row (.slice Kt ([qd,⟨qa 0,3,e1⟩,⟨qa 1,e1,e2⟩,⟨qa 2,e2,e3⟩,⟨qa 3,e3,e4⟩,⟨qa 4,e4,e5⟩,⟨qa 5,e5,e6⟩].length) Ku) ([qd,⟨qa 0,3,e1⟩,⟨qa 1,e1,e2⟩,⟨qa 2,e2,e3⟩,⟨qa 3,e3,e4⟩,⟨qa 4,e4,e5⟩,⟨qa 5,e5,e6⟩].length) ([qd,⟨qa 0,3,e1⟩,⟨qa 1,e1,e2⟩,⟨qa 2,e2,e3⟩,⟨qa 3,e3,e4⟩,⟨qa 4,e4,e5⟩,⟨qa 5,e5,e6⟩].flatMap dW) 387 3,.row (.slice xD ((((((((((([]:List Nat)++[nx])++[cp])++[cr])++[gp])++gs)++cl)++cu)++[tk])++ts).length) xE) ((((((((((([]:List Nat)++[nx])++[cp])++[cr])++[gp])++gs)++cl)++cu)++[tk])++ts).length) ((((((((((([]:List Nat)++[nx])++[cp])++[cr])++[gp])++gs)++cl)++cu)++[tk])++ts).map aK) 30 1,.blk g2 #[vI 0] 61]:=HM
          refine Jb Z HM ((JG∘JQ) fun a Z HM=>?_)
          rcases Fq b (cp+3*cp*(gp-1)) e6 with lX|⟨sp,e7,lX⟩
          ·
           refine Jb Z HM ((JR∘Jp 4∘Jo (vI (3*cp:Nat)) (by exact uz om om)∘Jp 1∘CF 1∘Jp 1∘Jo (vI (3*cp*(gp-1):Nat)) (by exact Zd (m:=3*cp) (n:=gp-1) (by have:=h3;omega))∘Ja) fun a Z HM=>?_)
           refine fo Z 8 rfl rfl ?_
           exact mK Z [vP g 0,vI (cp+(3*cp*(gp-1)):Nat)] rfl (Ki W _ g e6 A xD c xE b (((((((((([]:List Nat)++[nx])++[cp])++[cr])++[gp])++gs)++cl)++cu)++[tk])++ts) (.slice Kt ([qd,⟨qa 0,3,e1⟩,⟨qa 1,e1,e2⟩,⟨qa 2,e2,e3⟩,⟨qa 3,e3,e4⟩,⟨qa 4,e4,e5⟩,⟨qa 5,e5,e6⟩].length) Ku) _ (cp+(3*cp*(gp-1))) om yL (HM.pk [0,2,1,3]) hin hbc hl hb oD.2.2 wK lX) fun w2 HM=>zt Z rfl HM (i:=1) rfl (hp.trans (Fj lX)) [] de rfl
          ·
           have hp:=hp.trans lX.Fs
           have Bz:=lX.in oD.2.2
           have aaz:=nS (xs:=sp) wK Bz.1 Bz.2.1
           refine Jb Z HM ((JR∘Jp 4∘Jo (vI (3*cp:Nat)) (by exact uz om om)∘Jp 1∘CF 1∘Jp 1∘Jo (vI (3*cp*(gp-1):Nat)) (by exact Zd (m:=3*cp) (n:=gp-1) (by have:=h3;omega))∘Ja∘JL (h:=by exact fun HM=>Kh W _ g e6 A xD c xE b (((((((((([]:List Nat)++[nx])++[cp])++[cr])++[gp])++gs)++cl)++cu)++[tk])++ts) (.slice Kt ([qd,⟨qa 0,3,e1⟩,⟨qa 1,e1,e2⟩,⟨qa 2,e2,e3⟩,⟨qa 3,e3,e4⟩,⟨qa 4,e4,e5⟩,⟨qa 5,e5,e6⟩].length) Ku) _ (cp+(3*cp*(gp-1))) om yL (HM.pk [0,2,1,3]) hin hbc hl hb oD.2.2 wK lX)) ?_)
           rintro HM _ w55 ⟨rfl,D6,D7,Kv,dh⟩
           refine ⟨_,rfl,_,dh,?_⟩
           refine (jc∘Jr∘Jp 1∘JL (h:=by exact fun HM=>zK (l2:=[qd,⟨qa 0,3,e1⟩,⟨qa 1,e1,e2⟩,⟨qa 2,e2,e3⟩,⟨qa 3,e3,e4⟩,⟨qa 4,e4,e5⟩,⟨qa 5,e5,e6⟩,⟨qa 6,e6,e7⟩]) W _ g e7 _ _ Kt Ku ([qd,⟨qa 0,3,e1⟩,⟨qa 1,e1,e2⟩,⟨qa 2,e2,e3⟩,⟨qa 3,e3,e4⟩,⟨qa 4,e4,e5⟩,⟨qa 5,e5,e6⟩]) _ _ (HM.pk [0,2,1,3]) (Nat.le_of_ble_eq_true rfl) rfl)) ?_
           rintro HM _ w57 ⟨rfl,Kw,Ky,akU,dh⟩
           refine ⟨_,rfl,_,dh,?_⟩
           refine (CE∘Jq) fun a Z HM=>?_
           replace HM:Mem W _ [.blk g #[.slice A b.length c,vI e7,.slice D6 (((((((((((([]:List Nat)++[nx])++[cp])++[cr])++[gp])++gs)++cl)++cu)++[tk])++ts)++sp).length) D7,.slice Kw ([qd,⟨qa 0,3,e1⟩,⟨qa 1,e1,e2⟩,⟨qa 2,e2,e3⟩,⟨qa 3,e3,e4⟩,⟨qa 4,e4,e5⟩,⟨qa 5,e5,e6⟩,⟨qa 6,e6,e7⟩].length) Ky] 285,.row (.slice Kw ([qd,⟨qa 0,3,e1⟩,⟨qa 1,e1,e2⟩,⟨qa 2,e2,e3⟩,⟨qa 3,e3,e4⟩,⟨qa 4,e4,e5⟩,⟨qa 5,e5,e6⟩,⟨qa 6,e6,e7⟩].length) Ky) ([qd,⟨qa 0,3,e1⟩,⟨qa 1,e1,e2⟩,⟨qa 2,e2,e3⟩,⟨qa 3,e3,e4⟩,⟨qa 4,e4,e5⟩,⟨qa 5,e5,e6⟩,⟨qa 6,e6,e7⟩].length) ([qd,⟨qa 0,3,e1⟩,⟨qa 1,e1,e2⟩,⟨qa 2,e2,e3⟩,⟨qa 3,e3,e4⟩,⟨qa 4,e4,e5⟩,⟨qa 5,e5,e6⟩,⟨qa 6,e6,e7⟩].flatMap dW) 387 3,.row (.slice D6 (((((((((((([]:List Nat)++[nx])++[cp])++[cr])++[gp])++gs)++cl)++cu)++[tk])++ts)++sp).length) D7) (((((((((((([]:List Nat)++[nx])++[cp])++[cr])++[gp])++gs)++cl)++cu)++[tk])++ts)++sp).length) (((((((((((([]:List Nat)++[nx])++[cp])++[cr])++[gp])++gs)++cl)++cu)++[tk])++ts)++sp).map aK) 30 1,.blk g2 #[vI 0] 61]:=HM
           refine Jb Z HM ((JG∘JQ) fun a Z HM=>?_)
           refine wp_seq ?_
           refine q4r ?_
           refine q6l HM [.blk g #[.slice A b.length c,vI e7,.slice D6 (((((((((((([]:List Nat)++[nx])++[cp])++[cr])++[gp])++gs)++cl)++cu)++[tk])++ts)++sp).length) D7,.slice Kw ([qd,⟨qa 0,3,e1⟩,⟨qa 1,e1,e2⟩,⟨qa 2,e2,e3⟩,⟨qa 3,e3,e4⟩,⟨qa 4,e4,e5⟩,⟨qa 5,e5,e6⟩,⟨qa 6,e6,e7⟩].length) Ky] 285,.row (.slice Kw ([qd,⟨qa 0,3,e1⟩,⟨qa 1,e1,e2⟩,⟨qa 2,e2,e3⟩,⟨qa 3,e3,e4⟩,⟨qa 4,e4,e5⟩,⟨qa 5,e5,e6⟩,⟨qa 6,e6,e7⟩].length) Ky) ([qd,⟨qa 0,3,e1⟩,⟨qa 1,e1,e2⟩,⟨qa 2,e2,e3⟩,⟨qa 3,e3,e4⟩,⟨qa 4,e4,e5⟩,⟨qa 5,e5,e6⟩,⟨qa 6,e6,e7⟩].length) ([qd,⟨qa 0,3,e1⟩,⟨qa 1,e1,e2⟩,⟨qa 2,e2,e3⟩,⟨qa 3,e3,e4⟩,⟨qa 4,e4,e5⟩,⟨qa 5,e5,e6⟩,⟨qa 6,e6,e7⟩].flatMap dW) 387 3,.row (.slice D6 (((((((((((([]:List Nat)++[nx])++[cp])++[cr])++[gp])++gs)++cl)++cu)++[tk])++ts)++sp).length) D7) (((((((((((([]:List Nat)++[nx])++[cp])++[cr])++[gp])++gs)++cl)++cu)++[tk])++ts)++sp).length) (((((((((((([]:List Nat)++[nx])++[cp])++[cr])++[gp])++gs)++cl)++cu)++[tk])++ts)++sp).map aK) 30 1,.blk g2 #[vI 0] 61] [0,1,2,3] [] fun HM HS=>?_
           refine ap Z (fun _=>HS) [0,4] (bf 10 [0,4]) [(62,vP g 0),(58,vP g 0)] fun a Z=>?_
           refine Ho Z HS 1 fun a Z=>?_
           refine ap Z (fun _=>HS) [2] (bf 10 [0,1,2,4]) [(60,vP g 1)] fun a Z=>?_
           refine eY Z HS 3 0 fun a Z=>?_
           refine Ho Z HS 5 fun a Z=>?_
           refine ap Z (fun _=>HS) [6] (bt 10 [7,8,9]) [(64,vP g 0)] fun a Z=>?_
           refine eY Z HS 7 0 fun a Z=>?_
           refine Qy Z HS 8 fun a Z=>?_
           refine ap Z (fun _=>HS) [9] (bt 10 []) [(67,.bool ((e7:Int) !=(b.length:Int)))] fun a Z=>?_
           refine qh kr ?_
           refine Jb Z HM (Ju (fun D8=>?_) fun D8=>?_)
           ·
            intro a Z HM
            have TF:=bne_iff_ne.1 D8
            have hne:e7≠b.length:=by omega
            refine Jb Z HM ((JT∘JR) fun a Z HM=>?_)
            refine fo Z 0 rfl rfl ?_
            exact mK Z [vI 346] rfl (Nq 346 _ HM) fun w2 HM=>zt Z rfl HM (i:=3) rfl (hp.trans (if_pos hne)) [] de rfl
           intro a Z HM
           have TF:=bne_eq_false_iff_eq.1 D8
           revert HM;revert a;repeat (first|clear Z|clear HM)
           intro a Z HM
           obtain rfl:e7=b.length:=by omega
           have hp:=hp.trans (if_neg (fun h=>h rfl))
           obtain ⟨qn,TG⟩:∃qn,((((((((((([]:List Nat)++[nx])++[cp])++[cr])++[gp])++gs)++cl)++cu)++[tk])++ts)++sp)=qn:=⟨_,rfl⟩
           rw [TG] at HM Kv
           refine Jb Z HM ((JF∘aI∘JP∘Jp 1∘Jn∘Jg 1 O0∘dR 4∘Jn∘Jf 1∘JW bg fJ) fun aaA=>(jc∘Jr∘Jp 1∘JL (h:=by exact fun HM=>zK (l2:=[qd,⟨qa 0,3,e1⟩,⟨qa 1,e1,e2⟩,⟨qa 2,e2,e3⟩,⟨qa 3,e3,e4⟩,⟨qa 4,e4,e5⟩,⟨qa 5,e5,e6⟩,⟨qa 6,e6,b.length⟩,⟨⟨#[115,117,109]⟩,b.length,b.length+4⟩]) W _ g (b.length+4:Nat) _ _ Kw Ky ([qd,⟨qa 0,3,e1⟩,⟨qa 1,e1,e2⟩,⟨qa 2,e2,e3⟩,⟨qa 3,e3,e4⟩,⟨qa 4,e4,e5⟩,⟨qa 5,e5,e6⟩,⟨qa 6,e6,b.length⟩]) _ _ (HM.pk [0,1,2,3]) (Nat.le_of_ble_eq_true rfl) rfl)) ?_)
           rintro HM _ w77 ⟨rfl,TH,TI,TJ,dh⟩
           refine ⟨_,rfl,_,dh,?_⟩
           refine (sZ∘Jq) fun a Z HM=>?_
           replace HM:Mem W _ [.blk g #[.slice A b.length c,vI (b.length+4:Nat),.slice D6 qn.length D7,.slice TH ([qd,⟨qa 0,3,e1⟩,⟨qa 1,e1,e2⟩,⟨qa 2,e2,e3⟩,⟨qa 3,e3,e4⟩,⟨qa 4,e4,e5⟩,⟨qa 5,e5,e6⟩,⟨qa 6,e6,b.length⟩,⟨⟨#[115,117,109]⟩,b.length,b.length+4⟩].length) TI] 285,.row (.slice TH ([qd,⟨qa 0,3,e1⟩,⟨qa 1,e1,e2⟩,⟨qa 2,e2,e3⟩,⟨qa 3,e3,e4⟩,⟨qa 4,e4,e5⟩,⟨qa 5,e5,e6⟩,⟨qa 6,e6,b.length⟩,⟨⟨#[115,117,109]⟩,b.length,b.length+4⟩].length) TI) ([qd,⟨qa 0,3,e1⟩,⟨qa 1,e1,e2⟩,⟨qa 2,e2,e3⟩,⟨qa 3,e3,e4⟩,⟨qa 4,e4,e5⟩,⟨qa 5,e5,e6⟩,⟨qa 6,e6,b.length⟩,⟨⟨#[115,117,109]⟩,b.length,b.length+4⟩].length) ([qd,⟨qa 0,3,e1⟩,⟨qa 1,e1,e2⟩,⟨qa 2,e2,e3⟩,⟨qa 3,e3,e4⟩,⟨qa 4,e4,e5⟩,⟨qa 5,e5,e6⟩,⟨qa 6,e6,b.length⟩,⟨⟨#[115,117,109]⟩,b.length,b.length+4⟩].flatMap dW) 387 3,.row (.slice D6 qn.length D7) qn.length (qn.map aK) 30 1,.blk g2 #[vI 0] 61]:=HM
           refine Jb Z HM ((JG∘JP∘JW sV bg) fun aaB=>(aN∘Jj∘JZ) fun a Z HM=>?_)
           exact q1b Z rfl HM (i:=3) rfl fun w3 HM=> .inl ⟨(⟨nx,cp,cr,gp,gs,cl,cu,tk,ts,sp,e1,e2,e3,e4,e5,e6,b.length⟩:Pr),D6,D7,TH,TI,hp,rfl,by subst TG;rw [qsa];exact Kv,TJ,by subst TG;rw [qsa];exact HM.pk [0,2,1]⟩
theorem q5h (W w:World) (g:Nat) (A:Option Addr) (c:Nat) (b:List Nat) (HW:Mem W w [.blk g #[.slice A b.length c,vI 0,vN,vN] 285]) (hin:Rd W W.heap.size 1 A b.length (b.map B8)) (hbc:b.length≤c) (hl:∀z∈b,z<256) (hb:b.length≤16777216) (hb3:3≤b.length) {p:Pr} (h:tJ b= .ok p):Calls Tryz.prog 213 #[vP g 0] w (fun r w'=>r= .returned (vI 0)∧∃NA nc SA sc,p.nums.length≤nc∧p.secs.length≤sc∧Mem W w' [.blk g #[.slice A b.length c,vI ((b.length+4:Nat):Int),.slice NA p.nums.length nc,.slice SA p.secs.length sc] 285,.row (.slice NA p.nums.length nc) p.nums.length (p.nums.map aK) 30 1,.row (.slice SA p.secs.length sc) p.secs.length (p.secs.flatMap dW) 387 3]):=
 (qsb W w g A c b HW hin hbc hl hb hb3).mono fun r w' h1 => by
  rcases h1 with ⟨p2,NA,nc,SA,sc,h2,h3,h4,h5,h6⟩|⟨k,h2,_⟩
  ·obtain rfl:p2=p:=by rw [h] at h2;injection h2 with h2;exact h2.symm
   exact ⟨h3,NA,nc,SA,sc,h4,h5,h6⟩
  ·rw [h] at h2;cases h2
theorem q5i (W w:World) (g:Nat) (A:Option Addr) (c:Nat) (b:List Nat) (HW:Mem W w [.blk g #[.slice A b.length c,vI 0,vN,vN] 285]) (hin:Rd W W.heap.size 1 A b.length (b.map B8)) (hbc:b.length≤c) (hl:∀z∈b,z<256) (hb:b.length≤16777216) (hb3:3≤b.length) {k:Nat} (h:tJ b= .error k):Calls Tryz.prog 213 #[vP g 0] w (fun r w'=>r= .returned (vI k)∧Mem W w' []):=
 (qsb W w g A c b HW hin hbc hl hb hb3).mono fun r w' h1 => by
  rcases h1 with ⟨p2,NA,nc,SA,sc,h2,_⟩|⟨k2,h2,h3,h4⟩
  ·rw [h] at h2;cases h2
  ·obtain rfl:k2=k:=by rw [h] at h2;injection h2 with h2;exact h2.symm
   exact ⟨h3,h4⟩
def BA (w:World) (l:List Nat) (r:Ending) (w':World):Prop:=(∃p,dx l= .ok p∧∃g iv av NA nc SA sc,r= .returned (.tuple #[vP g 0,vI 0])∧p.nums.length≤nc∧p.secs.length≤sc∧Mem w w' [.blk g #[iv,av,.slice NA p.nums.length nc,.slice SA p.secs.length sc] 285,.row (.slice NA p.nums.length nc) p.nums.length (p.nums.map aK) 30 1,.row (.slice SA p.secs.length sc) p.secs.length (p.secs.flatMap dW) 387 3])∨(∃k:Nat,dx l= .error k∧Is w (.tuple #[.pointer none,vI k]) r w')
theorem D9 {w w':World} {l:List Nat} {r:Ending} {k:Nat} (n:Int) (h:dx l= .error k) (hk:n=k) (hr:r= .returned (.tuple #[.pointer none,vI n])) (hb:Below w.heap.size w w'):BA w l r w':= .inr ⟨k,h,by rw [hr,hk],hb⟩
theorem qsc (A:Option Addr) (c:Nat) (l:List Nat) (B:Nat) (w:World) (hL:ax B w) (hB:B≤w.heap.size) (hr:Rd w w.heap.size 1 A l.length (l.map B8)) (hc:l.length≤c) (hn:l.length≤100000000) (hl:∀z∈l,z<256):
    Calls Tryz.prog 166 #[.slice A l.length c] w (BA w l):=by
 refine (dM Tryz.func166 47) ?_
 refine (JP∘Jp 2∘Jj∘JQ∘JB∘JP∘Jp 1∘Jl∘Jp 2∘fC∘Jj) (Ji (fun hd6=>?_) fun hd6=>?_)
 ·
  exact (JT∘JP∘Jp 2∘Jj∘JZ∘dL) fun HM=>D9 _ (qxa om) rfl rfl HM.below
 refine (JF∘JP∘Jp 1∘Jl∘Jp 2∘fC∘Jj) (Ji (fun mq=>?_) fun mq=>?_)
 ·
  exact (JT∘JP∘Jp 2∘Jj∘JZ∘dL) fun HM=>D9 _ (q0s om om) rfl rfl HM.below
 refine (JF∘JP∘Jp 1∘JI (h:=by exact fun HM=>QE A l.length c l B _ (hL.mem HM hB) (HM.le hB) (HM.old hr) hc rfl om hl)) fun w16 hbw=>(Jp 2∘fC∘Jj) (Ju (fun qD=>?_) fun qD=>?_)
 ·
  intro a Z HM
  have sK:zn l=false:=by simpa using qD
  exact Jb Z HM ((JT∘JP∘Jp 2∘Jj∘JZ∘dL) fun HM=>D9 _ (q4y om om sK) rfl rfl HM.below)
 intro a Z HM
 have sK:zn l=true:=by simpa using qD
 refine Jb Z HM ((JF∘JP∘Jp 1) ?_)
 repeat (first|clear Z|clear HM)
 intro a Z HM
 obtain ⟨gA,oA,rfl,_⟩:=hr.qp (Nat.lt_of_le_of_lt (Nat.zero_le _) (show 0<l.length from by omega)) de
 refine Jb Z HM ((Jy (v:=vP gA oA) (h:=by exact Yl.indexAddr (ad:=⟨gA,oA,none⟩) (y:=0) (sz:=1) rfl rfl rfl om kr)∘Jy (h:=by exact Yl.o1 hr 0 0 (by first|omega|(simp;omega)) rfl rfl)∘Jp 2) (Jh (fun uT=>?_) fun uT=>?_))
 ·
  exact (Jp 6∘aN∘Jj∘JT∘JP∘Jp 2∘Jj∘JZ∘dL) fun HM=>D9 _ (Zf om om sK om) rfl rfl HM.below
 refine (Jp 1∘Jy (v:=vP gA (oA+1)) (h:=by exact Yl.indexAddr (ad:=⟨gA,oA,none⟩) (y:=1) (sz:=1) rfl rfl rfl om kr)∘Jy (h:=by exact Yl.o1 hr 1 0 (by first|omega|(simp;omega)) rfl rfl)∘Jp 3∘aN∘Jj) (Jh (fun iw=>?_) fun iw=>?_)
 ·
  exact (JT∘JP∘Jp 2∘Jj∘JZ∘dL) fun HM=>D9 _ (Zf om om sK om) rfl rfl HM.below
 refine (JF∘JP∘Jp 1∘Jy (v:=vP gA (oA+2)) (h:=by exact Yl.indexAddr (ad:=⟨gA,oA,none⟩) (y:=2) (sz:=1) rfl rfl rfl om kr)∘Jy (h:=by exact Yl.o1 hr 2 0 (by first|omega|(simp;omega)) rfl rfl)∘Jp 2∘gW∘Jj) (Jh (fun hd29=>?_) fun hd29=>?_)
 ·
  exact (JT∘JP∘Jp 2∘Jj∘JZ∘dL) fun HM=>D9 _ (qpy om om sK om om) rfl rfl HM.below
 refine (JF∘aI∘JQ) fun a Z HM=>?_
 obtain ⟨b,hbd⟩:∃b,l.take (l.length-4)=b:=⟨_,rfl⟩
 have hbl:b.length=l.length-4:=by rw [←hbd,List.length_take];omega
 have hrb:Rd w w.heap.size 1 (some ⟨gA,oA,none⟩) b.length (b.map B8):=by rw [hbl,←hbd];exact hr.Cr om
 have hlb:∀z∈b,z<256:=fun z hz=>hl z (List.mem_of_mem_take (hbd▸hz))
 have hop:=q4z om om sK om om
 rw [hbd] at hop
 skip
 ·
  refine Jb Z HM ((JR∘Jp 2∘Jl∘CF 4∘Jy (v:= .slice (some ⟨gA,oA,none⟩) (l.length-4) c) (h:=by exact Yl.yA aM (j:=l.length-4) rfl rfl rfl om)∘Jo (.slice (some ⟨gA,oA,none⟩) b.length c) (by rw [hbl])∘Jy (v:= .agg #[.slice (some ⟨gA,oA,none⟩) b.length c,vI 0,vN,vN]) (h:=by exact Yl.build (vs:=[(0,.slice (some ⟨gA,oA,none⟩) b.length c)]) rfl kr kr)∘JE) fun w40 g40=>(Jp 1∘aN∘Jj∘JQ∘JQ) fun a Z HM=>?_)
  rcases hpr:tJ b with k|p
  ·
   have hke:=Ze hpr
   refine Jb Z HM ((JR∘Jp 1∘JO (h:=by exact fun HM=>q5i w _ g40 (some ⟨gA,oA,none⟩) c b (HM.pk [0]) hrb om hlb om om hpr)) fun Na=>(Jp 1∘bK∘Jr∘Jp 2∘aT∘Jj) (Ju (fun Ea=>?_) fun Ea=>?_))
   ·
    intro a Z HM
    have Di:=bne_iff_ne.1 Ea
    exact Jb Z HM ((JT∘JP∘Jp 3∘Jj∘JZ∘dL) fun HM=>D9 _ (hop.trans hpr) rfl rfl HM.below)
   intro a Z HM
   have Di:=bne_eq_false_iff_eq.1 Ea
   exfalso;omega
  ·
   refine Jb Z HM ((JR∘Jp 1∘JL (h:=by exact fun HM=>q5h w _ g40 (some ⟨gA,oA,none⟩) c b (HM.pk [0]) hrb om hlb om om hpr)) ?_)
   rintro HM _ Na ⟨rfl,NA,nc,SA,sc,hnc,hsc,dh⟩
   refine ⟨_,rfl,_,dh,?_⟩
   exact (Jp 1∘bK∘Jr∘Jv 2 [(44,.bool false)]∘Jj∘JF∘aI∘JP∘Jp 3∘Jj∘JZ∘dL) fun HM=>by exact .inl ⟨p,hop.trans hpr,_,_,_,NA,nc,SA,sc,rfl,hnc,hsc,HM⟩
theorem q5j (A:Option Addr) (c:Nat) (l:List Nat) (B:Nat) (w:World) (hL:ax B w) (hB:B≤w.heap.size) (hr:Rd w w.heap.size 1 A l.length (l.map B8)) (hc:l.length≤c) (hn:l.length≤100000000) (hl:∀z∈l,z<256) {p:Pr} (h:dx l= .ok p):Calls Tryz.prog 166 #[.slice A l.length c] w (fun r w'=>∃g iv av NA nc SA sc,r= .returned (.tuple #[vP g 0,vI 0])∧p.nums.length≤nc∧p.secs.length≤sc∧Mem w w' [.blk g #[iv,av,.slice NA p.nums.length nc,.slice SA p.secs.length sc] 285,.row (.slice NA p.nums.length nc) p.nums.length (p.nums.map aK) 30 1,.row (.slice SA p.secs.length sc) p.secs.length (p.secs.flatMap dW) 387 3]):=
 (qsc A c l B w hL hB hr hc hn hl).mono fun r w' h1 => by
  rcases h1 with ⟨p2,h2,h3⟩|⟨k,h2,_⟩
  ·obtain rfl:p2=p:=by rw [h] at h2;injection h2 with h2;exact h2.symm
   exact h3
  ·rw [h] at h2;cases h2
theorem q5k (A:Option Addr) (c:Nat) (l:List Nat) (B:Nat) (w:World) (hL:ax B w) (hB:B≤w.heap.size) (hr:Rd w w.heap.size 1 A l.length (l.map B8)) (hc:l.length≤c) (hn:l.length≤100000000) (hl:∀z∈l,z<256) {k:Nat} (h:dx l= .error k):Calls Tryz.prog 166 #[.slice A l.length c] w (Is w (.tuple #[.pointer none,vI k])):=
 (qsc A c l B w hL hB hr hc hn hl).mono fun r w' h1 => by
  rcases h1 with ⟨p2,h2,_⟩|⟨k2,h2,h3⟩
  ·rw [h] at h2;cases h2
  ·obtain rfl:k2=k:=by rw [h] at h2;injection h2 with h2;exact h2.symm
   exact h3
def Jt (W:World) (g k:Nat) (NA:Option Addr) (nc:Nat) (q:List Nat) (o:Bool) (fs:List ag) (v:Value) (r:Ending) (w':World):Prop:=r= .returned v∧Mem W w' (.blk g #[.slice (bS NA nc k) (q.length-k) (nc-k),.bool o] 287:: .row (.slice NA q.length nc) q.length (q.map aK) 30 1::fs)
theorem Z6 {W w':World} {g k:Nat} {NA:Option Addr} {nc:Nat} {q:List Nat} {o b:Bool} {fs:List ag} {v:Value} {r:Ending} (hr:r= .returned v) (ho:b=o) (HM:Mem W w' (.blk g #[.slice (bS NA nc k) (q.length-k) (nc-k),.bool b] 287:: .row (.slice NA q.length nc) q.length (q.map aK) 30 1::fs)):Jt W g k NA nc q o fs v r w':=by subst ho;exact ⟨hr,HM⟩
theorem q03 (x m:Nat):decide ((x:Int)≤(m:Int))=aH x m:=decide_eq_decide.2 Int.ofNat_le
theorem Z7 (m:Nat) (W w:World) (g k:Nat) (NA:Option Addr) (nc:Nat) (q:List Nat) (o:Bool) (fs:List ag) (HW:Mem W w (.blk g #[.slice (bS NA nc k) (q.length-k) (nc-k),.bool o] 287:: .row (.slice NA q.length nc) q.length (q.map aK) 30 1::fs)) (hqc:q.length≤nc) (hk:k<q.length):
    Calls Tryz.prog 215 #[vP g 0,vQ m] w (Jt W g (k+1) NA nc q (o&&aH (q.getD k 0) m) fs (vQ (q.getD k 0:Int))):=by
 refine (lF Tryz.func215 33) ?_
 intro a Z HM
 replace HM:=HW
 obtain ⟨gS,oS,hA,_⟩:=Rd.qp (Sj (HM.rd (i:=1) rfl) hqc k om) om de
 refine Jb Z HM ((JP∘Jp 1∘Jr∘Jp 1∘Jn∘Jf 0∘Jc O0∘Jo (.slice (some ⟨gS,oS,none⟩) (q.length-k) (nc-k)) (by rw [hA];try rfl)∘Jy (v:=vP gS oS) (h:=by exact Yl.indexAddr (ad:=⟨gS,oS,none⟩) (y:=0) (sz:=1) rfl rfl rfl om kr)∘Jy (v:=vQ (q.getD k 0)) (h:=by exact Yl.ze rfl rfl kr (fun _ h=>q7h (h.rd (i:=1) rfl) hqc hk hA))∘Jp 1∘aN∘Jr∘Jp 2∘Jn∘Jg 0 O0∘Jy (v:= .slice (if nc-k=1 then bS NA nc k else (bS NA nc k:Option Addr).map (·.add (1*1))) ((q.length-k)-1) ((nc-k)-1)) (h:=by exact Yl.sliceFrom zz (j:=1) rfl rfl rfl om)∘Jo (.slice (bS NA nc (k+1)) (q.length- (k+1)) (nc- (k+1))) (by exact rfl)∘Jn∘Jf 0∘JW bg bg) fun ajA=>(jc∘Jr∘Jp 2∘Jn∘Jg 1 O0∘Jp 1) (Ju (fun gM=>?_) fun gM=>?_))
 ·
  exact (Jp 4∘Jn∘Jf 1∘JW bg fJ) fun Jz=>(jc∘Jr∘Jp 2∘aN∘Jj∘JZ∘bq) fun HM=>Z6 rfl (by rw [gM,Bool.true_and];exact q03 _ _) HM
 exact (Jp 4∘Jn∘Jf 1∘JW bg fJ) fun Jz=>(jc∘Jr∘Jp 2∘aN∘Jj∘JZ∘bq) fun HM=>Z6 rfl (by rw [gM];rfl) HM
theorem zH (m:Nat) (W w:World) (g k:Nat) (NA:Option Addr) (nc:Nat) (q:List Nat) (o:Bool) (fs:List ag) (HW:Mem W w (.blk g #[.slice (bS NA nc k) (q.length-k) (nc-k),.bool o] 287:: .row (.slice NA q.length nc) q.length (q.map aK) 30 1::fs)) (hqc:q.length≤nc) (hk:k<q.length) {x k2:Nat} {o2:Bool} (hx:q.getD k 0=x) (h2:k+1=k2) (ho:(o&&aH x m)=o2):Calls Tryz.prog 215 #[vP g 0,vQ m] w (Jt W g k2 NA nc q o2 fs (vQ x)):=by
 subst hx;subst h2;subst ho
 exact Z7 m W w g k NA nc q o fs HW hqc hk
theorem qx2 (W w:World) (g k:Nat) (NA:Option Addr) (nc:Nat) (q:List Nat) (o:Bool) (fs:List ag) (HW:Mem W w (.blk g #[.slice (bS NA nc k) (q.length-k) (nc-k),.bool o] 287:: .row (.slice NA q.length nc) q.length (q.map aK) 30 1::fs)) (hqc:q.length≤nc) (hk:k<q.length):
    Calls Tryz.prog 214 #[vP g 0] w (Jt W g (k+1) NA nc q (o&&aH (q.getD k 0) ai) fs (vI (aP (q.getD k 0)))):=by
 refine (dM Tryz.func214 6) ?_
 intro a Z HM
 replace HM:=HW
 exact Jb Z HM ((JP∘Jp 1∘Jr∘Jp 1∘JO (h:=by exact fun HM=>Z7 ai W _ g k NA nc q o fs HM hqc hk)) fun w4=>(Jv 1 [(5,vI (IntKind.i64.wrap (q.getD k 0:Int)))]∘Jo (vI (aP (q.getD k 0))) (by exact rfl)∘Jp 1∘fC∘Jj∘JZ∘bq) fun HM=>by exact ⟨rfl,HM⟩)
theorem tL (W w:World) (g k:Nat) (NA:Option Addr) (nc:Nat) (q:List Nat) (o:Bool) (fs:List ag) (HW:Mem W w (.blk g #[.slice (bS NA nc k) (q.length-k) (nc-k),.bool o] 287:: .row (.slice NA q.length nc) q.length (q.map aK) 30 1::fs)) (hqc:q.length≤nc) (hk:k<q.length) {x k2:Nat} {o2:Bool} {v:Int} (hx:q.getD k 0=x) (h2:k+1=k2) (ho:(o&&aH x ai)=o2) (hv:aP x=v):Calls Tryz.prog 214 #[vP g 0] w (Jt W g k2 NA nc q o2 fs (vI v)):=by
 subst hx;subst h2;subst ho;subst hv
 exact qx2 W w g k NA nc q o fs HW hqc hk
theorem Mem.q8i {W w:World} {f r1 r2 r3 r4 r5:ag} {fs rs:List ag} (h:Mem W w (f::r1::r2::r3::r4::r5::(fs++rs))):Mem W w (f::(fs++([r1,r2,r3,r4,r5]++rs))):=h.perm ((List.perm_append_comm_assoc [r1,r2,r3,r4,r5] fs rs).cons f)
theorem q5f (x:Nat):((x:Int)==(1:Int))=decide (x=1):=by
 rw [Bool.eq_iff_iff,beq_iff_eq,decide_eq_true_eq]
 omega
theorem q05 {p:Pr} {j:Nat} (h:0<j):p.mX (j+1)=((p.mX j&&aH (p.gs.getD (2*(j-1)) 0) ai)&&aH (p.gs.getD (2*(j-1)+1) 0) ai):=if_neg om
theorem qx4 {p:Pr} {j:Nat} (h:j=0):p.mX (j+1)=p.mX j:=by subst h;rfl
theorem J2 {p:Pr} {y x:Nat} (h:y=0):p.so y (x+1)=p.so y x+1:=by subst h;rw [zA,zA]
theorem J3 {p:Pr} {y x:Nat} (h:0<y):p.so y (x+1)=p.so y x+3:=by rw [sG h,sG h];omega
theorem J4 {p:Pr} {b:Bool} {y x:Nat} (h:y=0):p.jy b y (x+1)=(p.jy b y x&&aH (p.sn y x 0) 18446744073709551615):=if_pos h
theorem J5 {p:Pr} {b:Bool} {y x:Nat} (h:0<y):p.jy b y (x+1)=(((p.jy b y x&&aH (p.sn y x 0) 18446744073709551615)&&aH (p.sn y x 1) 4294967295)&&aH (p.sn y x 2) 18446744073709551615):=if_neg om
def q06 (W:World) (g:Nat) (p:Pr) (fs:List ag) (r:Ending) (w':World):Prop:=∃(z:bT) (A:Option Addr) (n c:Nat),r= .returned (.agg z.cells)∧dH p.oP z∧eU z.st∧Mem W w' (.blk g #[.slice A n c,.bool p.okB] 287::(fs++nQ z.st))
theorem qtr (W w:World) (g:Nat) (NA:Option Addr) (nc:Nat) (p:Pr) (h:p.Fit) (fs:List ag) (HW:Mem W w (.blk g #[.slice NA p.nums.length nc,.bool true] 287:: .row (.slice NA p.nums.length nc) p.nums.length (p.nums.map aK) 30 1::fs)) (hnc:p.nums.length≤nc):
    Calls Tryz.prog 167 #[vP g 0] w (q06 W g p fs):=by
 obtain ⟨hnl,hsl⟩:=q0w h
 have n0:=q0v p
 have eC:p.oC=4+2*(p.gp-1):=rfl
 have eT:p.oT=p.oC+2*p.cp:=rfl
 have eS:p.oS=p.oT+1+8*p.tk:=rfl
 have c1:=h.cp1;have c2:=h.cp2;have c3:=h.Zh;have c4:=h.I1;have c5:=h.tk
 refine (dM Tryz.func167 191) ?_
 intro a Z HM
 replace HM:=HW
 refine Jb Z HM ((JP∘JA #[vI 0,vI 0,vQ 0,vN,vN,vN,vN,vN]) fun w2 g2=>(Jr∘Jp 1∘JO (h:=by exact fun HM=>tL W _ g 0 NA nc p.nums true _ (HM.pt 3 [1,2,0]) hnc om (x:=p.nx) (k2:=1) (o2:=true&&aH p.nx ai) (n0.1) (rfl) (rfl) (rfl))) fun xC=>(Jy (v:= .agg #[vI (aP p.nx),vI 0,vQ 0,vN,vN,vN,vN,vN]) (h:=by exact Yl.build (vs:=[(0,vI (aP p.nx))]) rfl kr kr)∘JA #[vI 0,vI 0,vQ 0,vN,vN,vN,vN,vN]) fun w3 g3=>(JV zr bg) fun CO=>(fC∘Jr∘Jf 1∘Jp 1∘aT∘Jr∘Jp 3∘JO (h:=by exact fun HM=>tL W _ g 1 NA nc p.nums (true&&aH p.nx ai) _ (HM.pt 4 [1,2,0,3]) hnc om (x:=p.cp) (k2:=2) (o2:=(true&&aH p.nx ai)&&aH p.cp ai) (n0.2.1) (rfl) (rfl) (Sk om))) fun Dj=>(Jp 1∘JO (h:=by exact fun HM=>zH 18446744073709551615 W _ g 2 NA nc p.nums ((true&&aH p.nx ai)&&aH p.cp ai) _ (HM.pt 4 [0,1,2,3]) hnc om (x:=p.cr) (k2:=3) (o2:=((true&&aH p.nx ai)&&aH p.cp ai)&&aH p.cr 18446744073709551615) (n0.2.2.1) (rfl) (rfl))) fun FB=>(Jn∘Jf 0∘Jf 0∘JW fA fJ) fun ajR=>(Jn∘Jf 0∘Jf 1∘JW fA fA) fun aab=>(jc∘Jj∘JQ∘JP∘Jp 1∘JO (h:=by exact fun HM=>tL W _ g 3 NA nc p.nums (((true&&aH p.nx ai)&&aH p.cp ai)&&aH p.cr 18446744073709551615) _ (HM.pt 4 [0,1,2,3]) hnc om (x:=p.gp) (k2:=4+2*(0-1)) (o2:=p.mX 0) (n0.2.2.2) (rfl) (rfl) (Sk om))) fun QC=>(Jp 1∘Jq) fun a Z HM=>?_)
 replace HM:=HM.nil 166 2
 refine Jb Z HM ((JG∘JB) fun a Z HM=>?_)
 refine qj (fun mS aS wS=>∃(j:Nat) (G:List Gr) (Ag:Option Addr) (cg:Nat),(j≤p.gp)∧(G=bi j p.dZ)∧(G.length=j)∧(G.length≤cg)∧mS=p.gp-j∧Fr aS 191 [] [(30,vI j),(29,vI p.gp),(4,vP g3 1),(3,vP g3 0),(2,vP g2 0),(0,vP g 0)]∧Mem W wS (.row (.slice Ag G.length cg) G.length (G.flatMap iD) 166 2:: .blk g #[.slice (bS NA nc (4+2*(j-1))) (p.nums.length- (4+2*(j-1))) (nc- (4+2*(j-1))),.bool (p.mX j)] 287:: .row (.slice NA p.nums.length nc) p.nums.length (p.nums.map aK) 30 1:: .blk g3 #[vI (aP p.nx),vI p.cp,vQ p.cr,.slice Ag G.length cg,vN,vN,vN,vN] 52:: .blk g2 #[vI 0,vI 0,vQ 0,vN,vN,vN,vN,vN] 52::fs)) (m:=p.gp-0) ⟨0,[],none,0,Nat.zero_le _,rfl,rfl,Nat.le_refl _,rfl,Z.sub kr,HM.pt 5 [0,1,2,3,4]⟩ ?_
 clear Z HM;rintro mS a w_ ⟨j,G,Ag,cg,hj,hG,hGl,hGc,rfl,Z,HM⟩
 refine Jb Z HM ((JP∘Jp 1∘Jj∘JQ) (Ji (fun hd31=>?_) fun hd31=>?_))
 ·
  refine (JT∘aI∘JQ∘JB∘JP∘Jp 2∘aT∘Jr∘Jy (v:= .agg #[vI 0,vI 1]) (h:=by exact Yl.build (vs:=[(1,vI 1)]) rfl kr kr)∘JA #[vI 0,vI 0]) fun w6 g6=>(JV lG bg) fun ajT=>(aT∘Jj∘JQ∘JP∘Jp 2∘aT∘Jj) (Ju (fun DL=>?_) fun DL=>?_)
  ·
   intro a Z HM
   have CL:=of_decide_eq_true DL
   have hgr:p.dZ j=⟨aP (p.gs.getD (2*(j-1)) 0),aP (p.gs.getD (2*(j-1)+1) 0)⟩:=if_neg om
   refine Jb Z HM ((JT∘JR∘Jp 1∘JO (h:=by exact fun HM=>tL W _ g (4+2*(j-1)) NA nc p.nums (p.mX j) _ (HM.pt 6 [2,3,0,1,4,5]) hnc om (x:=p.gs.getD (2*(j-1)) 0) (k2:=4+(2*(j-1)+1)) (o2:=p.mX j&&aH (p.gs.getD (2*(j-1)) 0) ai) (Zj h (j:=2*(j-1)) om) (rfl) (rfl) (rfl))) fun yK=>(Jp 1∘JO (h:=by exact fun HM=>tL W _ g (4+(2*(j-1)+1)) NA nc p.nums (p.mX j&&aH (p.gs.getD (2*(j-1)) 0) ai) _ (HM.pt 6 [0,1,2,3,4,5]) hnc om (x:=p.gs.getD (2*(j-1)+1) 0) (k2:=4+2*(j+1-1)) (o2:=(p.mX j&&aH (p.gs.getD (2*(j-1)) 0) ai)&&aH (p.gs.getD (2*(j-1)+1) 0) ai) (Zj h (j:=2*(j-1)+1) om) om (rfl) (rfl))) fun w39=>(Jf 0∘JW fA bg) fun J6=>(Jf 1∘JW fA fJ) fun ajU=>(jc∘Jq) fun a Z HM=>?_)
   replace HM:Mem W _ (.blk g #[.slice (bS NA nc (4+2*(j+1-1))) (p.nums.length- (4+2*(j+1-1))) (nc- (4+2*(j+1-1))),.bool ((p.mX j&&aH (p.gs.getD (2*(j-1)) 0) ai)&&aH (p.gs.getD (2*(j-1)+1) 0) ai)] 287:: .row (.slice NA p.nums.length nc) p.nums.length (p.nums.map aK) 30 1:: .blk g6 #[vI (aP (p.gs.getD (2*(j-1)) 0)),vI (aP (p.gs.getD (2*(j-1)+1) 0))] 166:: .row (.slice Ag G.length cg) G.length (G.flatMap iD) 166 2:: .blk g3 #[vI (aP p.nx),vI p.cp,vQ p.cr,.slice Ag G.length cg,vN,vN,vN,vN] 52:: .blk g2 #[vI 0,vI 0,vQ 0,vN,vN,vN,vN,vN] 52::fs):=HM
   refine Jb Z HM ((JG∘Vs (.t (.t (.t (.f .n)))) [12]) fun SS=>(Vp [0,1]∘Vn 2∘Vf 3 0∘Vf 4 2∘Vc 5 O3∘Vy 6 (v:= .agg #[vI (aP (p.gs.getD (2*(j-1)) 0)),vI (aP (p.gs.getD (2*(j-1)+1) 0))]) (h:=by exact Yl.qm rfl rfl lG rfl (fun _ h=>qc (h.blk (i:=2) rfl)))) fun a Z HM HS=>?_)
   refine s_on Z 7 rfl (mh Z HM lI [(0,.agg #[vI (aP (p.gs.getD (2*(j-1)) 0)),vI (aP (p.gs.getD (2*(j-1)+1) 0))])] #[vI (aP (p.gs.getD (2*(j-1)) 0)),vI (aP (p.gs.getD (2*(j-1)+1) 0))] ?_)
   clear Z HM;intro a Rx g49 Z HM
   refine aD (HM.pt 7 [1,2,3,5,6]) (fun HS=>?_)
   refine s_on Z 8 rfl (yw Z HM (i:=4) rfl lI rfl rfl rfl (news:=([(⟨aP (p.gs.getD (2*(j-1)) 0),aP (p.gs.getD (2*(j-1)+1) 0)⟩:Gr)].flatMap iD)) (HM.aZ (i:=0) (n:=1) (size:=2) rfl rfl) (Y5 _) om om rfl de ?_)
   clear Z HM;intro a MH DN DR Z HM vL
   refine aD (HM.pt 7 [1,2,3,5,6]) (fun HS=>?_)
   refine Vb Z HM HS ((Vn 9∘Vf 10 0∘Vf 11 2) fun a Z HM HS=>?_)
   refine s_on Z 12 rfl (iN Z HM 5 fun DT HM=>?_)
   refine jZ kr ?_
   refine qh kr ?_
   have iW:G.length+1=(G++[p.dZ j]).length:=zx rfl
   replace HM:=HM.bu (i:=4) (ys:=(G++[p.dZ j]).flatMap iD) rfl iW (by rw [hgr];exact List.flatMap_append.symm)
   rw [iW] at vL
   replace Z:=Z.sp 50 (.slice DN ((G++[p.dZ j]).length) DR) rfl (by rw [iW])
   replace HM:=HM.cz (i:=5) (ds:= #[vI (aP p.nx),vI p.cp,vQ p.cr,.slice DN ((G++[p.dZ j]).length) DR,vN,vN,vN,vN]) rfl (by rw [iW];try rfl)
   refine Jb Z HM ((JG∘JR∘dR 1∘Jp 1∘aT∘Jq) fun a Z HM=>?_)
   replace HM:=HM.cz (i:=1) (ds:= #[.slice (bS NA nc (4+2*(j+1-1))) (p.nums.length- (4+2*(j+1-1))) (nc- (4+2*(j+1-1))),.bool (p.mX (j+1))]) rfl (by rw [q05 om])
   exact ⟨_,om,j+1,(G++[p.dZ j]),DN,DR,by omega,by rw [hG,yY],by rw [List.length_append,hGl];rfl,vL,rfl,Z.sub kr,HM.pt 7 [4,1,2,5,6]⟩
  intro a Z HM
  have CL:=of_decide_eq_false DL
  have hgr:p.dZ j=⟨0,1⟩:=if_pos om
  refine Jb Z HM ((JF∘aI∘Vs (.t (.f .n)) [12]) fun SS=>(Vp [0,1]∘Vn 2∘Vf 3 0∘Vf 4 2∘Vc 5 O3∘Vy 6 (v:= .agg #[vI 0,vI 1]) (h:=by exact Yl.qm rfl rfl lG rfl (fun _ h=>qc (h.blk (i:=0) rfl)))) fun a Z HM HS=>?_)
  refine s_on Z 7 rfl (mh Z HM lI [(0,.agg #[vI 0,vI 1])] #[vI 0,vI 1] ?_)
  clear Z HM;intro a Rx g49 Z HM
  refine aD (HM.pt 7 [1,3,4,5,6]) (fun HS=>?_)
  refine s_on Z 8 rfl (yw Z HM (i:=2) rfl lI rfl rfl rfl (news:=([(⟨0,1⟩:Gr)].flatMap iD)) (HM.aZ (i:=0) (n:=1) (size:=2) rfl rfl) (Y5 _) om om rfl de ?_)
  clear Z HM;intro a MH DN DR Z HM vL
  refine aD (HM.pt 7 [1,3,4,5,6]) (fun HS=>?_)
  refine Vb Z HM HS ((Vn 9∘Vf 10 0∘Vf 11 2) fun a Z HM HS=>?_)
  refine s_on Z 12 rfl (iN Z HM 5 fun DT HM=>?_)
  refine jZ kr ?_
  refine qh kr ?_
  have iW:G.length+1=(G++[p.dZ j]).length:=zx rfl
  replace HM:=HM.bu (i:=2) (ys:=(G++[p.dZ j]).flatMap iD) rfl iW (by rw [hgr];exact List.flatMap_append.symm)
  rw [iW] at vL
  replace Z:=Z.sp 50 (.slice DN ((G++[p.dZ j]).length) DR) rfl (by rw [iW])
  replace HM:=HM.cz (i:=5) (ds:= #[vI (aP p.nx),vI p.cp,vQ p.cr,.slice DN ((G++[p.dZ j]).length) DR,vN,vN,vN,vN]) rfl (by rw [iW];try rfl)
  refine Jb Z HM ((JG∘JR∘dR 1∘Jp 1∘aT∘Jq) fun a Z HM=>?_)
  replace HM:=HM.cz (i:=3) (ds:= #[.slice (bS NA nc (4+2*(j+1-1))) (p.nums.length- (4+2*(j+1-1))) (nc- (4+2*(j+1-1))),.bool (p.mX (j+1))]) rfl (by rw [qx4 om,show 4+2*(j+1-1)=4+2*(j-1) by omega])
  exact ⟨_,om,j+1,(G++[p.dZ j]),DN,DR,by omega,by rw [hG,yY],by rw [List.length_append,hGl];rfl,vL,rfl,Z.sub kr,HM.pt 7 [2,3,4,5,6]⟩
 refine (JF∘JX∘JG∘JQ∘JP∘Jp 1∘Jn∘Jf 0∘Jg 0 O3∘Jp 1∘Jq) fun a Z HM=>?_
 replace HM:=HM.nil 3 1
 replace HM:=HM.cz (i:=2) (ds:= #[.slice (bS NA nc (p.oC+0)) (p.nums.length- (p.oC+0)) (nc- (p.oC+0)),.bool (p.yZ 0)]) rfl (by rw [show j=p.gp by omega];rfl)
 refine Jb Z HM ((JG∘JB) fun a Z HM=>?_)
 refine qj (fun mS aS wS=>∃(k:Nat) (C:List Int) (Al:Option Addr) (cl:Nat),(k≤p.cp)∧(C=bi k fun i=>aP (p.cl.getD i 0))∧(C.length=k)∧(C.length≤cl)∧mS=p.cp-k∧Fr aS 191 [] [(60,vI k),(59,vI p.cp),(31,.bool false),(30,vI j),(29,vI p.gp),(4,vP g3 1),(3,vP g3 0),(2,vP g2 0),(0,vP g 0)]∧Mem W wS (.row (.slice Al C.length cl) C.length (C.map bR) 3 1:: .row (.slice Ag G.length cg) G.length (G.flatMap iD) 166 2:: .blk g #[.slice (bS NA nc (p.oC+k)) (p.nums.length- (p.oC+k)) (nc- (p.oC+k)),.bool (p.yZ k)] 287:: .row (.slice NA p.nums.length nc) p.nums.length (p.nums.map aK) 30 1:: .blk g3 #[vI (aP p.nx),vI p.cp,vQ p.cr,.slice Ag G.length cg,.slice Al C.length cl,vN,vN,vN] 52:: .blk g2 #[vI 0,vI 0,vQ 0,vN,vN,vN,vN,vN] 52::fs)) (m:=p.cp-0) ⟨0,[],none,0,Nat.zero_le _,rfl,rfl,Nat.le_refl _,rfl,Z.sub kr,HM.pt 6 [0,1,2,3,4,5]⟩ ?_
 clear Z HM;rintro mS a w_ ⟨k,C,Al,cl,hk,hC,hCl,hCc,rfl,Z,HM⟩
 refine Jb Z HM ((JP∘Jp 1∘Jj∘JQ) (Ji (fun Dl=>?_) fun Dl=>?_))
 ·
  refine (JT∘aI∘JQ∘JB∘Vs (.f (.t (.f .n))) [11]) fun CY=>(Vp [0,1,5]∘Vn 2∘Vf 3 3∘Vc 4 O2) fun a Z HM HS=>?_
  refine s_on Z 6 rfl ?_
  refine Ht Z [vP g 0] (tL W _ g (p.oC+k) NA nc p.nums (p.yZ k) _ (HM.pt 6 [2,3,0,1,4,5]) hnc om (x:=p.cl.getD k 0) (k2:=p.oC+(k+1)) (o2:=p.yZ (k+1)) (q41 h om) (rfl) (rfl) (rfl)) fun w68 HM a Z=>?_
  refine aD (HM.pt 6 [3,1,4,5]) (fun HS=>?_)
  refine s_on Z 7 rfl (mh Z HM rH [(0,vI (aP (p.cl.getD k 0)))] #[vI (aP (p.cl.getD k 0))] ?_)
  clear Z HM;intro a w69 g69 Z HM
  refine aD (HM.pt 7 [4,2,5,6]) (fun HS=>?_)
  refine s_on Z 8 rfl (yw Z HM (i:=3) rfl rH rfl rfl rfl (news:=([aP (p.cl.getD k 0)].map bR)) (HM.aZ (i:=0) (n:=1) (size:=1) rfl rfl) (Y7 _) om om rfl de ?_)
  clear Z HM;intro a w70 SV c70 Z HM J7
  refine aD (HM.pt 7 [4,2,5,6]) (fun HS=>?_)
  refine Vb Z HM HS ((Vn 9∘Vf 10 3) fun a Z HM HS=>?_)
  refine s_on Z 11 rfl (iN Z HM 5 fun SX HM=>?_)
  refine jZ kr ?_
  refine qh kr ?_
  have rq:C.length+1=(C++[aP (p.cl.getD k 0)]).length:=zx rfl
  replace HM:=HM.bu (i:=3) (ys:=(C++[aP (p.cl.getD k 0)]).map bR) rfl rq (by exact List.map_append.symm)
  rw [rq] at J7
  replace Z:=Z.sp 70 (.slice SV ((C++[aP (p.cl.getD k 0)]).length) c70) rfl (by rw [rq])
  replace HM:=HM.cz (i:=5) (ds:= #[vI (aP p.nx),vI p.cp,vQ p.cr,.slice Ag G.length cg,.slice SV ((C++[aP (p.cl.getD k 0)]).length) c70,vN,vN,vN]) rfl (by rw [rq];try rfl)
  refine Jb Z HM ((JG∘JR∘dR 1∘Jp 1∘aT∘Jq) fun a Z HM=>?_)
  exact ⟨_,om,k+1,(C++[aP (p.cl.getD k 0)]),SV,c70,by omega,by rw [hC,yY],by rw [List.length_append,hCl];rfl,J7,rfl,Z.sub kr,HM.pt 7 [3,4,1,2,5,6]⟩
 refine (JF∘JX∘JG∘JQ∘JP∘Jp 1∘Jn∘Jf 0∘Jg 0 O4∘Jp 1∘Jq) fun a Z HM=>?_
 replace HM:=HM.nil 3 1
 replace HM:=HM.cz (i:=3) (ds:= #[.slice (bS NA nc (p.oC+p.cp+0)) (p.nums.length- (p.oC+p.cp+0)) (nc- (p.oC+p.cp+0)),.bool (p.vC 0)]) rfl (by rw [show k=p.cp by omega];rfl)
 refine Jb Z HM ((JG∘JB) fun a Z HM=>?_)
 refine qj (fun mS aS wS=>∃(u:Nat) (U:List Int) (Au:Option Addr) (cu:Nat),(u≤p.cp)∧(U=bi u fun i=>aP (p.cu.getD i 0))∧(U.length=u)∧(U.length≤cu)∧mS=p.cp-u∧Fr aS 191 [] [(79,vI u),(78,vI p.cp),(61,.bool false),(60,vI k),(59,vI p.cp),(31,.bool false),(30,vI j),(29,vI p.gp),(4,vP g3 1),(3,vP g3 0),(2,vP g2 0),(0,vP g 0)]∧Mem W wS (.row (.slice Au U.length cu) U.length (U.map bR) 3 1:: .row (.slice Al C.length cl) C.length (C.map bR) 3 1:: .row (.slice Ag G.length cg) G.length (G.flatMap iD) 166 2:: .blk g #[.slice (bS NA nc (p.oC+p.cp+u)) (p.nums.length- (p.oC+p.cp+u)) (nc- (p.oC+p.cp+u)),.bool (p.vC u)] 287:: .row (.slice NA p.nums.length nc) p.nums.length (p.nums.map aK) 30 1:: .blk g3 #[vI (aP p.nx),vI p.cp,vQ p.cr,.slice Ag G.length cg,.slice Al C.length cl,.slice Au U.length cu,vN,vN] 52:: .blk g2 #[vI 0,vI 0,vQ 0,vN,vN,vN,vN,vN] 52::fs)) (m:=p.cp-0) ⟨0,[],none,0,Nat.zero_le _,rfl,rfl,Nat.le_refl _,rfl,Z.sub kr,HM.pt 7 [0,1,2,3,4,5,6]⟩ ?_
 clear Z HM;rintro mS a w_ ⟨u,U,Au,cu,hu,hU,hUl,hUc,rfl,Z,HM⟩
 refine Jb Z HM ((JP∘Jp 1∘Jj∘JQ) (Ji (fun SY=>?_) fun SY=>?_))
 ·
  refine (JT∘aI∘JQ∘JB∘Vs (.f (.t (.t (.f .n)))) [11]) fun aj0=>(Vp [0,1,5]∘Vn 2∘Vf 3 4∘Vc 4 O3) fun a Z HM HS=>?_
  refine s_on Z 6 rfl ?_
  refine Ht Z [vP g 0] (tL W _ g (p.oC+p.cp+u) NA nc p.nums (p.vC u) _ (HM.pt 7 [3,4,0,1,2,5,6]) hnc om (x:=p.cu.getD u 0) (k2:=p.oC+p.cp+(u+1)) (o2:=p.vC (u+1)) (q42 h om) (rfl) (rfl) (rfl)) fun w87 HM a Z=>?_
  refine aD (HM.pt 7 [3,4,1,5,6]) (fun HS=>?_)
  refine s_on Z 7 rfl (mh Z HM rH [(0,vI (aP (p.cu.getD u 0)))] #[vI (aP (p.cu.getD u 0))] ?_)
  clear Z HM;intro a w88 S9 Z HM
  refine aD (HM.pt 8 [4,5,2,6,7]) (fun HS=>?_)
  refine s_on Z 8 rfl (yw Z HM (i:=3) rfl rH rfl rfl rfl (news:=([aP (p.cu.getD u 0)].map bR)) (HM.aZ (i:=0) (n:=1) (size:=1) rfl rfl) (Y7 _) om om rfl de ?_)
  clear Z HM;intro a w89 NG NH Z HM DU
  refine aD (HM.pt 8 [4,5,2,6,7]) (fun HS=>?_)
  refine Vb Z HM HS ((Vn 9∘Vf 10 4) fun a Z HM HS=>?_)
  refine s_on Z 11 rfl (iN Z HM 6 fun Ta HM=>?_)
  refine jZ kr ?_
  refine qh kr ?_
  have ru:U.length+1=(U++[aP (p.cu.getD u 0)]).length:=zx rfl
  replace HM:=HM.bu (i:=3) (ys:=(U++[aP (p.cu.getD u 0)]).map bR) rfl ru (by exact List.map_append.symm)
  rw [ru] at DU
  replace Z:=Z.sp 89 (.slice NG ((U++[aP (p.cu.getD u 0)]).length) NH) rfl (by rw [ru])
  replace HM:=HM.cz (i:=6) (ds:= #[vI (aP p.nx),vI p.cp,vQ p.cr,.slice Ag G.length cg,.slice Al C.length cl,.slice NG ((U++[aP (p.cu.getD u 0)]).length) NH,vN,vN]) rfl (by rw [ru];try rfl)
  refine Jb Z HM ((JG∘JR∘dR 1∘Jp 1∘aT∘Jq) fun a Z HM=>?_)
  exact ⟨_,om,u+1,(U++[aP (p.cu.getD u 0)]),NG,NH,by omega,by rw [hU,yY],by rw [List.length_append,hUl];rfl,DU,rfl,Z.sub kr,HM.pt 8 [3,4,5,1,2,6,7]⟩
 refine (JF∘JX∘JG∘JP∘Jp 1∘Jq) fun a Z HM=>?_
 replace HM:=HM.cz (i:=3) (ds:= #[.slice (bS NA nc p.oT) (p.nums.length-p.oT) (nc-p.oT),.bool (p.vC p.cp)]) rfl (by rw [show u=p.cp by omega,show p.oC+p.cp+p.cp=p.oT by omega])
 refine Jb Z HM ((JG∘JQ∘JP∘Jp 1∘JO (h:=by exact fun HM=>tL W _ g p.oT NA nc p.nums (p.vC p.cp) _ (HM.pt 7 [3,4,0,1,2,5,6]) hnc om (x:=p.tk) (k2:=p.oT+1+8*0) (o2:=p.gB 0) (q43 h) (rfl) (rfl) (Sk om))) fun w94=>(Jp 1∘Jq) fun a Z HM=>?_)
 replace HM:=HM.nil 222 8
 refine Jb Z HM ((JG∘JB) fun a Z HM=>?_)
 refine qj (fun mS aS wS=>∃(i:Nat) (T:List Tk) (At:Option Addr) (ct:Nat),(i≤p.tk)∧(T=bi i p.sF)∧(T.length=i)∧(T.length≤ct)∧mS=p.tk-i∧Fr aS 191 [] [(95,vI i),(94,vI p.tk),(7,vI (p.qY i)),(80,.bool false),(79,vI u),(78,vI p.cp),(61,.bool false),(60,vI k),(59,vI p.cp),(31,.bool false),(30,vI j),(29,vI p.gp),(4,vP g3 1),(3,vP g3 0),(2,vP g2 0),(0,vP g 0)]∧Mem W wS (.row (.slice At T.length ct) T.length (T.flatMap kT) 222 8:: .blk g #[.slice (bS NA nc (p.oT+1+8*i)) (p.nums.length- (p.oT+1+8*i)) (nc- (p.oT+1+8*i)),.bool (p.gB i)] 287:: .row (.slice NA p.nums.length nc) p.nums.length (p.nums.map aK) 30 1:: .row (.slice Au U.length cu) U.length (U.map bR) 3 1:: .row (.slice Al C.length cl) C.length (C.map bR) 3 1:: .row (.slice Ag G.length cg) G.length (G.flatMap iD) 166 2:: .blk g3 #[vI (aP p.nx),vI p.cp,vQ p.cr,.slice Ag G.length cg,.slice Al C.length cl,.slice Au U.length cu,.slice At T.length ct,vN] 52:: .blk g2 #[vI 0,vI 0,vQ 0,vN,vN,vN,vN,vN] 52::fs)) (m:=p.tk-0) ⟨0,[],none,0,Nat.zero_le _,rfl,rfl,Nat.le_refl _,rfl,Z.sub kr,HM.pt 8 [0,1,2,3,4,5,6,7]⟩ ?_
 clear Z HM;rintro mS a w_ ⟨i,T,At,ct,hi,hT,hTl,hTc,rfl,Z,HM⟩
 refine Jb Z HM ((JP∘Jp 1∘Jj∘JQ) (Ji (fun hd96=>?_) fun hd96=>?_))
 ·
  refine (JT∘aI∘JQ∘JB∘JP∘Jp 2∘JO (h:=by exact fun HM=>tL W _ g (p.oT+1+8*i) NA nc p.nums (p.gB i) _ (HM.pt 8 [1,2,0,3,4,5,6,7]) hnc om (x:=p.tn i 0) (k2:=p.oT+1+(8*i+1)) (o2:=p.gB i&&aH (p.tn i 0) ai) (Bg h (j:=8*i) om) (rfl) (rfl) (rfl))) fun w99=>(Jp 1∘Jo (vI (p.jd i)) (by exact rfl)∘Jp 1∘gW∘Jr∘Jp 2∘JO (h:=by exact fun HM=>tL W _ g (p.oT+1+(8*i+1)) NA nc p.nums (p.gB i&&aH (p.tn i 0) ai) _ (HM.pt 8 [0,1,2,3,4,5,6,7]) hnc om (x:=p.tn i 1) (k2:=p.oT+1+(8*i+2)) (o2:=(p.gB i&&aH (p.tn i 0) ai)&&aH (p.tn i 1) ai) (Bg h (j:=8*i+1) om) (rfl) (rfl) (rfl))) fun Tc=>(Jp 1∘JO (h:=by exact fun HM=>tL W _ g (p.oT+1+(8*i+2)) NA nc p.nums ((p.gB i&&aH (p.tn i 0) ai)&&aH (p.tn i 1) ai) _ (HM.pt 8 [0,1,2,3,4,5,6,7]) hnc om (x:=p.tn i 2) (k2:=p.oT+1+(8*i+3)) (o2:=((p.gB i&&aH (p.tn i 0) ai)&&aH (p.tn i 1) ai)&&aH (p.tn i 2) ai) (Bg h (j:=8*i+2) om) (rfl) (rfl) (rfl))) fun aj5=>(Jp 1∘JO (h:=by exact fun HM=>tL W _ g (p.oT+1+(8*i+3)) NA nc p.nums (((p.gB i&&aH (p.tn i 0) ai)&&aH (p.tn i 1) ai)&&aH (p.tn i 2) ai) _ (HM.pt 8 [0,1,2,3,4,5,6,7]) hnc om (x:=p.tn i 3) (k2:=p.oT+1+(8*i+4)) (o2:=(((p.gB i&&aH (p.tn i 0) ai)&&aH (p.tn i 1) ai)&&aH (p.tn i 2) ai)&&aH (p.tn i 3) ai) (Bg h (j:=8*i+3) om) (rfl) (rfl) (rfl))) fun aj6=>(Jp 1∘JO (h:=by exact fun HM=>zH 18446744073709551615 W _ g (p.oT+1+(8*i+4)) NA nc p.nums ((((p.gB i&&aH (p.tn i 0) ai)&&aH (p.tn i 1) ai)&&aH (p.tn i 2) ai)&&aH (p.tn i 3) ai) _ (HM.pt 8 [0,1,2,3,4,5,6,7]) hnc om (x:=p.tn i 4) (k2:=p.oT+1+(8*i+5)) (o2:=((((p.gB i&&aH (p.tn i 0) ai)&&aH (p.tn i 1) ai)&&aH (p.tn i 2) ai)&&aH (p.tn i 3) ai)&&aH (p.tn i 4) 18446744073709551615) (Bg h (j:=8*i+4) om) (rfl) (rfl))) fun aj7=>(Jy (v:= .agg #[vI (p.jd i),vI (aP (p.tn i 1)),vI (aP (p.tn i 2)),vI (aP (p.tn i 3)),vQ (p.tn i 4),.bool false,vQ 0,vW 0]) (h:=by exact Yl.build (vs:=[(0,vI (p.jd i)),(1,vI (aP (p.tn i 1))),(2,vI (aP (p.tn i 2))),(3,vI (aP (p.tn i 3))),(4,vQ (p.tn i 4))]) rfl kr kr)∘JA #[vI 0,vI 0,vI 0,vI 0,vQ 0,.bool false,vQ 0,vW 0]) fun w8 g8=>(JV fM bg) fun Td=>(aN∘Jq) fun a Z HM=>?_
  replace HM:Mem W _ (.blk g8 #[vI (p.jd i),vI (aP (p.tn i 1)),vI (aP (p.tn i 2)),vI (aP (p.tn i 3)),vQ (p.tn i 4),.bool false,vQ 0,vW 0] 222:: .blk g #[.slice (bS NA nc (p.oT+1+(8*i+5))) (p.nums.length- (p.oT+1+(8*i+5))) (nc- (p.oT+1+(8*i+5))),.bool (((((p.gB i&&aH (p.tn i 0) ai)&&aH (p.tn i 1) ai)&&aH (p.tn i 2) ai)&&aH (p.tn i 3) ai)&&aH (p.tn i 4) 18446744073709551615)] 287:: .row (.slice NA p.nums.length nc) p.nums.length (p.nums.map aK) 30 1:: .row (.slice At T.length ct) T.length (T.flatMap kT) 222 8:: .row (.slice Au U.length cu) U.length (U.map bR) 3 1:: .row (.slice Al C.length cl) C.length (C.map bR) 3 1:: .row (.slice Ag G.length cg) G.length (G.flatMap iD) 166 2:: .blk g3 #[vI (aP p.nx),vI p.cp,vQ p.cr,.slice Ag G.length cg,.slice Al C.length cl,.slice Au U.length cu,.slice At T.length ct,vN] 52:: .blk g2 #[vI 0,vI 0,vQ 0,vN,vN,vN,vN,vN] 52::fs):=HM
  refine Jb Z HM ((JG∘JP∘Jp 1∘JO (h:=by exact fun HM=>zH 1 W _ g (p.oT+1+(8*i+5)) NA nc p.nums (((((p.gB i&&aH (p.tn i 0) ai)&&aH (p.tn i 1) ai)&&aH (p.tn i 2) ai)&&aH (p.tn i 3) ai)&&aH (p.tn i 4) 18446744073709551615) _ (HM.pt 9 [1,2,0,3,4,5,6,7,8]) hnc om (x:=p.tn i 5) (k2:=p.oT+1+(8*i+6)) (o2:=(((((p.gB i&&aH (p.tn i 0) ai)&&aH (p.tn i 1) ai)&&aH (p.tn i 2) ai)&&aH (p.tn i 3) ai)&&aH (p.tn i 4) 18446744073709551615)&&aH (p.tn i 5) 1) (Bg h (j:=8*i+5) om) (rfl) (rfl))) fun aj8=>(Jp 1∘Jo (.bool (decide (p.tn i 5=1))) (by exact congrArg Value.bool (q5f _))∘Jp 1∘JO (h:=by exact fun HM=>zH 18446744073709551615 W _ g (p.oT+1+(8*i+6)) NA nc p.nums ((((((p.gB i&&aH (p.tn i 0) ai)&&aH (p.tn i 1) ai)&&aH (p.tn i 2) ai)&&aH (p.tn i 3) ai)&&aH (p.tn i 4) 18446744073709551615)&&aH (p.tn i 5) 1) _ (HM.pt 9 [0,1,2,3,4,5,6,7,8]) hnc om (x:=p.tn i 6) (k2:=p.oT+1+(8*i+7)) (o2:=((((((p.gB i&&aH (p.tn i 0) ai)&&aH (p.tn i 1) ai)&&aH (p.tn i 2) ai)&&aH (p.tn i 3) ai)&&aH (p.tn i 4) 18446744073709551615)&&aH (p.tn i 5) 1)&&aH (p.tn i 6) 18446744073709551615) (Bg h (j:=8*i+6) om) (rfl) (rfl))) fun aj9=>(Jp 1∘JO (h:=by exact fun HM=>zH 4294967295 W _ g (p.oT+1+(8*i+7)) NA nc p.nums (((((((p.gB i&&aH (p.tn i 0) ai)&&aH (p.tn i 1) ai)&&aH (p.tn i 2) ai)&&aH (p.tn i 3) ai)&&aH (p.tn i 4) 18446744073709551615)&&aH (p.tn i 5) 1)&&aH (p.tn i 6) 18446744073709551615) _ (HM.pt 9 [0,1,2,3,4,5,6,7,8]) hnc om (x:=p.tn i 7) (k2:=p.oT+1+8*(i+1)) (o2:=(((((((p.gB i&&aH (p.tn i 0) ai)&&aH (p.tn i 1) ai)&&aH (p.tn i 2) ai)&&aH (p.tn i 3) ai)&&aH (p.tn i 4) 18446744073709551615)&&aH (p.tn i 5) 1)&&aH (p.tn i 6) 18446744073709551615)&&aH (p.tn i 7) 4294967295) (Bg h (j:=8*i+7) om) om (rfl))) fun aka=>(Jv 1 [(118,vW (IntKind.u32.wrap (p.tn i 7:Int)))]∘Jo (vW ((p.tn i 7)%4294967296:Nat)) (by exact Wu (p.tn i 7))∘Jf 5∘JW fA yG) fun aaf=>(Jf 6∘JW fA Mw) fun Te=>(Jf 7∘JW fA Hu) fun Tf=>(jc∘Jq) fun a Z HM=>?_)
  replace HM:Mem W _ (.blk g #[.slice (bS NA nc (p.oT+1+8*(i+1))) (p.nums.length- (p.oT+1+8*(i+1))) (nc- (p.oT+1+8*(i+1))),.bool ((((((((p.gB i&&aH (p.tn i 0) ai)&&aH (p.tn i 1) ai)&&aH (p.tn i 2) ai)&&aH (p.tn i 3) ai)&&aH (p.tn i 4) 18446744073709551615)&&aH (p.tn i 5) 1)&&aH (p.tn i 6) 18446744073709551615)&&aH (p.tn i 7) 4294967295)] 287:: .row (.slice NA p.nums.length nc) p.nums.length (p.nums.map aK) 30 1:: .blk g8 #[vI (p.jd i),vI (aP (p.tn i 1)),vI (aP (p.tn i 2)),vI (aP (p.tn i 3)),vQ (p.tn i 4),.bool (decide (p.tn i 5=1)),vQ (p.tn i 6),vW ((p.tn i 7)%4294967296:Nat)] 222:: .row (.slice At T.length ct) T.length (T.flatMap kT) 222 8:: .row (.slice Au U.length cu) U.length (U.map bR) 3 1:: .row (.slice Al C.length cl) C.length (C.map bR) 3 1:: .row (.slice Ag G.length cg) G.length (G.flatMap iD) 166 2:: .blk g3 #[vI (aP p.nx),vI p.cp,vQ p.cr,.slice Ag G.length cg,.slice Al C.length cl,.slice Au U.length cu,.slice At T.length ct,vN] 52:: .blk g2 #[vI 0,vI 0,vQ 0,vN,vN,vN,vN,vN] 52::fs):=HM
  refine wp_seq ?_
  refine Jb Z HM ((Vs (.t (.t (.t (.f .n)))) [10]) fun akb=>(Vp [0,1]∘Vn 2∘Vf 3 5∘Vc 4 O6∘Vy 5 (v:= .agg #[vI (p.jd i),vI (aP (p.tn i 1)),vI (aP (p.tn i 2)),vI (aP (p.tn i 3)),vQ (p.tn i 4),.bool (decide (p.tn i 5=1)),vQ (p.tn i 6),vW ((p.tn i 7)%4294967296:Nat)]) (h:=by exact Yl.qm rfl rfl fM rfl (fun _ h=>qc (h.blk (i:=2) rfl)))) fun a Z HM HS=>?_)
  refine s_on Z 6 rfl (mh Z HM AZ [(0,.agg #[vI (p.jd i),vI (aP (p.tn i 1)),vI (aP (p.tn i 2)),vI (aP (p.tn i 3)),vQ (p.tn i 4),.bool (decide (p.tn i 5=1)),vQ (p.tn i 6),vW ((p.tn i 7)%4294967296:Nat)])] #[vI (p.jd i),vI (aP (p.tn i 1)),vI (aP (p.tn i 2)),vI (aP (p.tn i 3)),vQ (p.tn i 4),.bool (decide (p.tn i 5=1)),vQ (p.tn i 6),vW ((p.tn i 7)%4294967296:Nat)] ?_)
  clear Z HM;intro a akc akd Z HM
  refine aD (HM.pt 10 [1,2,3,5,6,7,8,9]) (fun HS=>?_)
  refine s_on Z 7 rfl (yw Z HM (i:=4) rfl AZ rfl rfl rfl (news:=([p.sF i].flatMap kT)) (HM.aZ (i:=0) (n:=1) (size:=8) rfl rfl) (q7e _) om om rfl de ?_)
  clear Z HM;intro a ake zI zJ Z HM vM
  refine aD (HM.pt 10 [1,2,3,5,6,7,8,9]) (fun HS=>?_)
  refine Vb Z HM HS ((Vn 8∘Vf 9 5) fun a Z HM HS=>?_)
  refine s_on Z 10 rfl (iN Z HM 8 fun Tg HM=>?_)
  refine jZ kr ?_
  refine qh kr ?_
  have mO:T.length+1=(T++[p.sF i]).length:=zx rfl
  replace HM:=HM.bu (i:=4) (ys:=(T++[p.sF i]).flatMap kT) rfl mO (by exact List.flatMap_append.symm)
  rw [mO] at vM
  replace Z:=Z.sp 129 (.slice zI ((T++[p.sF i]).length) zJ) rfl (by rw [mO])
  replace HM:=HM.cz (i:=8) (ds:= #[vI (aP p.nx),vI p.cp,vQ p.cr,.slice Ag G.length cg,.slice Al C.length cl,.slice Au U.length cu,.slice zI ((T++[p.sF i]).length) zJ,vN]) rfl (by rw [mO];try rfl)
  refine Jb Z HM ((JP∘Jp 2∘Jn∘Jg 1 O1∘Jp 1) (Ju (fun vO=>?_) fun vO=>?_))
  ·
   refine (Jp 3∘Jn∘Jf 1∘JW fJ fJ) fun DV=>(jc∘Jj∘JR∘Jp 1∘Jy (v:=vI (if (65535:Int)<(p.jd i:Int) then 65535 else p.jd i)) (h:=by exact Yl.min rfl rfl rfl)∘Jo (vI (p.qY (i+1))) (by exact rfl)∘Jp 1∘aN∘Jj∘JR∘dR 1∘Jp 1∘aT∘Jq) fun a Z HM=>?_
   replace HM:=HM.cz (i:=1) (ds:= #[.slice (bS NA nc (p.oT+1+8*(i+1))) (p.nums.length- (p.oT+1+8*(i+1))) (nc- (p.oT+1+8*(i+1))),.bool (p.gB (i+1))]) rfl (by rw [show p.gB (i+1)=(((((((((p.gB i&&aH (p.tn i 0) ai)&&aH (p.tn i 1) ai)&&aH (p.tn i 2) ai)&&aH (p.tn i 3) ai)&&aH (p.tn i 4) 18446744073709551615)&&aH (p.tn i 5) 1)&&aH (p.tn i 6) 18446744073709551615)&&aH (p.tn i 7) 4294967295)&&decide (p.jd i≤65535)) from rfl,vO];rfl)
   exact ⟨_,om,i+1,(T++[p.sF i]),zI,zJ,by omega,by rw [hT,yY],by rw [List.length_append,hTl];rfl,vM,rfl,Z.sub kr,HM.pt 10 [4,1,2,5,6,7,8,9]⟩
  refine (Jp 3∘Jn∘Jf 1∘JW fJ fJ) fun DV=>(jc∘Jj∘JR∘Jp 1∘Jy (v:=vI (if (65535:Int)<(p.jd i:Int) then 65535 else p.jd i)) (h:=by exact Yl.min rfl rfl rfl)∘Jo (vI (p.qY (i+1))) (by exact rfl)∘Jp 1∘aN∘Jj∘JR∘dR 1∘Jp 1∘aT∘Jq) fun a Z HM=>?_
  replace HM:=HM.cz (i:=1) (ds:= #[.slice (bS NA nc (p.oT+1+8*(i+1))) (p.nums.length- (p.oT+1+8*(i+1))) (nc- (p.oT+1+8*(i+1))),.bool (p.gB (i+1))]) rfl (by rw [show p.gB (i+1)=(((((((((p.gB i&&aH (p.tn i 0) ai)&&aH (p.tn i 1) ai)&&aH (p.tn i 2) ai)&&aH (p.tn i 3) ai)&&aH (p.tn i 4) 18446744073709551615)&&aH (p.tn i 5) 1)&&aH (p.tn i 6) 18446744073709551615)&&aH (p.tn i 7) 4294967295)&&decide (p.jd i≤65535)) from rfl,vO];rfl)
  exact ⟨_,om,i+1,(T++[p.sF i]),zI,zJ,by omega,by rw [hT,yY],by rw [List.length_append,hTl];rfl,vM,rfl,Z.sub kr,HM.pt 10 [4,1,2,5,6,7,8,9]⟩
 refine (JF∘JX∘JG∘JQ∘JP∘Jp 1∘Jn∘Jf 0∘Jg 2 O6∘Jl∘Jp 1∘Jq) fun a Z HM=>?_
 replace HM:=HM.cz (i:=1) (ds:= #[.slice (bS NA nc (p.oS+p.so 0 0)) (p.nums.length- (p.oS+p.so 0 0)) (nc- (p.oS+p.so 0 0)),.bool (p.ky 0)]) rfl (by rw [show i=p.tk by omega];rfl)
 replace HM:=HM.nil 129 1
 replace HM:=HM.yE 169 3
 replace HM:Mem W _ (.row (vN) 0 [] 129 1:: .row (.slice At T.length ct) T.length (T.flatMap kT) 222 8:: .blk g #[.slice (bS NA nc (p.oS+p.so 0 0)) (p.nums.length- (p.oS+p.so 0 0)) (nc- (p.oS+p.so 0 0)),.bool (p.ky 0)] 287:: .row (.slice NA p.nums.length nc) p.nums.length (p.nums.map aK) 30 1:: .row (.slice Au U.length cu) U.length (U.map bR) 3 1:: .row (.slice Al C.length cl) C.length (C.map bR) 3 1:: .row (.slice Ag G.length cg) G.length (G.flatMap iD) 166 2:: .blk g3 #[vI (aP p.nx),vI p.cp,vQ p.cr,.slice Ag G.length cg,.slice Al C.length cl,.slice Au U.length cu,.slice At T.length ct,vN] 52:: .blk g2 #[vI 0,vI 0,vQ 0,vN,vN,vN,vN,vN] 52::(fs++(sD 169 []))):=HM
 refine Jb Z HM ((JG∘JB) fun a Z HM=>?_)
 refine qj (fun mS aS wS=>∃(y:Nat) (z:List Rw) (As:Option Addr) (cs:Nat),(y≤G.length)∧(z.length=y)∧(z.map Rw.l=bi y p.row)∧(∀q∈z,q.l.length≤q.c)∧(z.length≤cs)∧mS=G.length-y∧Fr aS 191 [] [(152,vI y),(151,vI G.length),(96,.bool false),(95,vI i),(94,vI p.tk),(7,vI (p.qY i)),(80,.bool false),(79,vI u),(78,vI p.cp),(61,.bool false),(60,vI k),(59,vI p.cp),(31,.bool false),(30,vI j),(29,vI p.gp),(4,vP g3 1),(3,vP g3 0),(2,vP g2 0),(0,vP g 0)]∧Mem W wS (.row (.slice As z.length cs) z.length (z.map Rw.val) 129 1:: .row (.slice At T.length ct) T.length (T.flatMap kT) 222 8:: .blk g #[.slice (bS NA nc (p.oS+p.so y 0)) (p.nums.length- (p.oS+p.so y 0)) (nc- (p.oS+p.so y 0)),.bool (p.ky y)] 287:: .row (.slice NA p.nums.length nc) p.nums.length (p.nums.map aK) 30 1:: .row (.slice Au U.length cu) U.length (U.map bR) 3 1:: .row (.slice Al C.length cl) C.length (C.map bR) 3 1:: .row (.slice Ag G.length cg) G.length (G.flatMap iD) 166 2:: .blk g3 #[vI (aP p.nx),vI p.cp,vQ p.cr,.slice Ag G.length cg,.slice Al C.length cl,.slice Au U.length cu,.slice At T.length ct,.slice As z.length cs] 52:: .blk g2 #[vI 0,vI 0,vQ 0,vN,vN,vN,vN,vN] 52::(fs++(sD 169 z)))) (m:=G.length-0) ⟨0,[],none,0,Nat.zero_le _,rfl,rfl,(fun q h=>by cases h),Nat.le_refl _,rfl,Z.sub kr,HM.pt 9 [0,1,2,3,4,5,6,7,8]⟩ ?_
 clear Z HM;rintro mS a w_ ⟨y,z,As,cs,hy,hzl,hz,hzc,hcs,rfl,Z,HM⟩
 refine Jb Z HM ((JP∘Jp 1∘Jj∘JQ) (Ju (fun vT=>?_) fun vT=>?_))
 ·
  intro a Z HM
  have hd153:=of_decide_eq_true vT
  have hyg:y<p.gp:=by omega
  refine Jb Z HM ((JT∘aI∘JQ∘JB∘JP∘Jp 2∘aT∘Jr∘Jp 1∘Jq) fun a Z HM=>?_)
  replace HM:=HM.nil 169 3
  refine Jb Z HM ((JG∘JQ∘JP∘Jp 1∘Jn∘Jf 0∘Jg 0 O8∘Jp 1∘Jj∘JB) fun a Z HM=>?_)
  refine qj (fun mS aS wS=>∃(x:Nat) (R:List Sp) (Ar:Option Addr) (cr:Nat),(x≤p.cp)∧(R=bi x (p.pY y))∧(R.length=x)∧(R.length≤cr)∧mS=p.cp-x∧Fr aS 191 [] [(160,vI x),(159,vI p.cp),(10,.slice Ar R.length cr),(9,vI y),(153,.bool true),(152,vI y),(151,vI G.length),(96,.bool false),(95,vI i),(94,vI p.tk),(7,vI (p.qY i)),(80,.bool false),(79,vI u),(78,vI p.cp),(61,.bool false),(60,vI k),(59,vI p.cp),(31,.bool false),(30,vI j),(29,vI p.gp),(4,vP g3 1),(3,vP g3 0),(2,vP g2 0),(0,vP g 0)]∧Mem W wS (.row (.slice Ar R.length cr) R.length (R.flatMap kU) 169 3:: .row (.slice As z.length cs) z.length (z.map Rw.val) 129 1:: .row (.slice At T.length ct) T.length (T.flatMap kT) 222 8:: .blk g #[.slice (bS NA nc (p.oS+p.so y x)) (p.nums.length- (p.oS+p.so y x)) (nc- (p.oS+p.so y x)),.bool (p.jy (p.ky y) y x)] 287:: .row (.slice NA p.nums.length nc) p.nums.length (p.nums.map aK) 30 1:: .row (.slice Au U.length cu) U.length (U.map bR) 3 1:: .row (.slice Al C.length cl) C.length (C.map bR) 3 1:: .row (.slice Ag G.length cg) G.length (G.flatMap iD) 166 2:: .blk g3 #[vI (aP p.nx),vI p.cp,vQ p.cr,.slice Ag G.length cg,.slice Al C.length cl,.slice Au U.length cu,.slice At T.length ct,.slice As z.length cs] 52:: .blk g2 #[vI 0,vI 0,vQ 0,vN,vN,vN,vN,vN] 52::(fs++(sD 169 z)))) (m:=p.cp-0) ⟨0,[],none,0,Nat.zero_le _,rfl,rfl,Nat.le_refl _,rfl,Z.sub kr,HM.pt 10 [0,1,2,3,4,5,6,7,8,9]⟩ ?_
  clear Z HM;rintro mS a w_ ⟨x,R,Ar,cr,hx,hR,hRl,hRc,rfl,Z,HM⟩
  refine Jb Z HM ((JP∘Jp 1∘Jj∘JQ) (Ju (fun vU=>?_) fun vU=>?_))
  ·
   intro a Z HM
   have J8:=of_decide_eq_true vU
   have OH:x<p.cp:=by omega
   have hin:=I4 h hyg OH
   refine Jb Z HM ((JT∘aI∘JQ∘JB∘JP∘JA #[vQ 0,vW 0,vQ 0]) fun yM g11=>(Jj∘JQ∘JP∘Jp 2∘aT∘Jj) (Ju (fun vV=>?_) fun vV=>?_))
   ·
    intro a Z HM
    have J9:=of_decide_eq_true vV
    rw [if_neg om] at hin
    have hsp:p.pY y x=⟨p.sn y x 0,p.sn y x 1%4294967296,p.sn y x 2⟩:=if_neg om
    refine Jb Z HM ((JT∘JR∘Jp 1∘JO (h:=by exact fun HM=>zH 18446744073709551615 W _ g (p.oS+p.so y x) NA nc p.nums (p.jy (p.ky y) y x) _ (HM.pt 11 [4,5,0,1,2,3,6,7,8,9,10]) hnc om (x:=p.sn y x 0) (k2:=p.oS+(p.so y x+1)) (o2:=p.jy (p.ky y) y x&&aH (p.sn y x 0) 18446744073709551615) (Ns h (p.so y x)) (rfl) (rfl))) fun akg=>(Jp 1∘JO (h:=by exact fun HM=>zH 4294967295 W _ g (p.oS+(p.so y x+1)) NA nc p.nums (p.jy (p.ky y) y x&&aH (p.sn y x 0) 18446744073709551615) _ (HM.pt 11 [0,1,2,3,4,5,6,7,8,9,10]) hnc om (x:=p.sn y x 1) (k2:=p.oS+(p.so y x+2)) (o2:=(p.jy (p.ky y) y x&&aH (p.sn y x 0) 18446744073709551615)&&aH (p.sn y x 1) 4294967295) (Ns h (p.so y x+1)) (rfl) (rfl))) fun akh=>(Jv 1 [(168,vW (IntKind.u32.wrap (p.sn y x 1:Int)))]∘Jo (vW ((p.sn y x 1)%4294967296:Nat)) (by exact Wu (p.sn y x 1))∘Jf 0∘JW fA bg) fun aag=>(Jf 1∘JW fA fJ) fun aah=>(jc∘Jq) fun a Z HM=>?_)
    replace HM:Mem W _ (.blk g #[.slice (bS NA nc (p.oS+(p.so y x+2))) (p.nums.length- (p.oS+(p.so y x+2))) (nc- (p.oS+(p.so y x+2))),.bool ((p.jy (p.ky y) y x&&aH (p.sn y x 0) 18446744073709551615)&&aH (p.sn y x 1) 4294967295)] 287:: .row (.slice NA p.nums.length nc) p.nums.length (p.nums.map aK) 30 1:: .blk g11 #[vQ (p.sn y x 0),vW ((p.sn y x 1)%4294967296:Nat),vQ 0] 169:: .row (.slice Ar R.length cr) R.length (R.flatMap kU) 169 3:: .row (.slice As z.length cs) z.length (z.map Rw.val) 129 1:: .row (.slice At T.length ct) T.length (T.flatMap kT) 222 8:: .row (.slice Au U.length cu) U.length (U.map bR) 3 1:: .row (.slice Al C.length cl) C.length (C.map bR) 3 1:: .row (.slice Ag G.length cg) G.length (G.flatMap iD) 166 2:: .blk g3 #[vI (aP p.nx),vI p.cp,vQ p.cr,.slice Ag G.length cg,.slice Al C.length cl,.slice Au U.length cu,.slice At T.length ct,.slice As z.length cs] 52:: .blk g2 #[vI 0,vI 0,vQ 0,vN,vN,vN,vN,vN] 52::(fs++(sD 169 z))):=HM
    refine Jb Z HM ((JG∘JP∘Jp 1∘JO (h:=by exact fun HM=>zH 18446744073709551615 W _ g (p.oS+(p.so y x+2)) NA nc p.nums ((p.jy (p.ky y) y x&&aH (p.sn y x 0) 18446744073709551615)&&aH (p.sn y x 1) 4294967295) _ (HM.pt 11 [0,1,2,3,4,5,6,7,8,9,10]) hnc om (x:=p.sn y x 2) (k2:=p.oS+p.so y (x+1)) (o2:=p.jy (p.ky y) y (x+1)) (Ns h (p.so y x+2)) (by rw [J3 om];rfl) ((J5 om).symm))) fun Ti=>(Jf 2∘JW fA fA) fun Ka=>(ES∘Jq) fun a Z HM=>?_)
    replace HM:Mem W _ (.blk g #[.slice (bS NA nc (p.oS+p.so y (x+1))) (p.nums.length- (p.oS+p.so y (x+1))) (nc- (p.oS+p.so y (x+1))),.bool (p.jy (p.ky y) y (x+1))] 287:: .row (.slice NA p.nums.length nc) p.nums.length (p.nums.map aK) 30 1:: .blk g11 #[vQ (p.sn y x 0),vW ((p.sn y x 1)%4294967296:Nat),vQ (p.sn y x 2)] 169:: .row (.slice Ar R.length cr) R.length (R.flatMap kU) 169 3:: .row (.slice As z.length cs) z.length (z.map Rw.val) 129 1:: .row (.slice At T.length ct) T.length (T.flatMap kT) 222 8:: .row (.slice Au U.length cu) U.length (U.map bR) 3 1:: .row (.slice Al C.length cl) C.length (C.map bR) 3 1:: .row (.slice Ag G.length cg) G.length (G.flatMap iD) 166 2:: .blk g3 #[vI (aP p.nx),vI p.cp,vQ p.cr,.slice Ag G.length cg,.slice Al C.length cl,.slice Au U.length cu,.slice At T.length ct,.slice As z.length cs] 52:: .blk g2 #[vI 0,vI 0,vQ 0,vN,vN,vN,vN,vN] 52::(fs++(sD 169 z))):=HM
    refine Jb Z HM ((JG∘JR∘Jp 1∘Jy (v:= .agg #[vQ (p.sn y x 0),vW ((p.sn y x 1)%4294967296:Nat),vQ (p.sn y x 2)]) (h:=by exact Yl.qm rfl rfl lH rfl (fun _ h=>qc (h.blk (i:=2) rfl)))∘JU nL #[vQ (p.sn y x 0),vW ((p.sn y x 1)%4294967296:Nat),vQ (p.sn y x 2)]) fun Tj Tm=>(JD ([(⟨p.sn y x 0,p.sn y x 1%4294967296,p.sn y x 2⟩:Sp)].flatMap kU) 4 (fun _ _=>sW) nL (hr:=by exact fun HM=>HM.aZ (i:=0) (n:=1) (size:=3) rfl rfl) (h1:=by exact Y6 _)) fun Tn vX vY nW=>(Jp 1∘gW∘Jq) fun a Z HM=>?_)
    have iG:R.length+1=(R++[p.pY y x]).length:=zx rfl
    replace HM:=HM.bu (i:=4) (ys:=(R++[p.pY y x]).flatMap kU) rfl iG (by rw [hsp];exact List.flatMap_append.symm)
    rw [iG] at nW
    replace Z:=Z.sp 10 (.slice vX ((R++[p.pY y x]).length) vY) rfl (by rw [iG])
    refine Jb Z HM ((JG∘JR∘dR 1∘Jp 1∘aT∘Jq) fun a Z HM=>?_)
    exact ⟨_,om,x+1,(R++[p.pY y x]),vX,vY,by omega,by rw [hR,yY],by rw [List.length_append,hRl];rfl,nW,rfl,Z.sub kr,HM.pt 12 [4,5,6,1,2,7,8,9,10,11]⟩
   intro a Z HM
   have J9:=of_decide_eq_false vV
   rw [if_pos om] at hin
   have hsp:p.pY y x=⟨0,0,p.sn y x 0⟩:=if_pos om
   refine Jb Z HM ((JF∘aI∘JP∘Jp 1∘JO (h:=by exact fun HM=>zH 18446744073709551615 W _ g (p.oS+p.so y x) NA nc p.nums (p.jy (p.ky y) y x) _ (HM.pt 11 [4,5,0,1,2,3,6,7,8,9,10]) hnc om (x:=p.sn y x 0) (k2:=p.oS+p.so y (x+1)) (o2:=p.jy (p.ky y) y (x+1)) (Ns h (p.so y x)) (by rw [J2 om];rfl) ((J4 om).symm))) fun Ti=>(Jf 2∘JW fA fA) fun Ka=>(AA∘Jq) fun a Z HM=>?_)
   replace HM:Mem W _ (.blk g #[.slice (bS NA nc (p.oS+p.so y (x+1))) (p.nums.length- (p.oS+p.so y (x+1))) (nc- (p.oS+p.so y (x+1))),.bool (p.jy (p.ky y) y (x+1))] 287:: .row (.slice NA p.nums.length nc) p.nums.length (p.nums.map aK) 30 1:: .blk g11 #[vQ 0,vW 0,vQ (p.sn y x 0)] 169:: .row (.slice Ar R.length cr) R.length (R.flatMap kU) 169 3:: .row (.slice As z.length cs) z.length (z.map Rw.val) 129 1:: .row (.slice At T.length ct) T.length (T.flatMap kT) 222 8:: .row (.slice Au U.length cu) U.length (U.map bR) 3 1:: .row (.slice Al C.length cl) C.length (C.map bR) 3 1:: .row (.slice Ag G.length cg) G.length (G.flatMap iD) 166 2:: .blk g3 #[vI (aP p.nx),vI p.cp,vQ p.cr,.slice Ag G.length cg,.slice Al C.length cl,.slice Au U.length cu,.slice At T.length ct,.slice As z.length cs] 52:: .blk g2 #[vI 0,vI 0,vQ 0,vN,vN,vN,vN,vN] 52::(fs++(sD 169 z))):=HM
   refine Jb Z HM ((JG∘JR∘Jp 1∘Jy (v:= .agg #[vQ 0,vW 0,vQ (p.sn y x 0)]) (h:=by exact Yl.qm rfl rfl lH rfl (fun _ h=>qc (h.blk (i:=2) rfl)))∘JU nL #[vQ 0,vW 0,vQ (p.sn y x 0)]) fun Tj Tm=>(JD ([(⟨0,0,p.sn y x 0⟩:Sp)].flatMap kU) 4 (fun _ _=>sW) nL (hr:=by exact fun HM=>HM.aZ (i:=0) (n:=1) (size:=3) rfl rfl) (h1:=by exact Y6 _)) fun Tn vX vY nW=>(Jp 1∘gW∘Jq) fun a Z HM=>?_)
   have iG:R.length+1=(R++[p.pY y x]).length:=zx rfl
   replace HM:=HM.bu (i:=4) (ys:=(R++[p.pY y x]).flatMap kU) rfl iG (by rw [hsp];exact List.flatMap_append.symm)
   rw [iG] at nW
   replace Z:=Z.sp 10 (.slice vX ((R++[p.pY y x]).length) vY) rfl (by rw [iG])
   refine Jb Z HM ((JG∘JR∘dR 1∘Jp 1∘aT∘Jq) fun a Z HM=>?_)
   exact ⟨_,om,x+1,(R++[p.pY y x]),vX,vY,by omega,by rw [hR,yY],by rw [List.length_append,hRl];rfl,nW,rfl,Z.sub kr,HM.pt 12 [4,5,6,1,2,7,8,9,10,11]⟩
  intro a Z HM
  have J8:=of_decide_eq_false vU
  refine Jb Z HM ((JF∘JX∘JG∘JR∘Jp 2∘Jn∘Jg 6 O8∘Jp 1∘JU uM #[.slice Ar R.length cr]) fun aki akj=>(JD ([(⟨Ar,cr,R⟩:Rw)].map Rw.val) 2 (fun _ _=>fA) uM (hr:=by exact fun HM=>HM.aZ (i:=0) (n:=1) (size:=1) rfl rfl) (h1:=by exact q7f _)) fun akk nX nY Bu=>(Jn∘Jf 6∘JW O9' Hu) fun Tp=>(jc∘Jq) fun a Z HM=>?_)
  have qA:z.length+1=(z++[(⟨Ar,cr,R⟩:Rw)]).length:=zx rfl
  replace HM:=HM.bu (i:=2) (ys:=(z++[(⟨Ar,cr,R⟩:Rw)]).map Rw.val) rfl qA (by exact List.map_append.symm)
  rw [qA] at Bu
  replace HM:=HM.cz (i:=9) (ds:= #[vI (aP p.nx),vI p.cp,vQ p.cr,.slice Ag G.length cg,.slice Al C.length cl,.slice Au U.length cu,.slice At T.length ct,.slice nX ((z++[(⟨Ar,cr,R⟩:Rw)]).length) nY]) rfl (by rw [qA];try rfl)
  replace HM:=HM.pt (fs':=(.row (.slice Ar R.length cr) R.length (R.flatMap kU) 169 3:: .row (.slice nX ((z++[(⟨Ar,cr,R⟩:Rw)]).length) nY) ((z++[(⟨Ar,cr,R⟩:Rw)]).length) ((z++[(⟨Ar,cr,R⟩:Rw)]).map Rw.val) 129 1:: .row (.slice At T.length ct) T.length (T.flatMap kT) 222 8:: .blk g #[.slice (bS NA nc (p.oS+p.so y x)) (p.nums.length- (p.oS+p.so y x)) (nc- (p.oS+p.so y x)),.bool (p.jy (p.ky y) y x)] 287:: .row (.slice NA p.nums.length nc) p.nums.length (p.nums.map aK) 30 1:: .row (.slice Au U.length cu) U.length (U.map bR) 3 1:: .row (.slice Al C.length cl) C.length (C.map bR) 3 1:: .row (.slice Ag G.length cg) G.length (G.flatMap iD) 166 2:: .blk g3 #[vI (aP p.nx),vI p.cp,vQ p.cr,.slice Ag G.length cg,.slice Al C.length cl,.slice Au U.length cu,.slice At T.length ct,.slice nX ((z++[(⟨Ar,cr,R⟩:Rw)]).length) nY] 52:: .blk g2 #[vI 0,vI 0,vQ 0,vN,vN,vN,vN,vN] 52::(fs++(sD 169 z)))) 11 [1,2,3,4,5,6,7,8,9,10]
  replace HM:=Mem.RV (fs:=(.row (.slice nX ((z++[(⟨Ar,cr,R⟩:Rw)]).length) nY) ((z++[(⟨Ar,cr,R⟩:Rw)]).length) ((z++[(⟨Ar,cr,R⟩:Rw)]).map Rw.val) 129 1:: .row (.slice At T.length ct) T.length (T.flatMap kT) 222 8:: .blk g #[.slice (bS NA nc (p.oS+p.so y x)) (p.nums.length- (p.oS+p.so y x)) (nc- (p.oS+p.so y x)),.bool (p.jy (p.ky y) y x)] 287:: .row (.slice NA p.nums.length nc) p.nums.length (p.nums.map aK) 30 1:: .row (.slice Au U.length cu) U.length (U.map bR) 3 1:: .row (.slice Al C.length cl) C.length (C.map bR) 3 1:: .row (.slice Ag G.length cg) G.length (G.flatMap iD) 166 2:: .blk g3 #[vI (aP p.nx),vI p.cp,vQ p.cr,.slice Ag G.length cg,.slice Al C.length cl,.slice Au U.length cu,.slice At T.length ct,.slice nX ((z++[(⟨Ar,cr,R⟩:Rw)]).length) nY] 52:: .blk g2 #[vI 0,vI 0,vQ 0,vN,vN,vN,vN,vN] 52::fs)) HM
  replace HM:Mem W _ (.row (.slice nX ((z++[(⟨Ar,cr,R⟩:Rw)]).length) nY) ((z++[(⟨Ar,cr,R⟩:Rw)]).length) ((z++[(⟨Ar,cr,R⟩:Rw)]).map Rw.val) 129 1:: .row (.slice At T.length ct) T.length (T.flatMap kT) 222 8:: .blk g #[.slice (bS NA nc (p.oS+p.so y x)) (p.nums.length- (p.oS+p.so y x)) (nc- (p.oS+p.so y x)),.bool (p.jy (p.ky y) y x)] 287:: .row (.slice NA p.nums.length nc) p.nums.length (p.nums.map aK) 30 1:: .row (.slice Au U.length cu) U.length (U.map bR) 3 1:: .row (.slice Al C.length cl) C.length (C.map bR) 3 1:: .row (.slice Ag G.length cg) G.length (G.flatMap iD) 166 2:: .blk g3 #[vI (aP p.nx),vI p.cp,vQ p.cr,.slice Ag G.length cg,.slice Al C.length cl,.slice Au U.length cu,.slice At T.length ct,.slice nX ((z++[(⟨Ar,cr,R⟩:Rw)]).length) nY] 52:: .blk g2 #[vI 0,vI 0,vQ 0,vN,vN,vN,vN,vN] 52::(fs++(sD 169 (z++[(⟨Ar,cr,R⟩:Rw)])))):=HM
  refine Jb Z HM ((JG∘JR∘dR 1∘Jp 1∘gW∘Jq) fun a Z HM=>?_)
  replace HM:=HM.cz (i:=2) (ds:= #[.slice (bS NA nc (p.oS+p.so (y+1) 0)) (p.nums.length- (p.oS+p.so (y+1) 0)) (nc- (p.oS+p.so (y+1) 0)),.bool (p.ky (y+1))]) rfl (by rw [Nt,show x=p.cp by omega];rfl)
  exact ⟨_,om,y+1,(z++[(⟨Ar,cr,R⟩:Rw)]),nX,nY,by omega,by rw [List.length_append,hzl];rfl,by rw [List.map_append,hz,yY,hR,show x=p.cp by omega];rfl,fun q h=>(List.mem_append.1 h).elim (hzc q) (fun h=>by rw [List.mem_singleton] at h;subst h;exact hRc),Bu,rfl,Z.sub kr,HM.pt 9 [0,1,2,3,4,5,6,7,8]⟩
 intro a Z HM
 have hd153:=of_decide_eq_false vT
 have e0:y=p.gp:=by omega
 have e1:bi p.gp p.dZ=G:=by rw [hG,show j=p.gp by omega]
 have e2:p.cl.map aP=C:=by rw [hC,show k=p.cp by omega];exact (Zi h.cl aP).symm
 have e3:p.cu.map aP=U:=by rw [hU,show u=p.cp by omega];exact (Zi h.cu aP).symm
 have e4:bi p.tk p.sF=T:=by rw [hT,show i=p.tk by omega]
 have e5:(bi p.gp fun g=>(⟨none,0,p.row g⟩:Rw)).map Rw.l=z.map Rw.l:=by rw [hz,e0];exact q0u _ _ _
 refine Jb Z HM ((JF∘JX∘JG∘JP∘Jy (v:= .agg #[vI (aP p.nx),vI p.cp,vQ p.cr,.slice Ag G.length cg,.slice Al C.length cl,.slice Au U.length cu,.slice At T.length ct,.slice As z.length cs]) (h:=by exact Yl.qm rfl rfl zr rfl (fun _ h=>qc (h.blk (i:=7) rfl)))∘JV zr Xe) fun aai=>(xA∘Jq) fun a Z HM=>?_)
 replace HM:=HM.cz (i:=2) (ds:= #[.slice (bS NA nc (p.oS+p.so p.gp 0)) (p.nums.length- (p.oS+p.so p.gp 0)) (nc- (p.oS+p.so p.gp 0)),.bool p.okB]) rfl (by rw [e0];try rfl)
 refine Jb Z HM ((JG∘JZ) fun a Z HM=>?_)
 exact uy rfl Z (.cellS (i:=8) Z HM rfl rfl zr rfl) (⟨(⟨aP p.nx,⟨(p.cp:Int),p.cr,Ag,cg,G,Al,cl,C,Au,cu,U,At,ct,T,As,cs,z⟩⟩:bT),_,_,_,rfl,vw rfl ⟨⟨rfl,rfl,e1⟩,e2,e3,e4,e5⟩,⟨hGc,hCc,hUc,hTc,hcs,hzc⟩,Mem.q8i (HM.pt 9 [2,6,5,4,1,0])⟩)
end Go.Proofs.YtieeckeaijdaeaaGreatDoor
