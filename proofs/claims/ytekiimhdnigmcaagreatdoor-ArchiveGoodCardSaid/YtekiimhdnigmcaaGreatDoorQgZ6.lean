/- Parts. -/
import Derived.Test.YtekiimhdnigmcaaGreatDoorQgZ5
set_option linter.all false
set_option maxRecDepth 100000
set_option maxHeartbeats 4000000
namespace Go.Proofs.YtekiimhdnigmcaaGreatDoor
open Go.RowKit
open Go renaming World→ajg,Value→ajh,TypeId→ajj,Ending→ajk
open List renaming length→abr
open _root_.Go.Proofs.Tryz renaming prog→abt,func278→ahC
open _root_.List renaming length_append→abu,getElem?_eq_getElem→abv,getD_eq_getElem?_getD→abw,append_assoc→aby,length_map→abz,length_take→abA,length_drop→abE,getElem?_eq_some_iff→abF,take_of_length_le→abM,append_nil→abN,flatMap_cons→abO,mem_of_mem_drop→abQ,length_cons→abS,map_append→abW,mem_cons→abX,flatMap_append→abZ,take_append_drop→ab1,mem_cons_of_mem→ab5,mem_map→ab7,mem_append→acg,mem_cons_self→aci,getElem_of_mem→acn,mem_of_mem_take→aco,drop_of_length_le→acu,drop_eq_getElem_cons→acv,range→acw,not_mem_nil→acA,perm_append_comm→acG,drop_drop→acH,getElem?_map→acQ,mem_flatMap→acT,nil_append→acX,length→acY,mem_map_of_mem→ac1,take_length→adb,append_inj→adh,mem_append_right→adi,getElem?_set_self→adk,getElem?_drop→adn,take_add_one→adx,drop_eq_nil_of_le→adG,take_left→adP,map_congr_left→adQ,getElem?_append_right→adR,mem_append_left→adS,getElem?_append_left→adU,flatMap_nil→ad7,drop_left'→aed,mem_range→aei,cons_append→aeu,map_map→aew,sublist_append_right→aeH,map→afe,drop_left→afP,getElem?_take_of_lt→af8,drop_zero→ags,flatMap_map→ag4,range_succ→ag9,take_zero→ahg,take_take→ahj
open Nat renaming le_refl→abx,zero_le→abC,lt_or_ge→ab0,zero_add→ab9,eq_zero_or_pos→ach,le_of_ble_eq_true→acI,add_sub_cancel_left→acM,add_zero→acN,le_trans→adg,add_sub_cancel→adt,le_add_right→adC,mod_lt→adJ,lt_of_succ_lt_succ→adZ,sub_self→ad5,sub_zero→ae3,mul_succ→ae6,add_assoc→afb,succ_lt_succ→afN,mul_le_mul_left→agJ,succ_ne_zero→ahc,not_lt_zero→ahm,succ_pos→ahH
open Bool renaming and_eq_true→abH,true_and→acj,or_eq_true→adD,and_assoc→aeo
open Value renaming int→abT,oneCell'→abV,pointer→ahn
open Hb renaming b→ac2
open List.Perm renaming append_left→adw,append_right→aey
open Classical renaming not_not→ady
open Go.IntKind renaming wrap_i64→aeL
open Decidable renaming of_not_not→af6
open Eq renaming trans→agK
open List.Sublist renaming append_left→ahw,cons₂→ahN
variable {l q xs b:List Nat} {k m c hi er e n B x i j g:Nat} {W w w':ajg} {r:ajk} {A E:ajq} {fs:List ajr} {s:dG} {z:ajh}
structure gJ where
 x:Sb
 A:ajq
 c:Nat
def gJ.zero:gJ:=⟨⟨false,0,0,⟨0,0⟩,[]⟩,none,0⟩
def zO (h:gJ):List ajh:=(h.x.cells h.A h.c).toList
def qyt (h:gJ):abr (zO h)=6:=rfl
structure qP (W:ajg) (h:gJ):Prop where
 ok:h.x.Ok
 hc:abr h.x.l<=h.c
 hm:abr h.x.l<=9223372036854775807
 rd:Rd W W.heap.size 11 h.A (abr h.x.l) (h.x.l.flatMap tu)
def zo8:EI abt 102 113 (.agg (gJ.zero.x.cells none 0)) 6 48:=⟨by kernel_rfl,by kernel_rfl,rfl,by omega⟩
def sI (l:List gJ):List Bk:=l.map λh=>h.x.made
def q14 {l:List gJ} (h:k<abr l):sI (l.take (k+1))=sI (l.take k)++[(l.getD k gJ.zero).x.made]:=by
 unfold sI
 rw [yM gJ.zero h,abW]
 rfl
def qol {l:List gJ} (h:∀x∈l,qP W x):∀b∈sI l,b.Ok/\b.err=0:=λb a=>by
 unfold sI at a
 obtain ⟨x,c,rfl⟩:=ab7.1 a
 have:=qs8 (h x c).ok
 exact ⟨this.1,this.2.1⟩
def q63 {l:List gJ} (h:∀x∈l,qP W x):∀b∈sI l,abr b.evs<=1000000:=λb a=>by
 unfold sI at a
 obtain ⟨x,c,rfl⟩:=ab7.1 a
 have:=(qs8 (h x c).ok).2.2
 omega
def qs9 (l:List gJ):abr (sI l)=abr l:=by unfold sI;rw [abz]
theorem Bj {q:List Hb} {bs:List Bk} (a:q.map ac2=bs) {p:Bk->Prop} (h:∀b∈bs,p b):∀x∈q,p x.b:=λx c=>h x.b (by rw [<-a];exact ac1 c)
def zk1 (q:List Hb):∀v∈q.flatMap hbL,v.oneCell'=true:=by
 intro v a
 obtain ⟨x,_,b⟩:=acT.1 a
 exact uM _ _ _ v b
section
open Go.ChangeShapes Go.WideShapes Go.ChangeAt
section
variable {H:Type} {enc:ajj×ajh->H} {W:ajg} {b0:Nat} {v:ajh} {d:DataW H} {p:List MemPlace}
def zd7:Tryz.prog.underlying 4=some .bool:=by kernel_rfl
def q15:Tryz.prog.cellsOf 4=1:=by kernel_rfl
def Ie:fieldAt abt 113 0 0 4=true:=by kernel_rfl
def Ig:fieldAt abt 113 1 1 5=true:=by kernel_rfl
def Ih:fieldAt abt 113 2 2 61=true:=by kernel_rfl
def Ii:fieldAt abt 113 3 3 110=true:=by kernel_rfl
def Ij:fieldAt abt 113 4 5 111=true:=by kernel_rfl
def qyu:Tryz.prog.cellsOf 113=6:=by kernel_rfl
def zk2:Tryz.prog.underlying 102=some (.slice 113):=by kernel_rfl
set_option maxRecDepth 100000 in
theorem zd8 {r:List ajh} {y:DataW H×List MemPlace} (f:DataW.trod enc Tryz.prog W 0 (λ_=>true) true m 113 r=some y):∃x:gJ,zO x=r/\qP W x:=by
 obtain ⟨g,_,K,g0⟩:=q9 Ie f
 obtain ⟨_,_,L,g1⟩:=q9 Ig f
 obtain ⟨_,_,M,k⟩:=q9 Ih f
 obtain ⟨_,_,N,n⟩:=q9 Ii f
 obtain ⟨_,_,O,o⟩:=q9 Ij f
 rw [qyu] at g
 obtain ⟨e,h,_⟩:=DataW.trod_bool zd7 g0
 obtain ⟨cpu,e1,_,q⟩:=DataW.trod_int EF g1
 obtain ⟨i,e2,u⟩:=Z8 k
 obtain ⟨_,j⟩:=Qd q42 n
 obtain ⟨s,a,ws⟩:=j 0 .i64 rfl
 obtain ⟨t,b,w⟩:=j 1 .i64 rfl
 obtain ⟨A,c,l,e4,z,B,C,D⟩:=zd4 o
 rw [q15] at h
 rw [zch] at e1
 rw [Z7] at e2
 rw [q6x] at e4
 have E:=vT h
 have F:=vT e1
 have G:=vT e2.symm
 have I:=vT e4
 rw [q1b,List.getElem?_take,List.getElem?_drop] at a b
 simp only [Nat.reduceLT,if_true] at a b
 have J:=je q
 refine ⟨⟨⟨e,cpu.toNat,i,⟨s,t⟩,l⟩,A,c⟩,?_,⟨⟨by show cpu.toNat<256;omega,u,⟨XA ws,XA w⟩,C⟩,z,by unfold maxLen at B;show l.length<=_;omega,D⟩⟩
 refine ((zkx g E F G a b I).trans ?_).symm
 show _=[Value.bool e,.int .u8 ((cpu.toNat:Nat):Int),.int .u32 (i:Int),.int .i64 s,.int .i64 t,.slice A l.length c]
 rw [Int.toNat_of_nonneg J.1]
 rfl
end
end
structure Pr where
 nx:Nat
 cp:Nat
 cr:Nat
 gp:Nat
 gs:List Nat
 cl:List Nat
 cu:List Nat
 tk:Nat
 ts:List Nat
 sp:List Nat
 e1:Nat
 e2:Nat
 e3:Nat
 e4:Nat
 e5:Nat
 e6:Nat
 e7:Nat
section
variable {α:Type} {b:List Nat} {a x n u:Nat} {xs:List Nat}
def oF (b:List Nat) (a:Nat) (k:Nat->Nat->Except Nat α):Except Nat α:=if (aD (b.drop a)).2.2≠0 then .error 344 else k (aD (b.drop a)).1 (a+(aD (b.drop a)).2.1)
def mP (b:List Nat) (n a:Nat) (k:List Nat->Nat->Except Nat α):Except Nat α:=if (aV n (b.drop a)).2.2≠0 then .error 344 else k (aV n (b.drop a)).1 (a+(aV n (b.drop a)).2.1)
def cnt1 (b:List Nat) (a c hi:Nat) (k:Nat->Nat->Except Nat α):Except Nat α:=oF b a λx e=>if x<c\/hi<x then .error 345 else k x e
theorem Uw {k:Nat->Nat->Except Nat α} (h:aD (b.drop a)=(x,n,0)):oF b a k=k x (a+n):=by unfold oF;rw [h];rfl
def OB {k:Nat->Nat->Except Nat α} (h:(aD (b.drop a)).2.2≠0):oF b a k= .error 344:=if_pos h
def zml {k:List Nat->Nat->Except Nat α} (h:aV n (b.drop a)=(xs,u,0)):mP b n a k=k xs (a+u):=by unfold mP;rw [h];rfl
def FM {k:List Nat->Nat->Except Nat α} (h:(aV n (b.drop a)).2.2≠0):mP b n a k= .error 344:=if_pos h
def zmm {k:Nat->Nat->Except Nat α} (h:aD (b.drop a)=(x,n,0)) (d:¬(x<c\/hi<x)):cnt1 b a c hi k=k x (a+n):=by unfold cnt1;rw [Uw h,if_neg d]
def zfx {k:Nat->Nat->Except Nat α} (h:aD (b.drop a)=(x,n,0)) (d:x<c\/hi<x):cnt1 b a c hi k= .error 345:=by unfold cnt1;rw [Uw h,if_pos d]
def OC {k:Nat->Nat->Except Nat α} {c hi:Nat} (h:(aD (b.drop a)).2.2≠0):cnt1 b a c hi k= .error 344:=OB h
theorem zfy (b:List Nat) (a:Nat):(aD (b.drop a)).2.2≠0\/∃x n,aD (b.drop a)=(x,n,0):=by grind
theorem zfz (b:List Nat) (k a:Nat):(aV k (b.drop a)).2.2≠0\/∃xs u,aV k (b.drop a)=(xs,u,0):=by grind
theorem qzz (c:a<=abr b) (h:aD (b.drop a)=(x,n,0)):0<n/\a+n<=abr b:=by grind [yu,Xx]
def zf0 (d:a<=abr b) (h:aV n (b.drop a)=(xs,u,0)):abr xs=n/\n<=u/\a+u<=abr b:=by
 have c:=zfw _ _ _ _ h
 rw [abE] at c
 omega
def q9r (h:aD l=(x,n,er)) (c:(er:Int)≠0):(aD l).2.2≠0:=by rw [h];show er≠0;omega
theorem q9s (c:∀z∈b,z<256) (h:aD (b.drop a)=(x,n,0)):x<18446744073709551616:=by grind [Ga]
end
def bN (b:List Nat) (p x e:Nat):Prop:=aD (b.drop p)=(x,e-p,0)/\p<=e
def zx (b:List Nat) (n p:Nat) (xs:List Nat) (e:Nat):Prop:=aV n (b.drop p)=(xs,e-p,0)/\p<=e
section
variable {α:Type} {b:List Nat} {p x e n:Nat} {xs:List Nat}
def bN.eq (h:bN b p x e):p+(e-p)=e:=by have:=h.2;omega
def zx.eq (h:zx b n p xs e):p+(e-p)=e:=by have:=h.2;omega
def bN.of (h:aD (b.drop p)=(x,m,0)):bN b p x (p+m):=⟨by rw [h,acM],by omega⟩
def zx.of (h:aV n (b.drop p)=(xs,m,0)):zx b n p xs (p+m):=⟨by rw [h,acM],by omega⟩
theorem FN (b:List Nat) (p:Nat):(aD (b.drop p)).2.2≠0\/∃x e,bN b p x e:=by
 rcases zfy b p with h|⟨x,n,h⟩
 ·exact .inl h
 ·exact .inr ⟨x,_,.of h⟩
def FP (b:List Nat) (n p:Nat):(aV n (b.drop p)).2.2≠0\/∃xs e,zx b n p xs e:=by
 rcases zfz b n p with h|⟨xs,u,h⟩
 ·exact .inl h
 ·exact .inr ⟨xs,_,.of h⟩
def bN.go1 {k:Nat->Nat->Except Nat α} (h:bN b p x e):oF b p k=k x e:=by rw [Uw h.1,h.eq]
def zx.goK {k:List Nat->Nat->Except Nat α} (h:zx b n p xs e):mP b n p k=k xs e:=by rw [zml h.1,h.eq]
def bN.goC {k:Nat->Nat->Except Nat α} (h:bN b p x e) (d:¬(x<c\/hi<x)):cnt1 b p c hi k=k x e:=by rw [zmm h.1 d,h.eq]
def bN.bad {k:Nat->Nat->Except Nat α} (h:bN b p x e) (d:x<c\/hi<x):cnt1 b p c hi k= .error 345:=zfx h.1 d
def bN.in (h:bN b p x e) (c:p<=abr b):p<e/\e<=abr b:=by have:=qzz c h.1;have:=h.2;omega
def zx.in (h:zx b n p xs e) (c:p<=abr b):abr xs=n/\p+n<=e/\e<=abr b:=by have:=zf0 c h.1;have:=h.2;omega
theorem bN.lt (h:bN b p x e) (c:∀z∈b,z<256):x<18446744073709551616:=q9s c h.1
def bN.one {e2:Nat} (h:bN b p x e) (f:bN b p c e2):c=x/\e2=e:=by
 have d:=h.1.symm.trans f.1
 injection d with d g
 injection g with g
 have:=h.2
 have:=f.2
 exact ⟨d.symm,by omega⟩
def zx.one {R:List Nat} {e2:Nat} (h:zx b n p xs e) (d:zx b n p R e2):R=xs/\e2=e:=by
 have c:=h.1.symm.trans d.1
 injection c with c f
 injection f with f
 have:=h.2
 have:=d.2
 exact ⟨c.symm,by omega⟩
theorem zx.nil (b:List Nat) (p:Nat):zx b 0 p [] p:=⟨by rw [ad5];rfl,abx _⟩
def zx.snoc {y f:Nat} (h:zx b n p xs e) (c:bN b e y f):zx b (n+1) p (xs++[y]) f:=by
 have d:=h.2
 have g:=c.2
 have:=qo7 n _ xs (e-p) y (f-e) h.1 (by rw [acH,h.eq];exact c.1)
 exact ⟨by rw [this];congr 2;omega,by omega⟩
theorem zx.stuck (h:zx b n p xs e) (d:n<m) (c:(aD (b.drop e)).2.2≠0):(aV m (b.drop p)).2.2≠0:=by
 have:=qw8 n (m- (n+1)) _ xs (e-p) h.1 (by rw [acH,h.eq];exact c)
 grind
end
def rA {x p e:Nat} (h:abr q<=p) (c:p<e):abr (q++[x])<=e:=by rw [abu];show abr q+1<=e;omega
def rC {p:Nat} (h:abr q<=p) (c:abr xs=n) (d:p+n<=e):abr (q++xs)<=e:=by rw [abu];omega
theorem OD (b:List Nat) (p c hi:Nat):(aD (b.drop p)).2.2≠0\/(∃x e,bN b p x e/\(x<c\/hi<x))\/∃x e,bN b p x e/\¬(x<c\/hi<x):=by grind [FN]
def quf (h:m*n<=9223372036854775807):abT .i64 (Go.IntKind.i64.wrap ((m:Int)*(n:Int)))= .int .i64 ((m*n:Nat):Int):=by
 rw [<-Int.natCast_mul]
 exact q7 rfl h
def lY (l:List j4):Nat:=(l.getD (abr l-1) j4.zero).to
def zf1 {l:List j4} (h:abr l=0):lY l=0:=by rw [List.length_eq_zero_iff] at h;subst h;rfl
def xA (b:List Nat) (nx:Nat) (e1:Nat) (cp:Nat) (c:Nat) (cr:Nat) (d:Nat) (gp:Nat) (e2:Nat) (gs:List Nat) (e3:Nat) (cl:List Nat) (e4:Nat) (cu:List Nat) (e5:Nat) (tk:Nat) (f:Nat) (ts:List Nat) (e6:Nat) (sp:List Nat) (e7:Nat):Except Nat Pr:=if e7≠abr b then .error 346 else .ok ⟨nx,cp,cr,gp,gs,cl,cu,tk,ts,sp,e1,e2,e3,e4,e5,e6,e7⟩
def Ux (b:List Nat) (nx:Nat) (e1:Nat) (cp:Nat) (c:Nat) (cr:Nat) (d:Nat) (gp:Nat) (e2:Nat) (gs:List Nat) (e3:Nat) (cl:List Nat) (e4:Nat) (cu:List Nat) (e5:Nat) (tk:Nat) (f:Nat) (ts:List Nat) (e6:Nat):Except Nat Pr:=mP b (cp+3*cp*(gp-1)) e6 (xA b nx e1 cp c cr d gp e2 gs e3 cl e4 cu e5 tk f ts e6)
def Uy (b:List Nat) (nx:Nat) (e1:Nat) (cp:Nat) (d:Nat) (cr:Nat) (f:Nat) (gp:Nat) (e2:Nat) (gs:List Nat) (e3:Nat) (cl:List Nat) (e4:Nat) (cu:List Nat) (e5:Nat) (tk:Nat) (c:Nat):Except Nat Pr:=mP b (8*tk) c (Ux b nx e1 cp d cr f gp e2 gs e3 cl e4 cu e5 tk c)
def Uz (b:List Nat) (nx:Nat) (e1:Nat) (cp:Nat) (c:Nat) (cr:Nat) (d:Nat) (gp:Nat) (e2:Nat) (gs:List Nat) (e3:Nat) (cl:List Nat) (e4:Nat) (cu:List Nat) (e5:Nat):Except Nat Pr:=cnt1 b e5 0 65535 (Uy b nx e1 cp c cr d gp e2 gs e3 cl e4 cu e5)
def UA (b:List Nat) (nx:Nat) (e1:Nat) (cp:Nat) (c:Nat) (cr:Nat) (d:Nat) (gp:Nat) (e2:Nat) (gs:List Nat) (e3:Nat) (cl:List Nat) (e4:Nat):Except Nat Pr:=mP b cp e4 (Uz b nx e1 cp c cr d gp e2 gs e3 cl e4)
def UC (b:List Nat) (nx:Nat) (e1:Nat) (cp:Nat) (c:Nat) (cr:Nat) (d:Nat) (gp:Nat) (e2:Nat) (gs:List Nat) (e3:Nat):Except Nat Pr:=mP b cp e3 (UA b nx e1 cp c cr d gp e2 gs e3)
def UD (b:List Nat) (nx:Nat) (e1:Nat) (cp:Nat) (c:Nat) (cr:Nat) (d:Nat) (gp:Nat) (e2:Nat):Except Nat Pr:=mP b (2*(gp-1)) e2 (UC b nx e1 cp c cr d gp e2)
def UE (b:List Nat) (nx:Nat) (e1:Nat) (cp:Nat) (d:Nat) (cr:Nat) (c:Nat):Except Nat Pr:=cnt1 b c 1 256 (UD b nx e1 cp d cr c)
def UF (b:List Nat) (nx:Nat) (e1:Nat) (cp:Nat) (c:Nat):Except Nat Pr:=oF b c (UE b nx e1 cp c)
def UG (b:List Nat) (nx:Nat) (e1:Nat):Except Nat Pr:=cnt1 b e1 1 64 (UF b nx e1)
def tO (b:List Nat):Except Nat Pr:=oF b 3 (UG b)
def Pr.nums (p:Pr):List Nat:=[p.nx,p.cp,p.cr,p.gp]++p.gs++p.cl++p.cu++[p.tk]++p.ts++p.sp
def Pr.secs (p:Pr):List j4:=[qh,⟨qb 0,3,p.e1⟩,⟨qb 1,p.e1,p.e2⟩,⟨qb 2,p.e2,p.e3⟩,⟨qb 3,p.e3,p.e4⟩,⟨qb 4,p.e4,p.e5⟩,⟨qb 5,p.e5,p.e6⟩,⟨qb 6,p.e6,p.e7⟩,⟨⟨#[115,117,109]⟩,p.e7,p.e7+4⟩]
section
variable {α:Type} {b:List Nat} {a n:Nat} {er:Nat}
theorem UH {k:Nat->Nat->Except Nat α} (h:oF b a k= .error er):er=344\/∃x e,k x e= .error er:=by grind [oF]
theorem KC {k:List Nat->Nat->Except Nat α} (h:mP b n a k= .error er):er=344\/∃x e,k x e= .error er:=by grind [mP]
theorem UJ {k:Nat->Nat->Except Nat α} (h:cnt1 b a c hi k= .error er):(er=344\/er=345)\/∃x e,k x e= .error er:=by grind [cnt1,UH]
end
theorem q9t (h:tO b= .error er):344<=er/\er<=346:=by
 rcases UH h with h|⟨_,_,h⟩; · omega
 rcases UJ h with h|⟨_,_,h⟩; · omega
 rcases UH h with h|⟨_,_,h⟩; · omega
 rcases UJ h with h|⟨_,_,h⟩; · omega
 rcases KC h with h|⟨_,_,h⟩; · omega
 rcases KC h with h|⟨_,_,h⟩; · omega
 rcases KC h with h|⟨_,_,h⟩; · omega
 rcases UJ h with h|⟨_,_,h⟩; · omega
 rcases KC h with h|⟨_,_,h⟩; · omega
 rcases KC h with h|⟨_,_,h⟩; · omega
 grind [xA]
def gq (l:List Nat):Except Nat Pr:=
 if abr l<15 then .error 340 else if 16777216<abr l then .error 3 else if q5 l=false then .error 341 else
 if ¬(l.getD 0 0=113/\l.getD 1 0=115) then .error 342 else if l.getD 2 0≠1 then .error 343 else tO (l.take (abr l-4))
section
variable {l:List Nat}
def q9u (h:abr l<15):gq l= .error 340:=if_pos h
def zf2 (h:¬abr l<15) (c:16777216<abr l):gq l= .error 3:=by unfold gq;rw [if_neg h,if_pos c]
def q9v (h:¬abr l<15) (c:¬16777216<abr l) (d:q5 l=false):gq l= .error 341:=by unfold gq;rw [if_neg h,if_neg c,if_pos d]
theorem qug (h:¬abr l<15) (c:¬16777216<abr l) (d:q5 l=true) (f:¬(l.getD 0 0=113/\l.getD 1 0=115)):gq l= .error 342:=by grind [gq]
theorem qxb (h:¬abr l<15) (c:¬16777216<abr l) (d:q5 l=true) (f:l.getD 0 0=113/\l.getD 1 0=115) (g:l.getD 2 0≠1):gq l= .error 343:=by grind [gq]
theorem q9w (h:¬abr l<15) (c:¬16777216<abr l) (d:q5 l=true) (f:l.getD 0 0=113/\l.getD 1 0=115) (g:l.getD 2 0=1):gq l=tO (l.take (abr l-4)):=by grind [gq]
def UK (h:gq l= .error er):1<=er/\er<=346:=by
 unfold gq at h
 split at h
 ·injection h with h;omega
 ·split at h
  ·injection h with h;omega
  ·split at h
   ·injection h with h;omega
   ·split at h
    ·injection h with h;omega
    ·split at h
     ·injection h with h;omega
     ·have:=q9t h;omega
end
section
variable {l:List Nat} {p:Pr} {k:Nat}
end
theorem KD {a:Nat} (h:Rd w B 1 A (abr b) (b.map B8)) (d:a<=abr b) (hc:abr b<=c):Rd w B 1 (if c=a then A else A.map (·.add (a*1))) (abr (b.drop a)) ((b.drop a).map B8):=by
 have f:=h.yG (i:=a) (j:=abr b) d (abx _) hc
 grind
def zf3 {c:Nat} (h:aD l=(x,n,er)) (hr:Rd w w.heap.size 1 A (abr l) (l.map B8)) (d:∀b∈l,b<256) (f:abr l<=200000000000000):
  Calls abt 52 #[.slice A (abr l) c] w (Is w (.tuple #[.int .u64 (x:Int),.int .i64 (n:Int),.int .i64 (er:Int)])):=by
 have:=Mx A (abr l) c l w hr d f
 rw [h] at this
 exact this
def gW:ajj:=27
def OE (k:Int) (w:ajg) (c:Mem W w fs):Calls abt 283 #[.int .i64 k] w (lD W fs (rW gW k)):=by
 refine yC (vs:=[.int .i64 k]) Tryz.func283 rfl rfl kr (σ0:=[(0,.int .i64 k)]) rfl ?_
 intro a Z
 refine sQ ?_
 refine fp Z 1 0 [(2,.int .i64 k)] λa Z=>fy Z c 1 rfl rfl rfl (Yl.makeInterface rfl rfl) λa Z=>?_
 refine fo Z 2 rfl rfl ?_
 refine zmi Z rfl rfl ?_
 exact FL Z ⟨rfl,c⟩
def q9x {gs:List ajr} {i g:Nat} (k x:Int) (w:ajg) (c:Mem W w fs) (hi:fs[i]?=some (.blk g #[.int .i64 x] gW)) (f:fs.set i (.blk g #[.int .i64 k] gW)=gs):CallsD abt 278 [ahn (some ⟨g,0,none⟩)].toArray (.panicking (rW gW k)) w (pU W gs):=by
 subst f
 refine qkt ahC rfl rfl kr (σ0:=[(0,.pointer (some ⟨g,0,none⟩))]) rfl λc₀ h a d Z=>?_
 refine wpS_seq (wpS_region ?_)
 refine qks (i:=0) (v:= .iface gW (.int .i64 k)) (cs':={c₀ with mode:= .panicking [{v:= .iface gW (.int .i64 k),recovered:=true}]}::h) Z rfl rfl rfl rfl de (.inl (by unfold rW at d;simp [recoverD,d])) λa Z=>?_
 refine qud (i:=1) Z rfl rfl rfl rfl de λa Z=>?_
 refine wpS_of_wp (wp_seq ?_)
 refine sQ ?_
 refine fp Z 1 0 [(6,.iface gW (.int .i64 k))] λa Z=>fy Z c 1 rfl rfl rfl (abd rfl rfl) λa Z=>?_
 refine fp Z 5 2 [(2,.int .i64 k),(3,.bool true)] λa Z=>y9 rfl ?_
 refine wp_seq (wp_seq ?_)
 refine sQ ?_
 refine fp Z 1 0 [(10,.iface gW (.int .i64 k))] λa Z=>fy Z c 1 rfl rfl rfl (aa5 rfl rfl rfl) λa Z=>?_
 refine fp Z 4 2 [(15,.bool false)] λa Z=>y9 rfl ?_
 refine Qk Z rfl (wp_skip ?_)
 refine sQ ?_
 refine fp Z 1 0 [(17,.int .i64 k)] λa Z=>fo Z 1 rfl rfl ?_
 refine rP Z c (i:=i) rfl rfl rfl rfl kr rfl hi (by simp) λj c=>?_
 refine y9 rfl ?_
 exact que rfl Z ⟨rfl,rfl,c⟩
def q3s {gs:List ajr} {i g:Nat} (x:Int) (w:ajg) (c:Mem W w fs) (hi:fs[i]?=some (.blk g #[.int .i64 x] gW)) (f:fs.set i (.blk g #[.int .i64 0] gW)=gs):CallsD abt 278 [ahn (some ⟨g,0,none⟩)].toArray .returning w (pU W gs):=by
 subst f
 refine qkt ahC rfl rfl kr (σ0:=[(0,.pointer (some ⟨g,0,none⟩))]) rfl λc₀ h a d Z=>?_
 refine wpS_seq (wpS_region ?_)
 refine qks (i:=0) (v:= .nilIface) (cs':=c₀::h) Z rfl rfl rfl rfl de (.inr ⟨by simp [recoverD,d],rfl,rfl⟩) λa Z=>?_
 refine qud (i:=1) Z rfl rfl rfl rfl de λa Z=>?_
 refine wpS_of_wp (wp_seq ?_)
 refine sQ ?_
 refine fp Z 1 0 [(6,.nilIface)] λa Z=>fy Z c 1 rfl rfl rfl (abe (z:= .int .i64 0) rfl rfl kr) λa Z=>?_
 refine fp Z 5 2 [(2,.int .i64 0),(3,.bool false)] λa Z=>y9 rfl ?_
 refine wp_seq (wp_seq ?_)
 refine sQ ?_
 refine fp Z 1 0 [(10,.nilIface)] λa Z=>fy Z c 1 rfl rfl rfl (aa9 rfl rfl) λa Z=>?_
 refine fp Z 4 2 [(15,.bool false)] λa Z=>y9 rfl ?_
 refine Qk Z rfl (wp_skip ?_)
 refine sQ ?_
 refine fp Z 1 0 [(17,.int .i64 0)] λa Z=>fo Z 1 rfl rfl ?_
 refine rP Z c (i:=i) rfl rfl rfl rfl kr rfl hi (by simp) λj c=>?_
 refine y9 rfl ?_
 have hc:c₀={c₀ with mode:=FrameMode.returning}:=by cases c₀;simp at d;rw [d]
 rw [hc]
 exact que rfl Z ⟨rfl,rfl,c⟩
section
variable {b rest:List Nat} {p x:Nat} {xs:List Nat}
def bN.fwd (a:x<18446744073709551616) (h:b.drop p=ak x++rest):bN b p x (p+abr (ak x))/\b.drop (p+abr (ak x))=rest:=by
 refine ⟨⟨by rw [h,Nc rest a,acM],adC ..⟩,?_⟩
 rw [<-acH,h,aed rfl]
def zx.fwd (a:abr xs=n) (c:∀y∈xs,y<18446744073709551616) (h:b.drop p=xs.flatMap ak++rest):zx b n p xs (p+abr (xs.flatMap ak))/\b.drop (p+abr (xs.flatMap ak))=rest:=by
 subst a
 refine ⟨⟨by rw [h,Nf xs rest c,acM],adC ..⟩,?_⟩
 rw [<-acH,h,aed rfl]
end
def quv {α:Type} (f:Nat->List α):∀k i,i<k->∃R,dV k f=dV i f++(f i++R)
 |0,_,h=>absurd h (ahm _)
 | k + 1, i, h => by
  rw [qy]
  rcases ab0 i k with a|a
  ·obtain ⟨R,c⟩:=quv f k i a
   exact ⟨R++f k,by rw [c,aby,aby]⟩
  ·obtain rfl:i=k:=by omega
   exact ⟨[],by rw [abN]⟩
section
variable {s:dG} {tail:List Nat}
def Ey (hi:i<7):(bS s++tail).drop (nT s i)=(aJ s i).flatMap ak++(bS s++tail).drop (nT s (i+1)):=by
 obtain ⟨R,c⟩:=quv (aJ s) 7 i hi
 have d:bS s++tail=([113,115,1]++(dV i (aJ s)).flatMap ak)++((aJ s i).flatMap ak++(R.flatMap ak++tail)):=by
  unfold bS eY
  rw [c]
  simp only [abZ,aby]
 have a:abr ([113,115,1]++(dV i (aJ s)).flatMap ak)=nT s i:=by
  rw [abu];rfl
 rw [d,aed a,Bo,<-acH,aed a,aed rfl]
def at_end (s:dG):nT s 7=abr (bS s):=by
 rw [IX];rfl
def q0t {cp:Nat} {rs:List Rw} (h:∀g,g<abr rs->(rs.getD g Rw.zero).l.length=cp):∀k,k<=abr rs->abr (dV k λg=>lu g (rs.getD g Rw.zero).l)=if k=0 then 0 else cp+3*cp*(k-1)
 |0,_=>rfl
 | k + 1, d => by
  rw [qy,abu,q0t h k om,if_neg (ahc k),adt]
  have c:=h k om
  show _+abr (lu k (rs.getD k Rw.zero).l)=_
  unfold lu
  rcases ach k with a|a
  ·subst a
   rw [uT (m:=1) (λi=>by rw [Dt de];rfl),if_pos rfl,c]
   omega
  ·rw [uT (m:=3) (λi=>by rw [Bq a];rfl),if_neg om,c]
   obtain ⟨j,rfl⟩:∃j,k=j+1:=⟨k-1,by omega⟩
   rw [adt,ae6]
   omega
def bH (s:dG):Pr:=⟨aK s.next,aK s.st.au,s.st.aj,abr s.st.gs,aJ s 2,aJ s 3,aJ s 4,abr s.st.ts,dV (abr s.st.ts) λi=>lq (qq s.st.ts i) (s.st.ts.getD i Tk.zero),aJ s 6,nT s 1,nT s 2,nT s 3,nT s 4,nT s 5,nT s 6,nT s 7⟩
def zba (s:dG):(bH s).nums=eY s:=by
 rw [Dz]
 show [aK s.next,aK s.st.au,s.st.aj,abr s.st.gs]++aJ s 2++aJ s 3++aJ s 4++[abr s.st.ts]++_++aJ s 6=_
 simp only [aby]
 rfl
def zbb (h:dN s):tO (bS s++tail)=if tail=[] then .ok (bH s) else .error 346:=by
 have S:=h.sh.sh
 have U:1<=s.st.au/\s.st.au<=64:=S.au
 have cl:(abr s.st.cl:Int)=s.st.au:=S.cl
 have cu:(abr s.st.cu:Int)=s.st.au:=S.cu
 have g1:=(qt S.gs).1
 have j:=(qt S.gs).2.1
 replace g1:1<=abr s.st.gs:=g1
 replace j:abr s.st.gs<=256:=j
 have V:abr s.st.ts<=65535:=S.few
 have r1:abr s.st.rs=abr s.st.gs:=by rw [<-wT];exact S.sp
 have a:=q7o h.ok h.few
 have tc:aK s.st.au=abr s.st.cl:=by unfold aK;omega
 have L:=a 0;have d:=a 1;have M:=a 2;have N:=a 3;have O:=a 4;have k:=a 5;have P:=a 6
 -- the sections, one after the other
 have o:=Ey (s:=s) (tail:=tail) (i:=0) de
 have e:=Ey (s:=s) (tail:=tail) (i:=1) de
 have q:=Ey (s:=s) (tail:=tail) (i:=2) de
 have r:=Ey (s:=s) (tail:=tail) (i:=3) de
 have u:=Ey (s:=s) (tail:=tail) (i:=4) de
 have f:=Ey (s:=s) (tail:=tail) (i:=5) de
 have v:=Ey (s:=s) (tail:=tail) (i:=6) de
 generalize Q:bS s++tail=b at o e q r u f v⊢
 have e1:nT s 1=3+abr (ak (aK s.next)):=by rw [Bo];show 3+abr (ak _++[])=_;rw [abN]
 have w:=bN.fwd (b:=b) (p:=3) (x:=aK s.next) (rest:=b.drop (nT s 1)) (L _ (aci ..)) (by
  have:b.drop 3=(ak (aK s.next)++[])++b.drop (nT s 1):=o
  rwa [abN] at this)
 rw [<-e1] at w
 have z:(aJ s 1).flatMap ak=ak (aK s.st.au)++(ak s.st.aj++ak (abr s.st.gs)):=by
  show ak _++(ak _++(ak _++[]))=_
  rw [abN]
 rw [z,aby,aby] at e
 have A:=bN.fwd (b:=b) (d _ (aci ..)) e
 have B:=bN.fwd (b:=b) (d s.st.aj (ab5 _ (aci ..))) A.2
 have C:=bN.fwd (b:=b) (d (abr s.st.gs) (ab5 _ (ab5 _ (aci ..)))) B.2
 have e2:nT s 1+abr (ak (aK s.st.au))+abr (ak s.st.aj)+abr (ak (abr s.st.gs))=nT s 2:=by
  rw [Bo s 1,z,abu,abu];omega
 rw [e2] at C
 have D:=zx.fwd (n:=2*(abr s.st.gs-1)) (by show abr (dV _ _)=_;rw [uT (m:=2) (λi=>rfl)]) M q
 rw [<-Bo] at D
 have E:=zx.fwd (n:=aK s.st.au) (by show abr (afe _ _)=_;rw [abz,tc]) N r
 rw [<-Bo] at E
 have F:=zx.fwd (n:=aK s.st.au) (by show abr (afe _ _)=_;rw [abz,tc];omega) O u
 rw [<-Bo] at F
 have G:(aJ s 5).flatMap ak=ak (abr s.st.ts)++(bH s).ts.flatMap ak:=rfl
 rw [G,aby] at f
 have H:=bN.fwd (b:=b) (k (abr s.st.ts) (aci ..)) f
 have I:=zx.fwd (n:=8*abr s.st.ts) (xs:=(bH s).ts) (by show abr (dV _ _)=_;rw [uT (m:=8) (λi=>rfl)]) (λy R=>k y (ab5 _ R)) H.2
 have e6:nT s 5+abr (ak (abr s.st.ts))+abr ((bH s).ts.flatMap ak)=nT s 6:=by
  rw [Bo s 5,G,abu];omega
 rw [e6] at I
 have T:∀g,g<abr s.st.rs->(s.st.rs.getD g Rw.zero).l.length=aK s.st.au:=λg J=>by
  have:((s.st.rs.getD g Rw.zero).l.length:Int)=s.st.au:=by rw [<-BA J];exact S.rows g (by show g<abr (jF s.st);rw [wT];exact J)
  rw [tc];omega
 have K:=zx.fwd (n:=aK s.st.au+3*aK s.st.au*(abr s.st.gs-1)) (by show abr (dV _ _)=_;rw [q0t T _ (abx _),if_neg om,r1]) P v
 rw [<-Bo] at K
 have c:tO b=if nT s 7≠abr b then .error 346 else .ok (bH s):=
  w.1.go1.trans ((A.1.goC (by rw [tc];omega)).trans (B.1.go1.trans ((C.1.goC om).trans (D.1.goK.trans (E.1.goK.trans (F.1.goK.trans ((H.1.goC om).trans (I.1.goK.trans K.1.goK))))))))
 rw [c,at_end,<-Q,abu]
 rcases tail with _|⟨y,t⟩
 ·rw [if_neg (by simp),if_pos rfl]
 ·rw [if_pos (by simp),if_neg (by simp)]
def znj (h:dN s) (hm:abr (aY (bS s))<=16777216):gq (aY (bS s))= .ok (bH s):=by
 have c:=h.len.1
 have a:aY (bS s)=113::115::1::((eY s).flatMap ak++rQ (zq (bS s))):=rfl
 have ht:(aY (bS s)).take (abr (aY (bS s))-4)=bS s:=by
  rw [qI,adt]
  unfold aY
  rw [List.take_left' rfl]
 rw [q9w om om MW (by rw [a];exact ⟨rfl,rfl⟩) (by rw [a];rfl),ht]
 have:=zbb (tail:=[]) h
 rwa [abN,if_pos rfl] at this
end
section
variable {α:Type} {b:List Nat} {a n:Nat} {p:α}
def qz1 {k:Nat->Nat->Except Nat α} (h:oF b a k= .ok p):∃x e,bN b a x e/\k x e= .ok p:=by
 rcases FN b a with c|⟨x,e,c⟩
 ·rw [OB c] at h;cases h
 ·rw [c.go1] at h;exact ⟨x,e,c,h⟩
def KE {k:List Nat->Nat->Except Nat α} (h:mP b n a k= .ok p):∃xs e,zx b n a xs e/\k xs e= .ok p:=by
 rcases FP b n a with c|⟨x,e,c⟩
 ·rw [FM c] at h;cases h
 ·rw [c.goK] at h;exact ⟨x,e,c,h⟩
def UL {k:Nat->Nat->Except Nat α} (h:cnt1 b a c hi k= .ok p):∃x e,bN b a x e/\(c<=x/\x<=hi)/\k x e= .ok p:=by
 rcases OD b a c hi with d|⟨x,e,d,f⟩|⟨x,e,d,f⟩
 ·rw [OC d] at h;cases h
 ·rw [d.bad f] at h;cases h
 ·rw [d.goC f] at h;exact ⟨x,e,d,by omega,h⟩
end
section
variable {b:List Nat} {p x e n:Nat} {xs:List Nat}
def bN.bytes (h:bN b p x e) (c:∀z∈b,z<256):b.drop p=ak x++b.drop e:=by
 rw [Q6 (λz hz=>c z (abQ hz)) h.1]
 have:=ab1 (e-p) (b.drop p)
 rw [acH,h.eq] at this
 exact this.symm
def zx.bytes (h:zx b n p xs e) (c:∀z∈b,z<256):b.drop p=xs.flatMap ak++b.drop e/\∀x∈xs,x<18446744073709551616:=by
 obtain ⟨d,_,f,_⟩:=Zb n _ xs _ (λz hz=>c z (abQ hz)) h.1
 refine ⟨?_,f⟩
 rw [d]
 have:=ab1 (e-p) (b.drop p)
 rw [acH,h.eq] at this
 exact this.symm
end
structure Pr.Fit (p:Pr):Prop where
 cp1:1<=p.cp
 cp2:p.cp<=64
 UM:1<=p.gp
 KF:p.gp<=256
 tk:p.tk<=65535
 gs:abr p.gs=2*(p.gp-1)
 cl:abr p.cl=p.cp
 cu:abr p.cu=p.cp
 ts:abr p.ts=8*p.tk
 sp:abr p.sp=p.cp+3*p.cp*(p.gp-1)
 lt:∀x∈p.nums,x<18446744073709551616
variable {p:Pr}
def q9y (hb:3<=abr b) (c:∀z∈b,z<256) (h:tO b= .ok p):p.Fit/\b.drop 3=p.nums.flatMap ak:=by
 obtain ⟨nx,e1,j,h⟩:=qz1 h
 obtain ⟨cp,M,k,r,h⟩:=UL h
 obtain ⟨cr,N,l,h⟩:=qz1 h
 obtain ⟨gp,e2,m,s,h⟩:=UL h
 obtain ⟨gs,e3,t,h⟩:=KE h
 obtain ⟨cl,e4,u,h⟩:=KE h
 obtain ⟨cu,e5,v,h⟩:=KE h
 obtain ⟨tk,O,o,H,h⟩:=UL h
 obtain ⟨ts,e6,w,h⟩:=KE h
 obtain ⟨sp,e7,f,h⟩:=KE h
 unfold xA at h
 split at h
 ·cases h
 rename_i P
 injection h with h
 subst h
 have I:=j.in hb
 have J:=k.in I.2
 have K:=l.in J.2
 have L:=m.in K.2
 have y:=t.in L.2
 have A:=u.in y.2.2
 have B:=v.in A.2.2
 have i8:=o.in B.2.2
 have C:=w.in i8.2
 have q:=f.in C.2.2
 have D:=t.bytes c
 have E:=u.bytes c
 have F:=v.bytes c
 have G:=w.bytes c
 have g:=f.bytes c
 have i:b.drop e7=[]:=adG om
 refine ⟨⟨r.1,r.2,s.1,s.2,H.2,y.1,A.1,B.1,C.1,q.1,λx d=>?_⟩,?_⟩
 ·simp only [Pr.nums,acg,abX,acA,or_false] at d
  rcases d with (((((((rfl|rfl|rfl|rfl)|d)|d)|d)|rfl)|d)|d)
  ·exact j.lt c
  ·exact k.lt c
  ·exact l.lt c
  ·exact m.lt c
  ·exact D.2 x d
  ·exact E.2 x d
  ·exact F.2 x d
  ·exact o.lt c
  ·exact G.2 x d
  ·exact g.2 x d
 ·rw [j.bytes c,k.bytes c,l.bytes c,m.bytes c,D.1,E.1,F.1,o.bytes c,G.1,g.1,i]
  simp [Pr.nums]
def bR (x:Nat):Int:=Go.IntKind.i64.wrap (x:Int)
def aC:Nat:=4611686018427387904
def bY {α:Type} (n:Nat) (f:Nat->α):List α:=(acw n).map f
theorem zp {α:Type} (n:Nat) (f:Nat->α):abr (bY n f)=n:=by simp [bY]
def Ai {α:Type} (n:Nat) (f:Nat->α):bY (n+1) f=bY n f++[f n]:=by unfold bY;rw [ag9,abW];rfl
theorem xB {α:Type} {f:Nat->α} {d:α} (h:i<n):(bY n f).getD i d=f i:=by grind [bY]
def zf4 {α β:Type} (n:Nat) (f:Nat->α) (g:α->β):(bY n f).map g=bY n λi=>g (f i):=by unfold bY;rw [aew];rfl
theorem quh (h:abr l=n) (f:Nat->Int):(bY n λi=>f (l.getD i 0))=l.map f:=by
 subst h
 refine List.ext_getElem (by simp [bY]) λi a b=>?_
 grind [bY]
def Pr.iR (p:Pr) (g:Nat):Gr:=if g=0 then ⟨0,1⟩ else ⟨bR (p.gs.getD (2*(g-1)) 0),bR (p.gs.getD (2*(g-1)+1) 0)⟩
def Pr.tn (p:Pr) (i j:Nat):Nat:=p.ts.getD (8*i+j) 0
def Pr.tQ (p:Pr):Nat->Int
 |0=>0
 |i+1=>if 65535<Go.IntKind.i64.wrap (p.tQ i+bR (p.tn i 0)) then 65535 else Go.IntKind.i64.wrap (p.tQ i+bR (p.tn i 0))
def Pr.mD (p:Pr) (i:Nat):Int:=Go.IntKind.i64.wrap (p.tQ i+bR (p.tn i 0))
def Pr.uX (p:Pr) (i:Nat):Tk:=⟨p.mD i,bR (p.tn i 1),bR (p.tn i 2),bR (p.tn i 3),p.tn i 4,decide (p.tn i 5=1),p.tn i 6,p.tn i 7%4294967296⟩
def Pr.so (p:Pr) (g c:Nat):Nat:=if g=0 then c else p.cp+3*p.cp*(g-1)+3*c
def Pr.sn (p:Pr) (g c j:Nat):Nat:=p.sp.getD (p.so g c+j) 0
def Pr.sN (p:Pr) (g c:Nat):Sp:=if g=0 then ⟨0,0,p.sn g c 0⟩ else ⟨p.sn g c 0,p.sn g c 1%4294967296,p.sn g c 2⟩
def Pr.row (p:Pr) (g:Nat):List Sp:=bY p.cp (p.sN g)
def Pr.rX (p:Pr):dG:=⟨bR p.nx,⟨(p.cp:Int),p.cr,none,0,bY p.gp p.iR,none,0,p.cl.map bR,none,0,p.cu.map bR,none,0,bY p.tk p.uX,none,0,bY p.gp λg=>⟨none,0,p.row g⟩⟩⟩
def dle (x m:Nat):Bool:=decide (x<=m)
def Pr.ok0 (p:Pr):Bool:=(((true&&dle p.nx aC)&&dle p.cp aC)&&dle p.cr 18446744073709551615)&&dle p.gp aC
def Pr.qE (p:Pr):Nat->Bool
 |0=>p.ok0
 |g+1=>if g=0 then p.ok0 else (p.qE g&&dle (p.gs.getD (2*(g-1)) 0) aC)&&dle (p.gs.getD (2*(g-1)+1) 0) aC
def Pr.Aj (p:Pr):Nat->Bool
 |0=>p.qE p.gp
 |k+1=>p.Aj k&&dle (p.cl.getD k 0) aC
def Pr.xC (p:Pr):Nat->Bool
 |0=>p.Aj p.cp
 |k+1=>p.xC k&&dle (p.cu.getD k 0) aC
def Pr.jY (p:Pr):Nat->Bool
 |0=>p.xC p.cp&&dle p.tk aC
 |i+1=>((((((((p.jY i&&dle (p.tn i 0) aC)&&dle (p.tn i 1) aC)&&dle (p.tn i 2) aC)&&dle (p.tn i 3) aC)&&dle (p.tn i 4) 18446744073709551615)&&dle (p.tn i 5) 1)&&dle (p.tn i 6) 18446744073709551615)&&dle (p.tn i 7) 4294967295)&&decide (p.mD i<=65535)
def Pr.mE (p:Pr) (base:Bool) (g:Nat):Nat->Bool
 |0=>base
 |c+1=>if g=0 then p.mE base g c&&dle (p.sn g c 0) 18446744073709551615 else ((p.mE base g c&&dle (p.sn g c 0) 18446744073709551615)&&dle (p.sn g c 1) 4294967295)&&dle (p.sn g c 2) 18446744073709551615
def Pr.nG (p:Pr):Nat->Bool
 |0=>p.jY p.tk
 |g+1=>p.mE (p.nG g) g p.cp
def Pr.okB (p:Pr):Bool:=p.nG p.gp
section
variable {p:Pr} (h:p.Fit)
def Pr.oC (p:Pr):Nat:=4+2*(p.gp-1)
def Pr.oT (p:Pr):Nat:=p.oC+2*p.cp
def Pr.oS (p:Pr):Nat:=p.oT+1+8*p.tk
theorem OG {l m:List Nat} (hk:k<abr l):(l++m).getD k 0=l.getD k 0:=by grind
theorem FQ {l m:List Nat} (hk:k=abr l+j):(l++m).getD k 0=m.getD j 0:=by grind
def zf5 (p:Pr):p.nums.getD 0 0=p.nx/\p.nums.getD 1 0=p.cp/\p.nums.getD 2 0=p.cr/\p.nums.getD 3 0=p.gp:=by
 unfold Pr.nums
 simp [aby]
include h in
theorem zf6:p.nums.length=p.oS+p.sp.length/\p.sp.length=p.cp+3*p.cp*(p.gp-1):=by
 unfold Pr.nums Pr.oS Pr.oT Pr.oC
 simp only [List.length_append,List.length_cons,List.length_nil,h.gs,h.cl,h.cu,h.ts]
 exact ⟨by omega,h.sp⟩
include h in
theorem q9z {j:Nat} (a:j<2*(p.gp-1)):p.nums.getD (4+j) 0=p.gs.getD j 0:=by
 have:=h.gs
 unfold Pr.nums
 rw [List.append_assoc,List.append_assoc,List.append_assoc,List.append_assoc,List.append_assoc,FQ (l:=[p.nx,p.cp,p.cr,p.gp]) (k:=4+j) (j:=j) rfl,OG om]
include h in
theorem zmn {j:Nat} (a:j<p.cp):p.nums.getD (p.oC+j) 0=p.cl.getD j 0:=by
 have:=h.gs
 have:=h.cl
 unfold Pr.nums Pr.oC
 rw [List.append_assoc,List.append_assoc,List.append_assoc,List.append_assoc,FQ (j:=j) (by simp only [List.length_append,List.length_cons,List.length_nil];omega),OG om]
include h in
theorem zmo {j:Nat} (a:j<p.cp):p.nums.getD (p.oC+p.cp+j) 0=p.cu.getD j 0:=by
 have:=h.gs
 have:=h.cl
 have:=h.cu
 unfold Pr.nums Pr.oC
 rw [List.append_assoc,List.append_assoc,List.append_assoc,FQ (j:=j) (by simp only [List.length_append,List.length_cons,List.length_nil];omega),OG om]
include h in
theorem zmp:p.nums.getD p.oT 0=p.tk:=by
 have:=h.gs
 have:=h.cl
 have:=h.cu
 unfold Pr.nums Pr.oT Pr.oC
 rw [List.append_assoc,List.append_assoc,FQ (j:=0) (by simp only [List.length_append,List.length_cons,List.length_nil];omega)]
 rfl
include h in
theorem BK {j:Nat} (a:j<8*p.tk):p.nums.getD (p.oT+1+j) 0=p.ts.getD j 0:=by
 have:=h.gs
 have:=h.cl
 have:=h.cu
 have:=h.ts
 unfold Pr.nums Pr.oT Pr.oC
 rw [List.append_assoc,FQ (j:=j) (by simp only [List.length_append,List.length_cons,List.length_nil];omega),OG om]
include h in
theorem OH (j:Nat):p.nums.getD (p.oS+j) 0=p.sp.getD j 0:=by
 have:=h.gs
 have:=h.cl
 have:=h.cu
 have:=h.ts
 unfold Pr.nums Pr.oS Pr.oT Pr.oC
 rw [FQ (j:=j) (by simp only [List.length_append,List.length_cons,List.length_nil];omega)]
def Ak (p:Pr) (c:Nat):p.so 0 c=c:=if_pos rfl
def uY (a:0<g) (c:Nat):p.so g c=p.cp+3*p.cp*(g-1)+3*c:=if_neg om
def OI {g:Nat}:p.so (g+1) 0=p.so g p.cp:=by
 rw [uY om]
 rcases ach g with a|a
 ·subst a;rw [Ak];omega
 ·rw [uY a,show g+1-1=(g-1)+1 by omega,ae6];omega
include h in
theorem KG (b:g<p.gp) (hc:c<p.cp):p.so g c+(if g=0 then 1 else 3)<=p.sp.length:=by
 rw [h.sp]
 rcases Nat.eq_zero_or_pos g with a|a
 ·subst a;rw [Ak,if_pos rfl];omega
 ·rw [uY a,if_neg om]
  have:3*p.cp*(g-1)+3*p.cp<=3*p.cp*(p.gp-1):=by
   rw [<-Nat.mul_succ]
   exact Nat.mul_le_mul_left _ om
  omega
end
def d9 (A:ajq) (c:Nat):Nat->ajq
 |0=>A
 |k+1=>if c-k=1 then d9 A c k else (d9 A c k).map (·.add (1*1))
def UN {w:ajg} {B c:Nat} {A:ajq} {q:List Nat} (h:Rd w B 1 A (abr q) (q.map bG)) (hc:abr q<=c):∀k,k<=abr q->Rd w B 1 (d9 A c k) (abr q-k) ((q.drop k).map bG)
 |0,_=>h
 |k+1,d=>by
  have b:=UN h hc k om
  have a:=b.mid (i:=1) (j:=abr q-k) (c:=c-k) om (abx _) om
  simp only [Nat.mul_one] at a
  rw [<-List.map_take,<-List.map_drop,abM (by rw [abE];omega),acH] at a
  rw [show abr q- (k+1)=abr q-k-1 by omega]
  exact a
def zp1 {B c k m oS:Nat} (h:Rd w B 1 A (abr q) (q.map bG)) (hc:abr q<=c) (hk:k<abr q) (b:d9 A c k=some ⟨m,oS,none⟩):w.cell? ⟨m,oS,none⟩=some (.int .u64 (q.getD k 0:Int)):=by
 have a:=UN h hc k om
 rw [b] at a
 have d:=a.Ct (k:=0) (vY (F:=bG) (x:=q.getD k 0) (by rw [adn,abw,acN,abv hk];rfl))
 rwa [Nat.zero_mul,acN] at d
def OJ (x:Nat):bR x=((x:Int)+9223372036854775808)%18446744073709551616-9223372036854775808:=by unfold bR;rw [aeL]
theorem FR (h:x<18446744073709551616):aK (bR x)=x:=by rw [OJ];unfold aK;omega
def zmq (h:x<18446744073709551616) (a:0<=bR x):bR x=x:=by rw [OJ] at*;omega
def UO (h:x<=4611686018427387904):bR x=x:=by rw [OJ];omega
def qz2 {a:Int} (h:x<18446744073709551616):aK (Go.IntKind.i64.wrap (a+bR x)-a)=x:=by rw [aeL,OJ];unfold aK;omega
def Pr.nW (p:Pr):Nat->Int
 |0=>0
 |i+1=>Go.IntKind.i64.wrap (p.nW i+bR (p.tn i 0))
def Pr.nH (p:Pr) (i:Nat):Tk:=⟨p.nW (i+1),bR (p.tn i 1),bR (p.tn i 2),bR (p.tn i 3),p.tn i 4,decide (0<p.tn i 5),p.tn i 6,p.tn i 7%4294967296⟩
def Pr.jP (p:Pr):dG:=⟨bR p.nx,⟨(p.cp:Int),p.cr,none,0,bY p.gp p.iR,none,0,p.cl.map bR,none,0,p.cu.map bR,none,0,bY p.tk p.nH,none,0,bY p.gp λg=>⟨none,0,p.row g⟩⟩⟩
def ziw (p:Pr) (i:Nat):p.tQ (i+1)=if 65535<p.mD i then 65535 else p.mD i:=rfl
theorem KH {p:Pr}:∀i,(∀j,j<i->p.mD j<=65535)->p.tQ i=p.nW i
 |0,_=>rfl
 |i+1,h=>by
  have a:=KH i λj b=>h j om
  have c:=h i om
  rw [ziw,if_neg om]
  unfold Pr.mD
  rw [a]
  rfl
def KI {p:Pr}:∀i,(∀j,j<i->p.nW (j+1)<=65535)->p.tQ i=p.nW i
 |0,_=>rfl
 |i+1,h=>by
  have a:=KI i λj c=>h j om
  have d:=h i om
  have b:p.mD i=p.nW (i+1):=by unfold Pr.mD;rw [a];rfl
  rw [ziw,if_neg om,b]
def BL (h:p.tQ i=p.nW i):p.mD i=p.nW (i+1):=by unfold Pr.mD;rw [h];rfl
def UQ {α:Type} (l:List α) (o:Nat->Nat) (a:o 0=0) (b:∀i,o i<=o (i+1)):∀k,(dV k λi=>(l.drop (o i)).take (o (i+1)-o i))=l.take (o k)
 |0=>by rw [Dq,a,ahg]
 |k+1=>by
  rw [qy,UQ l o a b k,<-List.take_add]
  congr 1
  have:=b k
  omega
theorem zmr (l:List Nat):∀(m a:Nat),a+m<=abr l->(l.drop a).take m=(acw m).map λj=>l.getD (a+j) 0:=by intro x;induction x<;>grind [abv,ag9,adx]
theorem vK {α:Type} {f g:Nat->List α} (h:∀i,i<k->f i=g i):dV k f=dV k g:=NW k h
theorem OL (h:abr l=m*k):l=dV k λi=>(acw m).map λj=>l.getD (m*i+j) 0:=by
 have a:=UQ l (λi=>m*i) rfl (λi=>by show m*i<=m*(i+1);rw [ae6];omega) k
 rw [abM (show abr l<=m*k by omega)] at a
 refine a.symm.trans (vK λi hi=>?_)
 show (l.drop (m*i)).take (m*(i+1)-m*i)=_
 have b:m*(i+1)<=m*k:=agJ _ hi
 grind [zmr]
theorem OM {α:Type} {f g:Nat->List α}:∀k,(∀i,i<k->abr (f i)=abr (g i))->dV k f=dV k g->∀i,i<k->f i=g i:=by intro x;induction x<;>grind [dV,qy,adh,acY,abu,ab0]
def FT {α:Type} {f g:Nat->List α}:∀k,(∀i,i<k->abr (f i)=abr (g i))->abr (dV k f)=abr (dV k g)
 |0,_=>rfl
 |k+1,h=>by rw [qy,qy,abu,abu,FT k (λi hi=>h i om),h k om]
def Pr.sec (p:Pr):Nat->List Nat
 |0=>[p.nx]
 |1=>[p.cp,p.cr,p.gp]
 |2=>p.gs
 |3=>p.cl
 |4=>p.cu
 |5=>p.tk::p.ts
 |6=>p.sp
 |_=>[]
theorem qz3 (p:Pr):p.nums=dV 7 p.sec:=by simp_all [Pr.nums,Pr.sec,qy,Dq]
structure Pr.Low (p:Pr):Prop where
 t5:∀i,i<p.tk->p.tn i 5<=1
 t7:∀i,i<p.tk->p.tn i 7<=4294967295
 s1:∀g,g<p.gp->0<g->∀c,c<p.cp->p.sn g c 1<=4294967295
section
variable {p:Pr}
def zp2 (x:Nat) (h:x∈p.gs):x∈p.nums:=by simp [Pr.nums,h]
def zix (x:Nat) (h:x∈p.cl):x∈p.nums:=by simp [Pr.nums,h]
def ziy (x:Nat) (h:x∈p.cu):x∈p.nums:=by simp [Pr.nums,h]
def zp3 (x:Nat) (h:x∈p.ts):x∈p.nums:=by simp [Pr.nums,h]
def zp4 (x:Nat) (h:x∈p.sp):x∈p.nums:=by simp [Pr.nums,h]
theorem KJ (h:∀x∈l,x<n) (a:0<n) (k:Nat):l.getD k 0<n:=by grind [abv,List.getElem?_eq_none,List.getElem_mem,ab0]
variable (h:p.Fit)
include h
theorem xD (k:Nat):p.gs.getD k 0<18446744073709551616:=KJ (λx a=>h.lt x (zp2 x a)) de k
theorem KL (k:Nat):p.cl.getD k 0<18446744073709551616:=KJ (λx a=>h.lt x (zix x a)) de k
theorem BM (k:Nat):p.cu.getD k 0<18446744073709551616:=KJ (λx a=>h.lt x (ziy x a)) de k
theorem jm (i j:Nat):p.tn i j<18446744073709551616:=KJ (λx a=>h.lt x (zp3 x a)) de _
theorem xE (g c j:Nat):p.sn g c j<18446744073709551616:=KJ (λx a=>h.lt x (zp4 x a)) de _
theorem BN:p.nx<18446744073709551616:=h.lt _ (by simp [Pr.nums])
theorem xG:p.cr<18446744073709551616:=h.lt _ (by simp [Pr.nums])
theorem zf7:p.gs=dV (p.gp-1) λi=>[p.gs.getD (2*i) 0,p.gs.getD (2*i+1) 0]:=OL h.gs
theorem OO:p.ts=dV p.tk λi=>[p.tn i 0,p.tn i 1,p.tn i 2,p.tn i 3,p.tn i 4,p.tn i 5,p.tn i 6,p.tn i 7]:=OL h.ts
theorem zp5 (e:g<p.gp):(p.sp.drop (p.so g 0)).take (p.so (g+1) 0-p.so g 0)=dV p.cp λc=>if g=0 then [p.sn g c 0] else [p.sn g c 0,p.sn g c 1,p.sn g c 2]:=by
 have hs:=h.sp
 rcases ach g with a|a
 ·subst a
  have e1:p.so (0+1) 0=p.cp:=by rw [OI,Ak]
  rw [e1,Ak,ae3,ags]
  have b:abr (p.sp.take p.cp)=1*p.cp:=by rw [abA];omega
  refine (OL b).trans (vK λc hc=>?_)
  rw [if_pos rfl]
  show [(p.sp.take p.cp).getD (1*c+0) 0]=[p.sp.getD (p.so 0 c+0) 0]
  rw [Ak,abw,abw,af8 om,Nat.one_mul]
 ·have e1:p.so (g+1) 0=p.so g 0+3*p.cp:=by rw [OI,uY a,uY a,Nat.mul_zero,acN]
  have d:p.so g 0+3*p.cp<=abr p.sp:=by
   rw [uY a,hs]
   have:3*p.cp*(g-1)+3*p.cp<=3*p.cp*(p.gp-1):=by
    rw [<-ae6]
    exact agJ _ om
   omega
  rw [e1,acM]
  have b:abr ((p.sp.drop (p.so g 0)).take (3*p.cp))=3*p.cp:=by rw [abA,abE];omega
  refine (OL b).trans (vK λc hc=>?_)
  rw [if_neg om]
  have e2:∀j,j<3->((p.sp.drop (p.so g 0)).take (3*p.cp)).getD (3*c+j) 0=p.sn g c j:=λj f=>by
   unfold Pr.sn
   rw [abw,abw,af8 om,adn,uY a,uY a]
   congr 2
   omega
  show [((p.sp.drop (p.so g 0)).take (3*p.cp)).getD (3*c+0) 0,((p.sp.drop (p.so g 0)).take (3*p.cp)).getD (3*c+1) 0,((p.sp.drop (p.so g 0)).take (3*p.cp)).getD (3*c+2) 0]=_
  rw [e2 0 om,e2 1 om,e2 2 om]
theorem OP:p.sp=dV p.gp λg=>dV p.cp λc=>if g=0 then [p.sn g c 0] else [p.sn g c 0,p.sn g c 1,p.sn g c 2]:=by
 have b:=UQ p.sp (λg=>p.so g 0) (Ak p 0) (λg=>by
  show p.so g 0<=p.so (g+1) 0
  rw [OI]
  rcases ach g with a|a
  ·subst a;rw [Ak];omega
  ·rw [uY a,uY a];omega) p.gp
 have d:p.so p.gp 0=abr p.sp:=by rw [uY h.UM,h.sp];omega
 rw [d,adb] at b
 exact b.symm.trans (vK λg e=>zp5 h e)
end
def KM (p:Pr) {i:Nat} (hi:i<=p.tk):qq (bY p.tk p.nH) i=p.nW i:=by
 cases i with
 |zero=>rfl
 |succ i=>rw [IB,xB om];rfl
theorem Al (h:p.Fit):(∀i,i<7->abr (aJ p.jP i)=abr (p.sec i))/\((∀i,i<7->aJ p.jP i=p.sec i)↔p.Low):=by
 have j:aJ p.jP 2=p.gs:=by
  show dV (abr (bY p.gp p.iR)-1) (vH (bY p.gp p.iR))=p.gs
  grind [Pr.iR,vH,xD,zf7,xB,zp,FR,vK]
 have hm:∀l:List Nat,(∀x∈l,x<18446744073709551616)->(l.map bR).map aK=l:=λl a=>by
  rw [aew]
  exact (adQ λx b=>FR (a x b)).trans (List.map_id l)
 have e:aJ p.jP 5=p.tk::dV p.tk λi=>[p.tn i 0,p.tn i 1,p.tn i 2,p.tn i 3,p.tn i 4,if decide (0<p.tn i 5)=true then 1 else 0,p.tn i 6,p.tn i 7%4294967296]:=by
  show (abr (bY p.tk p.nH)::dV (abr (bY p.tk p.nH)) λi=>lq (qq (bY p.tk p.nH) i) ((bY p.tk p.nH).getD i Tk.zero))=_
  rw [zp]
  congr 1
  refine vK λi hi=>?_
  rw [KM p om,xB hi]
  show [aK (Go.IntKind.i64.wrap (p.nW i+bR (p.tn i 0))-p.nW i),aK (bR (p.tn i 1)),aK (bR (p.tn i 2)),aK (bR (p.tn i 3)),_,_,_,_]=_
  rw [qz2 (jm h i 0),FR (jm h i 1),FR (jm h i 2),FR (jm h i 3)]
  rfl
 have f:aJ p.jP 6=dV p.gp λg=>dV p.cp λc=>if g=0 then [p.sn g c 0] else [p.sn g c 0,p.sn g c 1%4294967296,p.sn g c 2]:=by
  show (dV (abr (bY p.gp λg=>(⟨none,0,p.row g⟩:Rw))) λg=>lu g ((bY p.gp λg=>(⟨none,0,p.row g⟩:Rw)).getD g Rw.zero).l)=_
  rw [zp]
  refine vK λg d=>?_
  rw [xB d]
  show dV (abr (p.row g)) (λc=>nS g ((p.row g).getD c Sp.zero))=_
  grind [Pr.row,Pr.sN,xB,zp,Bq,Dt,vK]
 have k:aJ p.jP 0=p.sec 0:=by show [aK (bR p.nx)]=[p.nx];rw [FR (BN h)]
 have m:aJ p.jP 1=p.sec 1:=by
  show [aK (p.cp:Int),p.cr,abr (bY p.gp p.iR)]=[p.cp,p.cr,p.gp]
  have:=h.cp2
  rw [zp,q7l om]
 have n:aJ p.jP 3=p.sec 3:=hm p.cl λx b=>h.lt x (zix x b)
 have o:aJ p.jP 4=p.sec 4:=hm p.cu λx b=>h.lt x (ziy x b)
 constructor
 ·intro i hi
  match i,hi with
  |0,_=>rw [k]
  |1,_=>rw [m]
  |2,_=>rw [j];rfl
  |3,_=>rw [n]
  |4,_=>rw [o]
  |5,_=>
   rw [e]
   refine congrArg (· +1) (agK ?_ (congrArg acY (OO h).symm))
   exact FT p.tk λi _=>rfl
  |6,_=>
   rw [f]
   refine agK ?_ (congrArg acY (OP h).symm)
   exact FT p.gp λg _=>FT p.cp λc _=>by split<;>rfl
 ·constructor
  ·intro q
   have e5:=q 5 om
   have e6:=q 6 om
   rw [e] at e5
   rw [f] at e6
   replace e5:=(List.cons.inj e5).2
   rw [OO h] at e5
   replace e6:_=p.sp:=e6
   rw [OP h] at e6
   have r:=OM p.tk (λi _=>by rfl) e5
   have s:=OM p.gp (λg _=>FT p.cp λc _=>by split<;>rfl) e6
   refine ⟨λi hi=>?_,λi hi=>?_,λg d g0 c hc=>?_⟩
   ·grind
   ·grind
   ·grind [OM]
  ·intro a i hi
   match i,hi with
   |0,_=>exact k
   |1,_=>exact m
   |2,_=>exact j
   |3,_=>exact n
   |4,_=>exact o
   |5,_=>
    rw [e]
    show _=p.tk::p.ts
    congr 1
    refine agK (vK λi hi=>?_) (OO h).symm
    have t:=a.t5 i hi
    have u:=a.t7 i hi
    grind
   | 6, _ =>
    rw [f]
    refine agK (vK λg d=>vK λc hc=>?_) (OP h).symm
    rcases ach g with g0|g0
    ·rw [if_pos g0,if_pos g0]
    ·have:=a.s1 g d g0 c hc
     grind
theorem xH (h:p.Fit):eY p.jP=p.nums↔p.Low:=by
 rw [qz3]
 exact ⟨λe=>(Al h).2.1 (OM 7 (Al h).1 e),λe=>vK ((Al h).2.2 e)⟩
theorem qF (h:x<=m):dle x m=true:=decide_eq_true h
theorem ziz (h:dle x m=true):x<=m:=of_decide_eq_true h
section
variable {p:Pr}
theorem zp6 {b:Bool} {g:Nat}:∀k,p.mE b g k=true->b=true/\(0<g->∀c,c<k->p.sn g c 1<=4294967295):=by intro x;induction x<;>grind [Pr.mE,ziz]
theorem zi0:∀k,p.nG k=true->p.jY p.tk=true/\∀g,g<k->0<g->∀c,c<p.cp->p.sn g c 1<=4294967295
 |0,h=>⟨h,λg b=>by omega⟩
 |k+1,h=>by
  obtain ⟨a,d⟩:=zp6 p.cp h
  obtain ⟨e,f⟩:=zi0 k a
  grind
theorem zp7:∀k,p.jY k=true->∀i,i<k->p.tn i 5<=1/\p.tn i 7<=4294967295/\p.mD i<=65535:=by intro x;induction x<;>grind [Pr.jY,ziz]
theorem q91 (h:p.okB=true):p.Low/\∀i,i<p.tk->p.mD i<=65535:=by
 obtain ⟨b,c⟩:=zi0 p.gp h
 have a:=zp7 p.tk b
 exact ⟨⟨λi hi=>(a i hi).1,λi hi=>(a i hi).2.1,c⟩,λi hi=>(a i hi).2.2⟩
theorem BO (h:p.Low) (a:∀i,i<=p.tk->p.tQ i=p.nW i):p.rX=p.jP:=by
 have e:bY p.tk p.uX=bY p.tk p.nH:=by
  unfold bY
  refine adQ λi hi=>?_
  rw [aei] at hi
  unfold Pr.uX Pr.nH
  rw [BL (a i om),show decide (p.tn i 5=1)=decide (0<p.tn i 5) from decide_eq_decide.2 (by have:=h.t5 i hi;omega)]
 unfold Pr.rX Pr.jP
 rw [e]
end
section
variable {p:Pr} (h:p.Fit)
include h
theorem zi1 (a:p.nx<=aC):p.ok0=true:=by
 unfold Pr.ok0
 have b:=h.cp2
 have c:=h.KF
 have d:=xG h
 unfold aC at*
 rw [qF a,qF (show p.cp<=4611686018427387904 by omega),qF (show p.cr<=18446744073709551615 by omega),qF (show p.gp<=4611686018427387904 by omega)]
 rfl
theorem zi2 (a:p.nx<=aC) (b:∀i,i<2*(p.gp-1)->p.gs.getD i 0<=aC):∀k,k<=p.gp->p.qE k=true
 |0,_=>zi1 h a
 | k + 1, c => by
  rw [Pr.qE]
  split
  ·exact zi1 h a
  ·rw [zi2 a b k om,qF (b _ om),qF (b _ om)]
   rfl
end
section
variable {p:Pr}
theorem zp8 (a:p.qE p.gp=true) (hc:∀i,i<p.cp->p.cl.getD i 0<=aC):∀k,k<=p.cp->p.Aj k=true:=by intro x;induction x<;>grind [Pr.Aj,qF]
theorem zp9 (a:p.Aj p.cp=true) (hc:∀i,i<p.cp->p.cu.getD i 0<=aC):∀k,k<=p.cp->p.xC k=true:=by intro x;induction x<;>grind [Pr.xC,qF]
def zi3 (h:p.Fit) (b:p.xC p.cp=true) (a:p.Low) (ht:∀i,i<p.tk->p.tn i 0<=aC/\p.tn i 1<=aC/\p.tn i 2<=aC/\p.tn i 3<=aC) (hi:∀i,i<p.tk->p.mD i<=65535):∀k,k<=p.tk->p.jY k=true
 |0,_=>by
  rw [Pr.jY,b,qF (by have:=h.tk;unfold aC;omega)];rfl
 |k+1,g=>by
  obtain ⟨c,d,e,f⟩:=ht k om
  have j:=jm h k 4
  have m:=jm h k 6
  rw [Pr.jY,zi3 h b a ht hi k om,qF c,qF d,qF e,qF f,qF (show p.tn k 4<=18446744073709551615 by omega),qF (a.t5 k om),qF (show p.tn k 6<=18446744073709551615 by omega),qF (a.t7 k om),decide_eq_true (hi k om)]
  rfl
theorem zqa (h:p.Fit) {b:Bool} (hb:b=true) {g:Nat} (a:0<g->∀c,c<p.cp->p.sn g c 1<=4294967295):∀k,k<=p.cp->p.mE b g k=true:=by intro x;induction x<;>grind [Pr.mE,qF,xE]
def zi4 (h:p.Fit) (a:p.jY p.tk=true) (b:p.Low):∀k,k<=p.gp->p.nG k=true
 |0,_=>a
 |k+1,d=>zqa h (zi4 h a b k om) (λg0 c hc=>b.s1 k om g0 c hc) p.cp (abx _)
end
def UR (x:Int):aX (Go.IntKind.i64.wrap x):=by rw [aeL];unfold aX;omega
def yY (x:Nat):aX (bR x):=UR _
def FU {α:Type} {f:Nat->α} {q:α->Prop} (h:∀i,i<n->q (f i)):∀x∈bY n f,q x:=by
 intro x a
 obtain ⟨i,hi,rfl⟩:=ab7.1 a
 exact h i (aei.1 hi)
section
variable {p:Pr} (h:p.Fit)
include h
theorem zi5 (g:Nat):(p.iR g).Ok:=by
 unfold Pr.iR
 split
 ·exact ⟨by unfold aX;decide,by unfold aX;decide⟩
 ·exact ⟨yY _,yY _⟩
theorem zqb (g c:Nat):(p.sN g c).Ok:=by
 have a:=xE h g c 0
 have b:=xE h g c 2
 unfold Pr.sN
 split
 ·exact ⟨show 0<18446744073709551616 by decide,show 0<4294967296 by decide,a⟩
 ·exact ⟨a,adJ _ de,b⟩
theorem BP:aX (p.cp:Int):=by have:=h.cp2;unfold aX;omega
theorem OQ (l:List Nat):∀x∈l.map bR,aX x:=by
 intro x a
 obtain ⟨y,_,rfl⟩:=ab7.1 a
 exact yY y
theorem rows_ok:∀l∈(bY p.gp λg=>(⟨none,0,p.row g⟩:Rw)).map Rw.l,∀x∈l,Sp.Ok x:=by
 intro l a
 obtain ⟨y,b,rfl⟩:=ab7.1 a
 obtain ⟨g,_,rfl⟩:=ab7.1 b
 exact FU λc _=>zqb h g c
theorem zms (i:Nat):(p.uX i).Ok:=⟨UR _,yY _,yY _,yY _,jm h i 4,jm h i 6,adJ _ de⟩
theorem zmt (i:Nat):(p.nH i).Ok:=⟨UR _,yY _,yY _,yY _,jm h i 4,jm h i 6,adJ _ de⟩
theorem zi6:p.rX.st.ay.Ok:=⟨BP h,xG h,FU λg _=>zi5 h g,OQ h _,OQ h _,FU λi _=>zms h i,rows_ok h⟩
theorem zi7:p.jP.st.ay.Ok:=⟨BP h,xG h,FU λg _=>zi5 h g,OQ h _,OQ h _,FU λi _=>zmt h i,rows_ok h⟩
theorem OT (a:abr l=n) (b:n<=1000000):abr (l.map bR)<=1000000:=by rw [abz];omega
theorem qz4:∀y∈bY p.gp λg=>(⟨none,0,p.row g⟩:Rw),abr y.l<=1000000:=FU λg _=>by
 have:=h.cp2
 show abr (p.row g)<=1000000
 unfold Pr.row
 rw [zp]
 omega
theorem UU (s:dG) (hs:s=p.rX\/s=p.jP):cZ s.st:=by
 have a:=h.cp2
 have b:=h.KF
 have c:=h.tk
 rcases hs with rfl|rfl
 ·exact ⟨by show abr (bY _ _)<=_;rw [zp];omega,OT h h.cl om,OT h h.cu om,by show abr (bY _ _)<=_;rw [zp];omega,by show abr (bY _ _)<=_;rw [zp];omega,qz4 h⟩
 ·exact ⟨by show abr (bY _ _)<=_;rw [zp];omega,OT h h.cl om,OT h h.cu om,by show abr (bY _ _)<=_;rw [zp];omega,by show abr (bY _ _)<=_;rw [zp];omega,qz4 h⟩
end
theorem q93 (h:p.Fit) (hk:dP p.jP=0) (v:p.Low):p.okB=true/\p.rX=p.jP:=by
 have D:=(Bz hk).1
 have w:=(Bz hk).2
 have o:=Fu hk
 have e:aC=4611686018427387904:=rfl
 have big:∀{x:Nat} {n:Int},x<18446744073709551616->0<=bR x->bR x<=n->n<=4611686018427387904->x<=aC:=λ{x n} b c d q=>by
  rw [zmq b c] at d;omega
 have I:abr p.jP.st.gs=p.gp:=zp _ _
 have J:abr p.jP.st.ts=p.tk:=zp _ _
 have y:abr p.jP.st.rs=p.gp:=zp _ _
 have z:∀g,g<p.gp->p.jP.st.gs.getD g Gr.zero=p.iR g:=λg A=>xB A
 have f:∀i,i<p.tk->p.jP.st.ts.getD i Tk.zero=p.nH i:=λi hi=>xB hi
 obtain ⟨K,L,_,s⟩:=mX o.cfg
 have B:p.nx<=aC:=big (BN h) (by have:=D.1;show (0:Int)<=p.jP.next;omega) D.2 om
 have M:∀i,i<2*(p.gp-1)->p.gs.getD i 0<=aC:=λi hi=>by
  have A:i/2+1<p.gp:=by omega
  have b:=(qt s).2.2.2 (i/2+1) om
  have c:=ND b om
  have d:=qR s (g:=i/2+1) om
  unfold fA at c
  rw [z _ A] at c d
  unfold Pr.iR at c d
  rw [if_neg om] at c d
  rw [adt] at c d
  dsimp only at c d
  rcases Nat.mod_two_eq_zero_or_one i with q|q
  ·rw [show i=2*(i/2) by omega]
   exact big (n:=256) (xD h _) c.1 (by have:=c.2;have:=h.KF;show bR _<=256;omega) om
  ·rw [show i=2*(i/2)+1 by omega]
   exact big (xD h _) (by have:=d.1;show 0<=bR _;omega) d.2 om
 have m:∀(l:List Nat) (k:Nat),k<abr l->(l.map bR).getD k 0=bR (l.getD k 0):=λl k hk=>by
  grind
 have N:∀i,i<p.cp->p.cl.getD i 0<=aC:=λi hi=>by
  have t:=h.cl
  have b:=o.cls i (by show i<abr (p.cl.map bR);rw [abz];omega)
  rw [show p.jP.st.cl.getD i 0=bR (p.cl.getD i 0) from m p.cl i om] at b
  unfold iV at b
  rw [decide_eq_true_eq] at b
  exact big (KL h _) b.1 b.2 om
 have u:∀i,i<p.tk->_:=λi hi=>Fp (o.tk i om)
 have r:∀i,i<p.tk->(1<=p.nW (i+1)/\p.nW (i+1)<=65535)/\p.tn i 1<=aC/\p.tn i 2<=aC/\p.tn i 3<=aC:=λi hi=>by
  have b:=(u i hi).2
  rw [f i hi] at b
  unfold eG mK at b
  simp only [abH,decide_eq_true_eq] at b
  obtain ⟨⟨O,P,Q,C,R,E⟩,⟨F,S⟩,_⟩:=b
  rw [lX,y] at C
  have:=h.KF
  have:=h.cp2
  refine ⟨⟨O,P⟩,big (n:=256) (jm h i 1) Q (by show bR _<=256;have C:bR (p.tn i 1)<p.gp:=C;omega) om,big (jm h i 2) (by have F:1<=bR (p.tn i 2):=F;omega) S om,big (n:=64) (jm h i 3) R (by have E:bR (p.tn i 3)<(p.cp:Int):=E;omega) om⟩
 have G:∀i,i<=p.tk->p.tQ i=p.nW i:=λi hi=>KI i λj H=>(r j om).1.2
 have T:∀i,i<p.tk->p.mD i<=65535:=λi hi=>by rw [BL (G i om)];exact (r i hi).1.2
 have U:∀i,i<p.tk->p.tn i 0<=aC:=λi hi=>by
  have b:=(u i hi).1
  have c:0<=p.nW i/\p.nW i<p.nW (i+1):=by
   rcases i with _|i
   ·have:=(r 0 hi).1.1
    exact ⟨Int.le_refl _,by show (0:Int)<_;omega⟩
   ·have d:=(r i om).1.1
    rw [adt,f i om,f (i+1) hi] at b
    rcases b with b|b
    ·omega
    ·exact ⟨by omega,b⟩
  have d:=qz2 (a:=p.nW i) (jm h i 0)
  have q:Go.IntKind.i64.wrap (p.nW i+bR (p.tn i 0))=p.nW (i+1):=rfl
  grind [aK]
 have V:∀i,i<p.cp->p.cu.getD i 0<=aC:=λi hi=>by
  have W:=h.cu
  have t:i<abr p.jP.st.cu:=by show i<abr (p.cu.map bR);rw [abz];omega
  unfold lM at w
  rw [abH] at w
  have b:=wJ w.2 (i:=i) t
  rw [abH] at b
  have c:=b.1
  unfold fB at c
  have hz:p.jP.st.ay.cu.getD i 0=bR (p.cu.getD i 0):=m p.cu i om
  rw [hz] at c
  rw [adD,decide_eq_true_eq] at c
  rcases c with c|c
  ·exact big (BM h _) om (Int.le_of_eq c) om
  ·split at c
   ·rename_i j H
    obtain ⟨d,q⟩:=Sc H
    have d:j<p.tk:=by have:j<abr p.jP.st.ts:=d;omega
    rw [show p.jP.st.ay.ts.getD j Tk.zero=p.nH j from f j d] at q
    have X:=(r j d).1
    have q:p.nW (j+1)=bR (p.cu.getD i 0):=q
    exact big (n:=65535) (BM h _) om om om
   ·cases c
 refine ⟨zi4 h (zi3 h (zp9 (zp8 (zi2 h B M p.gp (abx _)) N p.cp (abx _)) V p.cp (abx _)) v (λi hi=>⟨U i hi,(r i hi).2⟩) T p.tk (abx _)) v p.gp (abx _),BO v G⟩
theorem q94 (hb:p.okB=true):p.rX=p.jP:=by grind [KH,q91,BO]
theorem zf8 {ys:List Nat} (a:∀x∈xs,x<18446744073709551616) (hy:∀x∈ys,x<18446744073709551616) (b:abr xs=abr ys) (h:xs.flatMap ak=ys.flatMap ak):xs=ys:=by
 have c:=Nf xs [] a
 grind [Nf]
theorem UW (i:∀z∈l,z<256) (h:gq l= .ok p):15<=abr l/\abr l<=16777216/\p.Fit/\l=aY ([113,115,1]++p.nums.flatMap ak):=by
 unfold gq at h
 split at h
 ·cases h
 rename_i d
 split at h
 ·cases h
 rename_i q
 split at h
 ·cases h
 rename_i m
 split at h
 ·cases h
 rename_i f
 split at h
 ·cases h
 rename_i g
 have f:l.getD 0 0=113/\l.getD 1 0=115:=af6 f
 have g:l.getD 2 0=1:=af6 g
 have hs:q5 l=true:=by cases hq:q5 l with|true=>rfl|false=>exact absurd hq m
 have j:abr (l.take (abr l-4))=abr l-4:=by rw [abA];omega
 obtain ⟨n,o⟩:=q9y om (λz hz=>i z (aco hz)) h
 refine ⟨by omega,by omega,n,?_⟩
 rw [<-o]
 have e:([113,115,1]:List Nat)=(l.take (abr l-4)).take 3:=by
  rw [ahj,show min 3 (abr l-4)=3 by omega]
  match l,d,f,g with
  |a::b::c::r,_,f,g=>
   grind
  |[],d,_,_=>exact absurd de d
  |[_],d,_,_=>exact absurd (by simp) d
  |[_,_],d,_,_=>exact absurd (by simp) d
 rw [e,ab1,Yr i hs]
def zf9 {a:List Nat} (h:aY a=aY b):a=b:=by
 have c:=congrArg acY h
 rw [qI,qI] at c
 exact (adh h om).1
theorem q95 (d:∀z∈l,z<256) (h:gq l= .ok p):(p.okB=true/\dP p.rX=0)↔(dP p.jP=0/\dD p.jP=l):=by
 obtain ⟨_,_,a,e⟩:=UW d h
 constructor
 ·grind [bS,xH,q91,q94,yR]
 ·rintro ⟨f,b⟩
  rw [yR f] at b
  have c:=zf9 (b.trans e)
  unfold bS at c
  have g:=zf8 (qy6 (zi7 a) (UU a _ (.inr rfl))) a.lt (by rw [qz3];exact FT 7 (Al a).1) (List.append_cancel_left c)
  grind [xH,q93]
def oG (l:List Nat):Nat:=match gq l with
 | .ok p=>if p.okB=true/\dP p.rX=0 then 0 else 347
 | .error k=>k
def xI:dG:=⟨0,⟨0,0,none,0,[],none,0,[],none,0,[],none,0,[],none,0,[]⟩⟩
def lS (l:List Nat):dG:=match gq l with
 | .ok p=>if p.okB=true/\dP p.rX=0 then p.rX else xI
 | .error _=>xI
section
variable {l:List Nat} {p:Pr} {k:Nat}
def tT (h:gq l= .error k):oG l=k/\lS l=xI:=by unfold oG lS;rw [h];exact ⟨rfl,rfl⟩
def OU (h:gq l= .ok p) (a:¬(p.okB=true/\dP p.rX=0)):oG l=347/\lS l=xI:=by unfold oG lS;rw [h];exact ⟨if_neg a,if_neg a⟩
def UY (h:gq l= .ok p) (a:p.okB=true/\dP p.rX=0):oG l=0/\lS l=p.rX:=by unfold oG lS;rw [h];exact ⟨if_pos a,if_pos a⟩
theorem q97 (b:∀z∈l,z<256) (h:gq l= .ok p) (c:dP p.jP=0/\dD p.jP=l):oG l=0/\lS l=p.jP:=by
 have a:=(q95 b h).2 c
 rw [<-q94 a.1]
 exact UY h a
end
section
variable {a b:List Nat} {p q:Pr} {k:Nat} {X Y:List j4} {i:Nat}
end
theorem Mem.Ef (h:Mem W w []):Mem W w (jV xI.st):=((((h.nil 176 1).nil 232 8).nil 3 1).nil 3 1).nil 198 2
def qz5:gD xI.st:=⟨abx _,abx _,abx _,abx _,abx _,λy c=>by cases c⟩
def qui (s:dG):dI s s:=qY rfl (q2m _)
def OV (w:ajg) (er:Nat) (s:dG) (r:ajk) (c:ajg):Prop:=∃z:dG,r= .returned (.tuple #[.agg z.cells,.int .i64 (er:Int)])/\dI s z/\gD z.st/\Mem w c (jV z.st)
def UZ (h:er=k/\s=xI) (hr:r= .returned (.tuple #[.agg xI.cells,.int .i64 (k:Int)])) (c:Mem w W []):OV w er s r W:=by
 obtain ⟨rfl,rfl⟩:=h
 exact ⟨xI,hr,qui _,qz5,c.Ef⟩
def q98 {t z:dG} (h:er=0/\s=t) (hr:r= .returned (.tuple #[.agg z.cells,.int .i64 0])) (hz:dI t z) (hc:gD z.st) (c:Mem w W (jV z.st)):OV w er s r W:=by
 obtain ⟨rfl,rfl⟩:=h
 exact ⟨z,hr,hz,hc,c⟩
def zi8 {z:dG} (h:dI s z) (c:s.st.ay.Ok):z.st.ay.Ok:=by rw [NV (DI h)];exact c
structure Loose (b:dG):Prop where
 nx:aX b.next
 ok:b.st.ay.Ok
 cp:0<=b.st.au
 cl:(abr b.st.cl:Int)=b.st.au
 cu:(abr b.st.cu:Int)=b.st.au
 g1:1<=abr b.st.gs
 g0:b.st.gs.getD 0 Gr.zero=⟨0,1⟩
 rs:abr b.st.rs=abr b.st.gs
 row:∀g,g<abr b.st.rs->((b.st.rs.getD g Rw.zero).l.length:Int)=b.st.au
 z0:∀c,c<(b.st.rs.getD 0 Rw.zero).l.length->((b.st.rs.getD 0 Rw.zero).l.getD c Sp.zero).v=0/\((b.st.rs.getD 0 Rw.zero).l.getD c Sp.zero).r=0
def Cb {x y:Int} (a:aX x) (hy:aX y) (h:aK x=aK y):x=y:=by
 unfold aX at a hy
 unfold aK at h
 omega
def znk {p:Int} {t u:Tk} (ht:t.Ok) (b:u.Ok) (h:lq p t=lq p u):t=u:=by
 unfold lq at h
 simp only [List.cons.injEq,and_true] at h
 obtain ⟨n,o,q,r,d,e,f,g⟩:=h
 have i:t.id=u.id:=by
  have c:=ht.id;have a:=b.id
  unfold aX at c a
  unfold aK at n
  omega
 have j:=Cb ht.group b.group o
 have k:=Cb ht.weight b.weight q
 have l:=Cb ht.cpu b.cpu r
 have m:t.ready=u.ready:=by
  cases c:t.ready<;>cases a:u.ready<;>rw [c,a] at e<;>first|rfl|(exact absurd e de)
 cases t;cases u
 simp only at i j k l d m f g
 rw [Tk.mk.injEq]
 exact ⟨i,j,k,l,d,m,f,g⟩
def zjk {x y:Sp} (h1:x.v=y.v) (a:x.r=y.r) (b:x.floor=y.floor):x=y:=by
 cases x;cases y
 rw [Sp.mk.injEq]
 exact ⟨h1,a,b⟩
def zbc {a b:dG} (A:Loose a) (B:Loose b) (h:eY a=eY b):dI a b:=by
 have R:=A.cl;have S:=B.cl;have T:=A.cu;have U:=B.cu;have V:=A.rs;have W:=B.rs;have X:=A.cp;have Y:=B.cp;have Z:=A.g1;have gb:=B.g1
 rw [Dz,Dz] at h
 simp only [aby] at h
 obtain ⟨n,h⟩:=adh h rfl
 obtain ⟨z,h⟩:=adh h rfl
 simp only [aJ,List.cons.injEq,and_true] at n z
 have E:a.next=b.next:=Cb A.nx B.nx n
 obtain ⟨t,e2,e3⟩:=z
 have e1:a.st.au=b.st.au:=Cb A.ok.au B.ok.au t
 obtain ⟨F,h⟩:=adh h (by show abr (dV _ _)=abr (dV _ _);rw [uT (m:=2) (λi=>rfl),uT (m:=2) (λi=>rfl),e3])
 obtain ⟨q,h⟩:=adh h (by show abr (afe _ _)=abr (afe _ _);rw [abz,abz];omega)
 obtain ⟨G,h⟩:=adh h (by show abr (afe _ _)=abr (afe _ _);rw [abz,abz];omega)
 have e7:abr a.st.ts=abr b.st.ts:=by
  have u:(abr a.st.ts::_)=(abr b.st.ts::_):=h
  injection u
 obtain ⟨u,H⟩:=adh h (by show abr (_::dV _ _)=abr (_::dV _ _);rw [abS,abS,uT (m:=8) (λi=>rfl),uT (m:=8) (λi=>rfl),e7])
 have I:a.st.gs=b.st.gs:=by
  refine Lx Gr.zero e3 λi hi=>?_
  rcases ach i with rfl|o
  ·exact A.g0.trans B.g0.symm
  ·have e:=Ew (f:=vH a.st.gs) (g:=vH b.st.gs) (abr a.st.gs-1) (λi hi=>rfl) (F.trans (by show dV _ _=_;rw [e3])) (i-1) om
   unfold vH at e
   rw [Nat.sub_add_cancel o] at e
   simp only [List.cons.injEq,and_true] at e
   have C:=A.ok.gs _ (qf Gr.zero hi)
   have D:=B.ok.gs _ (qf Gr.zero (show i<abr b.st.gs by omega))
   exact zqj (Cb C.parent D.parent e.1) (Cb C.weight D.weight e.2)
 have mp:∀{l m:List Int},(∀x∈l,aX x)->(∀x∈m,aX x)->abr l=abr m->l.map aK=m.map aK->l=m:=λ{l m} J hm K L=>by
  refine Lx 0 K λi hi=>Cb (J _ (qf 0 hi)) (hm _ (qf 0 om)) ?_
  have q:(l.map aK)[i]?=(m.map aK)[i]?:=by rw [L]
  rw [acQ,acQ,getD_at 0 hi,getD_at 0 (show i<abr m by omega)] at q
  injection q
 have v:a.st.cl=b.st.cl:=mp A.ok.cl B.ok.cl om q
 have w:a.st.cu=b.st.cu:=mp A.ok.cu B.ok.cu om G
 have M:a.st.ts=b.st.ts:=by
  have k:(abr a.st.ts::dV (abr a.st.ts) λi=>lq (qq a.st.ts i) (a.st.ts.getD i Tk.zero))=(abr b.st.ts::dV (abr b.st.ts) λi=>lq (qq b.st.ts i) (b.st.ts.getD i Tk.zero)):=u
  injection k with _ k
  rw [<-e7] at k
  have e:∀i,i<abr a.st.ts->lq (qq a.st.ts i) (a.st.ts.getD i Tk.zero)=lq (qq b.st.ts i) (b.st.ts.getD i Tk.zero):=Ew (f:=λi=>lq (qq a.st.ts i) (a.st.ts.getD i Tk.zero)) (g:=λi=>lq (qq b.st.ts i) (b.st.ts.getD i Tk.zero)) (abr a.st.ts) (λi _=>rfl) k
  refine Lx Tk.zero e7 λi hi=>?_
  induction i using Nat.strongRecOn with
  | _ i N =>
   have O:qq b.st.ts i=qq a.st.ts i:=by
    unfold qq
    split
    ·rfl
    ·rw [N (i-1) om om]
   have d:=e i hi
   rw [O] at d
   exact znk (A.ok.ts _ (qf Tk.zero hi)) (B.ok.ts _ (qf Tk.zero (show i<abr b.st.ts by omega))) d
 have P:jF a.st=jF b.st:=by
  refine Lx [] (by rw [wT,wT];omega) λg Q=>?_
  have j:g<abr a.st.rs:=by rwa [wT] at Q
  have y:g<abr b.st.rs:=by omega
  have r:∀g,g<abr a.st.rs->(a.st.rs.getD g Rw.zero).l.length=(b.st.rs.getD g Rw.zero).l.length:=λg h=>by have:=A.row g h;have:=B.row g om;omega
  have p:dV (abr a.st.rs) (λg=>lu g (a.st.rs.getD g Rw.zero).l)=dV (abr b.st.rs) (λg=>lu g (b.st.rs.getD g Rw.zero).l):=H
  rw [show abr b.st.rs=abr a.st.rs by omega] at p
  have e:lu g (a.st.rs.getD g Rw.zero).l=lu g (b.st.rs.getD g Rw.zero).l:=Ew (f:=λg=>lu g (a.st.rs.getD g Rw.zero).l) (g:=λg=>lu g (b.st.rs.getD g Rw.zero).l) (abr a.st.rs) (λi hi=>zgq i (r i hi)) p g j
  rw [BA j,BA y]
  refine Lx Sp.zero (r g j) λc hc=>?_
  unfold lu at e
  rw [<-r g j] at e
  have d:nS g ((a.st.rs.getD g Rw.zero).l.getD c Sp.zero)=nS g ((b.st.rs.getD g Rw.zero).l.getD c Sp.zero):=Ew (f:=λc=>nS g ((a.st.rs.getD g Rw.zero).l.getD c Sp.zero)) (g:=λc=>nS g ((b.st.rs.getD g Rw.zero).l.getD c Sp.zero)) _ (λc _=>q0k g _ _) e c hc
  rcases ach g with rfl|n
  ·have za:=A.z0 c hc
   have zb:=B.z0 c (by rw [<-r 0 j];exact hc)
   rw [Dt om,Dt om] at d
   injection d with d
   exact zjk om om d
  ·rw [Bq n,Bq n] at d
   simp only [aeu,acX,List.cons.injEq,and_true] at d
   exact zjk d.1 d.2.1 d.2.2
 exact ⟨E,e1,e2,I,v,w,M,P⟩
section
variable {s:dG}
def dN.loose (h:dN s):Loose s:=by
 have S:=h.sh.sh
 have k:=(Bz h.rG).1
 have e:=qt S.gs
 have i:abr s.st.rs=abr s.st.gs:=by rw [<-wT];exact S.sp
 have j:1<=abr s.st.gs:=e.1
 have b:abr s.st.ay.sp=abr s.st.rs:=wT _
 have a:∀g,g<abr s.st.rs->((s.st.rs.getD g Rw.zero).l.length:Int)=s.st.au:=λg f=>by rw [<-BA f];exact S.rows g (by rw [b];exact f)
 refine ⟨by unfold aX;omega,h.ok,by have m:1<=s.st.au:=S.au.1;omega,S.cl,S.cu,j,e.2.2.1,i,a,λc hc=>?_⟩
 have n:=a 0 om
 have d:=S.spots 0 c (by rw [b];omega) (by show (c:Int)<s.st.au;omega)
 unfold bI.spot at d
 rw [show s.st.ay.sp.getD 0 []=_ from BA (show 0<abr s.st.rs by omega)] at d
 unfold fq at d
 rw [abH,adD,decide_eq_true_eq,bne_iff_ne] at d
 exact d.2.resolve_left om
def Wp (h:dN s):(bH s).Fit:=by
 have a:=zbb (tail:=[]) h
 rw [if_pos rfl,abN] at a
 exact (q9y (by have:=h.len;rw [qI] at this;omega) (NT s) a).1
def znl (h:dN s):(bH s).Low:=by
 have F:=Wp h
 have S:=h.sh.sh
 have L:=h.loose
 have ht:=OO F
 have o:∀i,i<abr s.st.ts->[(bH s).tn i 0,(bH s).tn i 1,(bH s).tn i 2,(bH s).tn i 3,(bH s).tn i 4,(bH s).tn i 5,(bH s).tn i 6,(bH s).tn i 7]=lq (qq s.st.ts i) (s.st.ts.getD i Tk.zero):=
  Ew (f:=λi=>[(bH s).tn i 0,(bH s).tn i 1,(bH s).tn i 2,(bH s).tn i 3,(bH s).tn i 4,(bH s).tn i 5,(bH s).tn i 6,(bH s).tn i 7]) (g:=λi=>lq (qq s.st.ts i) (s.st.ts.getD i Tk.zero)) (abr s.st.ts) (λi _=>rfl) ht.symm
 have e:=OP F
 have hc:(bH s).cp=aK s.st.au:=rfl
 have w:1<=s.st.au/\s.st.au<=64:=S.au
 have tc:((aK s.st.au:Nat):Int)=s.st.au:=by unfold aK;omega
 refine ⟨λi hi=>?_,λi hi=>?_,λg t p c k=>?_⟩
 ·have a:=o i hi
  unfold lq at a
  simp only [List.cons.injEq,and_true] at a
  rw [a.2.2.2.2.2.1]
  split<;>decide
 ·have a:=o i hi
  unfold lq at a
  simp only [List.cons.injEq,and_true] at a
  rw [a.2.2.2.2.2.2.2]
  have b:(s.st.ts.getD i Tk.zero).r<4294967296:=(h.ok.ts _ (qf Tk.zero (show i<abr s.st.ts from hi))).r
  show (s.st.ts.getD i Tk.zero).r<=4294967295
  omega
 ·have d:g<abr s.st.rs:=by rw [L.rs];exact t
  have q:=L.row g d
  have e1:(bH s).gp=abr s.st.rs:=L.rs.symm
  rw [e1] at e
  have j:∀i,i<abr s.st.rs->abr (dV (bH s).cp λc=>if i=0 then [(bH s).sn i c 0] else [(bH s).sn i c 0,(bH s).sn i c 1,(bH s).sn i c 2])=abr (lu i (s.st.rs.getD i Rw.zero).l):=λi hi=>by
   have u:=L.row i hi
   unfold lu
   rcases ach i with n|n
   ·rw [uT (m:=1) (λc=>by rw [if_pos n];rfl),uT (m:=1) (λc=>by rw [Dt om];rfl)];omega
   ·rw [uT (m:=3) (λc=>by rw [if_neg om];rfl),uT (m:=3) (λc=>by rw [Bq n];rfl)];omega
  have a:(dV (bH s).cp λc=>if g=0 then [(bH s).sn g c 0] else [(bH s).sn g c 0,(bH s).sn g c 1,(bH s).sn g c 2])=lu g (s.st.rs.getD g Rw.zero).l:=
   Ew (f:=λg=>dV (bH s).cp λc=>if g=0 then [(bH s).sn g c 0] else [(bH s).sn g c 0,(bH s).sn g c 1,(bH s).sn g c 2]) (g:=λg=>lu g (s.st.rs.getD g Rw.zero).l) (abr s.st.rs) j e.symm g d
  unfold lu at a
  rw [show (s.st.rs.getD g Rw.zero).l.length=(bH s).cp by rw [hc];omega] at a
  have b:(if g=0 then [(bH s).sn g c 0] else [(bH s).sn g c 0,(bH s).sn g c 1,(bH s).sn g c 2])=nS g ((s.st.rs.getD g Rw.zero).l.getD c Sp.zero):=
   Ew (f:=λc=>if g=0 then [(bH s).sn g c 0] else [(bH s).sn g c 0,(bH s).sn g c 1,(bH s).sn g c 2]) (g:=λc=>nS g ((s.st.rs.getD g Rw.zero).l.getD c Sp.zero)) (bH s).cp (λc _=>by rw [if_neg om,Bq p];rfl) a c k
  rw [if_neg om,Bq p] at b
  simp only [aeu,acX,List.cons.injEq,and_true] at b
  rw [b.2.1]
  have v:=(h.ok.sp (s.st.rs.getD g Rw.zero).l (ac1 (qf Rw.zero d)) _ (qf Sp.zero (show c<(s.st.rs.getD g Rw.zero).l.length by omega))).r
  omega
def zqo (h:dN s):Loose (bH s).jP:=by
 have F:=Wp h
 have g1:1<=(bH s).gp:=F.UM
 refine ⟨yY _,zi7 F,by show (0:Int)<=((bH s).cp:Int);omega,by show (abr ((bH s).cl.map bR):Int)=_;rw [abz,F.cl];rfl,by show (abr ((bH s).cu.map bR):Int)=_;rw [abz,F.cu];rfl,by show 1<=abr (bY (bH s).gp (bH s).iR);rw [zp];exact g1,?_,?_,λg b=>?_,λc hc=>?_⟩
 ·show (bY (bH s).gp (bH s).iR).getD 0 Gr.zero=_
  rw [xB om];rfl
 ·show abr (bY _ _)=abr (bY _ _);rw [zp,zp]
 ·have a:g<(bH s).gp:=by have d:g<abr (bY (bH s).gp λg=>(⟨none,0,(bH s).row g⟩:Rw)):=b;rwa [zp] at d
  show (((bY (bH s).gp λg=>(⟨none,0,(bH s).row g⟩:Rw)).getD g Rw.zero).l.length:Int)=((bH s).cp:Int)
  rw [xB a]
  show (abr ((bH s).row g):Int)=_
  unfold Pr.row
  rw [zp]
 ·have e:((bH s).jP.st.rs.getD 0 Rw.zero).l=(bH s).row 0:=by
   show ((bY (bH s).gp λg=>(⟨none,0,(bH s).row g⟩:Rw)).getD 0 Rw.zero).l=_
   rw [xB om]
  rw [e] at hc⊢
  unfold Pr.row at hc⊢
  rw [zp] at hc
  rw [xB hc]
  exact ⟨rfl,rfl⟩
def zqp (h:dN s):oG (aY (bS s))=0/\dI s (lS (aY (bS s))):=by
 have F:=Wp h
 have c:eY (bH s).jP=eY s:=((xH F).2 (znl h)).trans (zba s)
 have a:dI s (bH s).jP:=zbc h.loose (zqo h) c.symm
 have b:=q97 (l:=aY (bS s)) (MV (NT s)) (znj h (by have:=h.len;omega)) ⟨by rw [I9 a];exact h.rG,by rw [SG a,yR h.rG]⟩
 exact ⟨b.1,by rw [b.2];exact a⟩
end
structure Pl where
 nx:Nat
 sn:Nat
 st:Nat
 en:Nat
deriving DecidableEq
def Pl.zero:Pl:=⟨0,0,0,0⟩
def Pl.cells (p:Pl):Array ajh:= #[.int .i64 (p.nx:Int),.int .i64 (p.sn:Int),.int .i64 (p.st:Int),.int .i64 (p.en:Int)]
def gU (p:Pl):List ajh:=[.int .i64 (p.nx:Int),.int .i64 (p.sn:Int),.int .i64 (p.st:Int),.int .i64 (p.en:Int)]
def rY (p:Pl):abr (gU p)=4:=rfl
def eu (b:List Nat) (p m:Nat):Nat:=aA m (b.drop p)
def bJ (b:List Nat) (p:Nat):Nat:=p+(aD (b.drop p)).2.1
def fP (b:List Nat) (p m:Nat):Bool:=bA m (b.drop p)
section
variable {b:List Nat} {p m k last sum q s a:Nat} {l:List Pl}
def U0:eu b p m<=m:=rT _ _
def U1:p<=bJ b p:=adC _ _
theorem xJ (h:p<=abr b):bJ b p<=abr b:=by grind [bJ,yu]
theorem OW (hb:∀x∈b,x<256) (c:p<=abr b) (h:fP b p m=true):b.take (bJ b p)=b.take p++ak (eu b p m):=by
 obtain ⟨d,e⟩:=of_decide_eq_true h
 grind [bJ,eu,aA,aD,Q6]
def uZ (b:List Nat) (p:Nat):Bool:=fP b p 4611686018427387904&& (fP b (bJ b p) 16777216&&fP b (bJ b (bJ b p)) 16777216)
def rowP (b:List Nat) (p:Nat):Nat:=bJ b (bJ b (bJ b p))
def lZ (b:List Nat) (p:Nat):Nat:=eu b p 4611686018427387904
def l5 (b:List Nat) (p:Nat):Nat:=eu b (bJ b p) 16777216
def nI (b:List Nat) (p:Nat):Nat:=eu b (bJ b (bJ b p)) 16777216
def zmu (h:p<=abr b):rowP b p<=abr b:=xJ (xJ (xJ h))
def kK (b:List Nat):Nat->Nat->Nat->Nat->Option (List Pl×Nat×Nat)
 |0,p,_,sum=>some ([],p,sum)
 | k + 1, p, last, sum => if uZ b p = true /\ last <= lZ b p then
   (kK b k (rowP b p) (lZ b p) (sum+l5 b p+nI b p)).map λr=>(⟨lZ b p,sum,sum+l5 b p,sum+l5 b p+nI b p⟩::r.1,r.2)
  else none
def lF (b:List Nat) (ok:Bool) (k p last sum:Nat):Option (List Pl×Nat×Nat):=if ok=true then kK b k p last sum else none
theorem q99:lF b false k p last sum=none:=rfl
theorem KN:lF b true k p last sum=kK b k p last sum:=rfl
def Pl.up (a:Nat) (x:Pl):Pl:=⟨x.nx,x.sn+a,x.st+a,x.en+a⟩
def bT (b:List Nat):List Pl×Nat:=
 if 16777216<abr b then ([],3)
 else if ¬(b.take 3=[113,97,1]) then ([],410)
 else match lF b (fP b 3 1024) (eu b 3 1024) (bJ b 3) 0 0 with
  |none=>([],410)
  |some (l,p,s)=>if p+4<=abr b/\q5 (b.take (p+4))=true/\p+4+s=abr b then (l.map (Pl.up (p+4)),0) else ([],410)
def zga (h:16777216<abr b):bT b=([],3):=by unfold bT;rw [if_pos h]
def qz7 (h:¬16777216<abr b) (c:¬(b.take 3=[113,97,1])):bT b=([],410):=by unfold bT;rw [if_neg h,if_pos c]
def U2 (h:¬16777216<abr b) (c:b.take 3=[113,97,1]) (d:lF b (fP b 3 1024) (eu b 3 1024) (bJ b 3) 0 0=none):bT b=([],410):=by unfold bT;rw [if_neg h,if_neg (λx=>x c),d]
theorem U3 (h:¬16777216<abr b) (c:b.take 3=[113,97,1]) (d:lF b (fP b 3 1024) (eu b 3 1024) (bJ b 3) 0 0=some (l,p,s)) (e:¬(p+4<=abr b/\q5 (b.take (p+4))=true/\p+4+s=abr b)):bT b=([],410):=by grind [bT]
theorem zi9 (h:¬16777216<abr b) (c:b.take 3=[113,97,1]) (d:lF b (fP b 3 1024) (eu b 3 1024) (bJ b 3) 0 0=some (l,p,s)) (e:p+4<=abr b/\q5 (b.take (p+4))=true/\p+4+s=abr b):bT b=(l.map (Pl.up (p+4)),0):=by grind [bT]
def kC:Nat->Nat->List Pl->Nat->Prop
 |_,sum,[],s=>sum=s
 |last,sum,x::t,s=>(x.sn=sum/\x.sn<=x.st/\x.st<=x.en/\last<=x.nx/\x.nx<=4611686018427387904)/\kC x.nx x.en t s
theorem kC.le:∀{l:List Pl} {last sum s:Nat},kC last sum l s->sum<=s
 |[],_,_,_,h=>Nat.le_of_eq h
 |x::t,_,_,_,h=>by have:=kC.le h.2;have:=h.1;omega
theorem kC.mem:∀{l:List Pl} {last sum s:Nat},kC last sum l s->∀x∈l,sum<=x.sn/\x.sn<=x.st/\x.st<=x.en/\x.en<=s/\x.nx<=4611686018427387904
 |[],_,_,_,_=>λx c=>by cases c
 |y::t,_,_,_,h=>λx c=>by
  have d:=h.1
  have e:=kC.le h.2
  rcases abX.1 c with rfl|c
  ·omega
  ·have:=kC.mem h.2 x c;omega
def Am (x:Pl):List Nat:=[x.nx,x.st-x.sn,x.en-x.st]
theorem qpb (hb:∀x∈b,x<256):∀(k p last sum:Nat) {l:List Pl} {q s:Nat},p<=abr b->kK b k p last sum=some (l,q,s)->abr l=k/\kC last sum l s/\p<=q/\q<=abr b/\b.take q=b.take p++(l.flatMap Am).flatMap ak
 |0,p,last,sum,l,q,s,c,h=>by
  have h:some (([]:List Pl),p,sum)=some (l,q,s):=h
  injection h with h;injection h with g h;injection h with d e
  subst g d e
  exact ⟨rfl,rfl,abx _,c,by simp⟩
 | k + 1, p, last, sum, l, q, s, c, h => by
  rw [kK] at h
  split at h
  ·rename_i hc
   obtain ⟨f,j⟩:=hc
   obtain ⟨⟨z,A,B⟩,g,d⟩:=Option.map_eq_some_iff.1 h
   injection d with d e;injection e with e i
   dsimp only at d e i
   subst d e i
   obtain ⟨n,o,r,t,u⟩:=qpb hb k _ _ _ (zmu c) g
   unfold uZ at f
   rw [abH,abH] at f
   have v:=OW hb c f.1
   have w:=OW hb (xJ c) f.2.1
   have y:=OW hb (xJ (xJ c)) f.2.2
   refine ⟨by rw [abS,n],⟨⟨rfl,adC _ _,adC _ _,j,U0⟩,o⟩,?_,t,?_⟩
   ·exact adg (adg U1 (adg U1 U1)) r
   ·rw [u]
    show b.take (bJ b (bJ b (bJ b p)))++_=_
    rw [y,w,v,abO]
    unfold Am lZ l5 nI
    simp_all
  ·cases h
structure xK (b:List Nat) (L:List Pl):Prop where
 form:∃(l:List Pl) (p s:Nat),L=l.map (Pl.up (p+4))/\kC 0 0 l s/\p+4+s=abr b/\abr l<=1024/\b.take (p+4)=aY ([113,97,1]++(abr l::l.flatMap Am).flatMap ak)
 few:abr b<=16777216
theorem U4 (hb:∀x∈b,x<256) {L:List Pl} (h:bT b=(L,0)):xK b L:=by
 unfold bT at h
 split at h
 ·injection h with _ h;cases h
 ·rename_i d
  split at h
  ·injection h with _ h;cases h
  ·rename_i c
   have c:b.take 3=[113,97,1]:=ady.1 c
   split at h
   ·injection h with _ h;cases h
   ·rename_i l p s hi
    split at h
    ·rename_i hc
     obtain ⟨r,g,i⟩:=hc
     injection h with h _
     have e:3<=abr b:=by
      grind
     have f:fP b 3 1024=true:=by
      grind [q99,fP]
     rw [f,KN] at hi
     obtain ⟨j,n,u,v,w⟩:=qpb hb _ _ _ _ (xJ e) hi
     have t:=OW hb e f
     refine ⟨⟨l,p,s,h.symm,n,i,by rw [j];exact U0,?_⟩,by omega⟩
     have y:=Yr (l:=b.take (p+4)) (λx o=>hb x (aco o)) g
     grind
    ·injection h with _ h;cases h
end
def bn (b:List Nat) (i j:Nat):List Nat:=(b.take j).drop i
theorem Eh {i j:Nat} (h:j<=abr b):abr (bn b i j)=j-i:=by grind [bn]
def KO (h:∀x∈b,x<256) (i j:Nat):∀x∈bn b i j,x<256:=λx c=>h x (aco (abQ c))
def dz (b:List Nat) (x:Pl):Nat:=
 if oG (bn b x.sn x.st)≠0 then oG (bn b x.sn x.st)
 else if (lS (bn b x.sn x.st)).next≠(x.nx:Int) then 412
 else (readAll (bn b x.st x.en)).2
def zaa {x:Pl} (h:oG (bn b x.sn x.st)≠0):dz b x=oG (bn b x.sn x.st):=by unfold dz;rw [if_pos h]
def zmv {x:Pl} (h:oG (bn b x.sn x.st)=0) (c:(lS (bn b x.sn x.st)).next≠(x.nx:Int)):dz b x=412:=by unfold dz;rw [if_neg (λn=>n h),if_pos c]
def U5 {x:Pl} (h:oG (bn b x.sn x.st)=0) (c:(lS (bn b x.sn x.st)).next=(x.nx:Int)):dz b x=(readAll (bn b x.st x.en)).2:=by unfold dz;rw [if_neg (λn=>n h),if_neg (λn=>n c)]
def jQ (b:List Nat):List Pl->Nat->Option (Nat×Nat)
 |[],_=>none
 |x::t,i=>if dz b x≠0 then some (i,dz b x) else jQ b t (i+1)
def iI (b:List Nat):List Pl->Nat->List Nat
 |[],_=>[]
 |x::t,i=>if dz b x=0 then i::iI b t (i+1) else iI b t (i+1)
structure Pv where
 s:dG
 bs:List Bk
def Pv.zero:Pv:=⟨xI,[]⟩
def l6:List Pv->Int->Nat->Int×Nat
 |[],_,_=>(-1,0)
 |x::t,last,i=>if dP x.s≠0 then ((i:Int),dP x.s) else if fZ x.bs≠0 then ((i:Int),fZ x.bs) else if x.s.next<last then ((i:Int),411) else l6 t x.s.next (i+1)
def qG (l:List Pv):Int×Nat:=if 1024<abr l then (-1,5) else l6 l 0 0
def jR (x:Pv):List Nat:=[aK x.s.next,abr (dD x.s),(ze x.bs).1.length]
def mF (l:List Pv) (i:Nat):List Nat:=abr l::(l.take i).flatMap jR
def rD (d:List Nat×Bool) (x:Pv):List Nat×Bool:=
 if (d.2||decide ((ze x.bs).2≠0)||decide (16777216<abr d.1+abr (dD x.s)+(ze x.bs).1.length))=true then (d.1,true) else (d.1++dD x.s++(ze x.bs).1,false)
def stA (l:List Pv):Nat->List Nat×Bool
 |0=>([],false)
 |i+1=>rD (stA l i) (l.getD i Pv.zero)
def headA (l:List Pv):List Nat:=aY ([113,97,1]++(mF l (abr l)).flatMap ak)
def oH (l:List Pv):List Nat×Nat:=
 if (qG l).2≠0 then ([],(qG l).2)
 else if (stA l (abr l)).2=true\/16777216<abr (headA l)+(stA l (abr l)).1.length then ([],3)
 else (headA l++(stA l (abr l)).1,0)
theorem zqc (d:∀z∈l,z<256) (h:oG l=0):dP (lS l)=0/\dD (lS l)=l:=by
 cases ho:gq l with
 |error k=>
  rw [(tT ho).1] at h
  have:=UK ho
  omega
 | ok p =>
  by_cases c:p.okB=true/\dP p.rX=0
  ·grind [q95,q97]
  ·rw [(OU ho c).1] at h
   cases h
section
variable {b:List Nat} {L:List Pl} {l:List Pv} {a:Nat}
def rE (a:Nat) (L:List Pl) (i:Nat):Nat:=match i with
 |0=>a
 |i+1=>(L.getD i Pl.zero).en
theorem kC.at:∀{l:List Pl} {last c s i:Nat},kC last c l s->i<abr l->(l.getD i Pl.zero).sn=rE c l i/\(0<i->(l.getD (i-1) Pl.zero).nx<=(l.getD i Pl.zero).nx)/\(i=0->last<=(l.getD i Pl.zero).nx)
 |x::t,last,c,s,0,h,_=>⟨h.1.1,λh=>absurd h (Nat.lt_irrefl 0),λ_=>h.1.2.2.2.1⟩
 | x :: t, last, c, s, i + 1, h, hi => by
  have hi:i<abr t:=adZ hi
  obtain ⟨d,e,f⟩:=kC.at h.2 hi
  refine ⟨?_,λ_=>?_,λh=>absurd h (ahc i)⟩
  ·show (t.getD i Pl.zero).sn=_
   rw [d]
   cases i with
   |zero=>rfl
   |succ i=>rfl
  ·grind
def kC.last:∀{l:List Pl} {last c s:Nat},kC last c l s->rE c l (abr l)=s
 |[],_,_,_,h=>h
 |x::t,last,c,s,h=>by
  have d:=kC.last h.2
  rw [<-d]
  cases t with
  |nil=>rfl
  |cons y t=>rfl
theorem FV (h:i<abr L):(L.map (Pl.up a)).getD i Pl.zero=(L.getD i Pl.zero).up a:=by grind
def zab {s i:Nat} (h:i<=abr L):rE (s+a) (L.map (Pl.up a)) i=rE s L i+a:=by
 cases i with
 |zero=>rfl
 |succ i=>show ((L.map (Pl.up a)).getD i Pl.zero).en=_;rw [FV om];rfl
theorem zqd (x:Pl):Am (x.up a)=Am x:=by grind [Pl.up,Am]
structure xL (b:List Nat) (L:List Pl) (a:Nat):Prop where
 sn:∀i,i<abr L->(L.getD i Pl.zero).sn=rE a L i/\(L.getD i Pl.zero).sn<=(L.getD i Pl.zero).st/\(L.getD i Pl.zero).st<=(L.getD i Pl.zero).en/\(L.getD i Pl.zero).en<=abr b/\(L.getD i Pl.zero).nx<=4611686018427387904
 nx:∀i,0<i->i<abr L->(L.getD (i-1) Pl.zero).nx<=(L.getD i Pl.zero).nx
 low:a<=abr b
 last:rE a L (abr L)=abr b
 few:abr L<=1024
 head:b.take a=aY ([113,97,1]++(abr L::L.flatMap Am).flatMap ak)
theorem xK.at (h:xK b L):∃a,xL b L a:=by
 obtain ⟨l,p,s,rfl,hc,m,e,g⟩:=h.form
 have c:abr (l.map (Pl.up (p+4)))=abr l:=abz ..
 refine ⟨p+4,λi hi=>?_,λi j hi=>?_,by omega,?_,by rw [c];exact e,?_⟩
 ·rw [c] at hi
  have n:=hc.at hi
  have o:=hc.mem _ (qf Pl.zero hi)
  have d:=zab (a:=p+4) (s:=0) (L:=l) (i:=i) om
  grind [Pl.up,FV]
 ·rw [c] at hi
  rw [FV hi,FV om]
  exact (hc.at hi).2.1 j
 ·have d:=zab (a:=p+4) (s:=0) (L:=l) (i:=abr l) (abx _)
  rw [ab9] at d
  rw [c,d,hc.last]
  omega
 ·rw [c,g]
  have k:(l.map (Pl.up (p+4))).flatMap Am=l.flatMap Am:=by
   rw [ag4]
   exact congrArg (λf=>l.flatMap f) (funext λx=>zqd x)
  rw [k]
end
structure Pm where
 z:dG
 A:ajq
 c:Nat
 q:List Hb
def Pm.zero:Pm:=⟨xI,none,0,[]⟩
def Pm.v (p:Pm):Pv:=⟨p.z,p.q.map ac2⟩
def Pm.cells (p:Pm):Array ajh:= #[.int .i64 p.z.next,.int .i64 p.z.st.au,.int .u64 (p.z.st.aj:Int),.slice p.z.st.gA (abr p.z.st.gs) p.z.st.gc,.slice p.z.st.lA (abr p.z.st.cl) p.z.st.lc,.slice p.z.st.uA (abr p.z.st.cu) p.z.st.uc,.slice p.z.st.tA (abr p.z.st.ts) p.z.st.tc,.slice p.z.st.sA (abr p.z.st.rs) p.z.st.sc,.slice p.A (abr p.q) p.c]
def iJ (p:Pm):List ajh:=p.cells.toList
def OX (p:Pm):abr (iJ p)=9:=rfl
structure gM (w:ajg) (p:Pm):Prop where
 st:fC w p.z.st
 bl:Rd w w.heap.size 5 p.A (abr p.q) (p.q.flatMap hbL)
 ev:pF w p.q
theorem gM.old {p:Pm} (h:gM W p) (a:Mem W w fs):gM w p:=⟨h.st.old a,a.old h.bl,h.ev.old a⟩
structure fF (p:Pm):Prop where
 ok:p.z.st.ay.Ok
 few:cZ p.z.st
 cap:gD p.z.st
 nx:aX p.z.next
 OY:∀h∈p.q,h.b.Ok
 U6:∀h∈p.q,abr h.b.evs<=1000000
 len:abr p.q<=1000000
 pc:abr p.q<=p.c
def jd (p:Pm):List ajr:=jV p.z.st++(.row (.slice p.A (abr p.q) p.c) (abr p.q) (p.q.flatMap hbL) 85 5::gH 73 p.q)
def dH (l:List Pm):List ajr:=l.flatMap jd
section
variable {W w w':ajg} {F T:List ajr} {p:Pm} {l:List Pm}
theorem Mem.Ao (h:Mem W w F) (hs:∀f∈jd p,f∈F):gM w p:=
 ⟨h.DF λf a=>hs f (adS _ a),h.kE (hs _ (adi _ (aci ..))),h.Ro λf a=>hs f (adi _ (ab5 _ a))⟩
theorem Mem.zq4 (h:Mem W w F) (hs:∀f∈dH l,f∈F):∀p∈l,gM w p:=λp a=>h.Ao λf b=>hs f (acT.2 ⟨p,a,b⟩)
def quj:dH (l++[p])=dH l++jd p:=by unfold dH;rw [abZ];simp
end
def dn:SI abt 53 9:=⟨by kernel_rfl,by kernel_rfl⟩
def nJ:EI abt 24 53 (.agg #[.int .i64 0,.int .i64 0,.int .u64 0,.slice none 0 0,.slice none 0 0,.slice none 0 0,.slice none 0 0,.slice none 0 0,.slice none 0 0]) 9 168:=⟨by kernel_rfl,by kernel_rfl,rfl,by omega⟩
def kL:SI abt 57 4:=⟨by kernel_rfl,by kernel_rfl⟩
def xM:EI abt 35 57 (.agg #[.int .i64 0,.int .i64 0,.int .i64 0,.int .i64 0]) 4 32:=⟨by kernel_rfl,by kernel_rfl,rfl,by omega⟩
def zmw:SI abt 131 5:=⟨by kernel_rfl,by kernel_rfl⟩
def BQ:SI abt 126 10:=⟨by kernel_rfl,by kernel_rfl⟩
def yZ (p:Pm):∀v∈p.cells.toList,v.oneCell'=true:=by
 intro v a
 simp only [Pm.cells,abX,acA,or_false] at a
 rcases a with rfl|rfl|rfl|rfl|rfl|rfl|rfl|rfl|rfl<;>rfl
def U7 (p:Pl):∀v∈p.cells.toList,v.oneCell'=true:=by
 intro v a
 simp only [Pl.cells,abX,acA,or_false] at a
 rcases a with rfl|rfl|rfl|rfl<;>rfl
section
variable {l:List Pm} {i:Nat} {last:Int}
def zmx (h:i<abr l):l6 ((l.map Pm.v).drop i) last i=if dP (l.getD i Pm.zero).z≠0 then ((i:Int),dP (l.getD i Pm.zero).z) else if fZ ((l.getD i Pm.zero).q.map ac2)≠0 then ((i:Int),fZ ((l.getD i Pm.zero).q.map ac2)) else if (l.getD i Pm.zero).z.next<last then ((i:Int),411) else l6 ((l.map Pm.v).drop (i+1)) (l.getD i Pm.zero).z.next (i+1):=by
 rw [acv (by rw [abz];exact h),l6,List.getElem_map,abw,abv h]
 rfl
def zad:l6 ((l.map Pm.v).drop (abr l)) last i=(-1,0):=by
 rw [adG (by rw [abz];exact abx _)]
 rfl
def qc2 {R:Int×Nat} {v n:Int} (h:R=(v,m)) (a:n=(m:Int)) (hb:Below w.heap.size w w'):Is w (.tuple #[.int .i64 R.1,.int .i64 (R.2:Int)]) (.returned (.tuple #[.int .i64 v,.int .i64 n])) w':=by
 subst h a
 exact ⟨rfl,hb⟩
end
theorem qz8 (s:dG):abr (dD s)<=6000007:=by grind [dP,Fu,SB,q7r,yR]
section
variable {l:List Pm} {lv:List Pv} {i:Nat} {x:Pm} {d wb:List Nat} {lg:Bool} {we ce:Nat} {ci:Int}
theorem U8 (hi:i<abr l) (c:l.getD i Pm.zero=x) (a:stA (l.map Pm.v) i=(d,lg)) (e:ze (x.q.map ac2)=(wb,we)) (h:lg=true\/we≠0\/16777216<abr d+abr (dD x.z)+abr wb):stA (l.map Pm.v) (i+1)=(d,true):=by grind [Pm.v,Pm.zero,Pv.zero,getD_at,stA,rD]
theorem zqe (hi:i<abr l) (c:l.getD i Pm.zero=x) (a:stA (l.map Pm.v) i=(d,lg)) (e:ze (x.q.map ac2)=(wb,we)) (h:¬(lg=true\/we≠0\/16777216<abr d+abr (dD x.z)+abr wb)):stA (l.map Pm.v) (i+1)=(d++dD x.z++wb,false):=by grind [Pm.v,Pm.zero,Pv.zero,getD_at,stA,rD]
def dF (l:List Pm) (i:Nat):List Nat:=abr l::(l.take i).flatMap λp=>jR p.v
theorem q3t (hi:i<abr l) (a:l.getD i Pm.zero=x) (c:ze (x.q.map ac2)=(wb,we)):dF l (i+1)=dF l i++[aK x.z.next,abr (dD x.z),abr wb]:=by grind [Pm.v,Pm.zero,dF,dD,jR,yM,aK]
theorem zae:dF l (abr l)=mF (l.map Pm.v) (abr (l.map Pm.v)):=by grind [dF,mF,ag4,abz,adb]
theorem KP:∀i,i<=abr l->abr (dF l i)=1+3*i:=λi h=>by
 unfold dF
 rw [abS]
 have key:∀m:List Pm,abr (m.flatMap λp=>jR p.v)=3*abr m:=λm=>by
  induction m with
  |nil=>rfl
  |cons a t b=>rw [abO,abu,b,abS];show 3+_=_;omega
 grind
theorem zaf:0<abr ((dF l i).flatMap ak):=by grind [dF,HV]
theorem zgb (h:abr l<=1000000):∀i,∀x∈dF l i,x<18446744073709551616:=λi x c=>by
 rcases abX.1 c with rfl|c
 ·omega
 ·obtain ⟨p,_,a⟩:=acT.1 c
  have e:=qz8 p.z
  have f:=Ny (p.q.map ac2)
  rcases abX.1 a with rfl|a
  ·exact Dr _
  ·rcases abX.1 a with rfl|a
   ·show abr (dD p.z)<_;omega
   ·grind [ze]
def q3u (h:qG lv=(ci,ce)) (a:ce≠0):oH lv=([],ce):=by unfold oH;rw [h];exact if_pos a
theorem qm1 (h:qG lv=(ci,ce)) (b:ce=0) (a:stA lv (abr lv)=(d,lg)) (c:lg=true\/16777216<abr (headA lv)+abr d):oH lv=([],3):=by grind [oH]
theorem zag (h:qG lv=(ci,ce)) (b:ce=0) (a:stA lv (abr lv)=(d,lg)) (c:¬(lg=true\/16777216<abr (headA lv)+abr d)):oH lv=(headA lv++d,0):=by grind [oH]
end
def BZ (W:ajg) (d e f:Nat) (b:List Nat) (A:ajq) (c p:Nat) (a:Bool) (most:Nat) (fr:List ajr) (r:ajk) (g:ajg):Prop:=
 r= .returned (.int .i64 (eu b p most:Int))/\Mem W g (ah7 d A (abr b) c::.blk e #[.int .i64 (bJ b p:Int)] 3::aiY f (a&&fP b p most)::fr)
def V6 {p most:Nat} {a d:Bool} {fr:List ajr} {q:Nat} (h1:bJ b p=q) (f:(a&&fP b p most)=d)
  (h:Mem W w (.blk m #[.slice A (abr b) c] 30:: .blk g #[.int .i64 (q:Int)] 3:: .blk e #[.bool d] 4::fr)):BZ W m g e b A c p a most fr (.returned (.int .i64 (eu b p most:Int))) w:=by
 subst h1 f
 exact ⟨rfl,h⟩
section
variable {b:List Nat} {p k last sum i K p0:Nat} {ok ok0 o1 o2 o3:Bool} {out:List Pl}
def iK (b:List Nat) (ok0:Bool) (K p0:Nat) (ok:Bool) (k p last sum:Nat) (out:List Pl):Prop:=lF b ok0 K p0 0 0=(lF b ok k p last sum).map λr=>(out++r.1,r.2)
def zm4:iK b ok0 K p0 ok0 K p0 0 0 []:=by
 unfold iK
 cases lF b ok0 K p0 0 0<;>rfl
def mG (b:List Nat) (p sum:Nat):Pl:=⟨lZ b p,sum,sum+l5 b p,sum+l5 b p+nI b p⟩
theorem iK.step (h:iK b ok0 K p0 ok (k+1) p last sum out) (a:(((ok&&fP b p 4611686018427387904)&&fP b (bJ b p) 16777216)&&fP b (bJ b (bJ b p)) 16777216)=true) (c:last<=lZ b p):iK b ok0 K p0 true k (rowP b p) (lZ b p) (sum+l5 b p+nI b p) (out++[mG b p sum]):=by
 rw [aeo,aeo,abH] at a
 unfold iK at h⊢
 rw [h,a.1,KN,KN,kK,if_pos ⟨by unfold uZ;rw [<-aeo];rw [<-aeo] at a;exact a.2,c⟩,Option.map_map]
 congr 1
 funext r
 show (out++(_::r.1),r.2)=((out++[_])++r.1,r.2)
 rw [aby]
 rfl
theorem iK.stop (h:iK b ok0 K p0 ok (k+1) p last sum out) (c:¬((((ok&&fP b p 4611686018427387904)&&fP b (bJ b p) 16777216)&&fP b (bJ b (bJ b p)) 16777216)=true/\last<=lZ b p)):lF b ok0 K p0 0 0=none:=by
 unfold iK at h
 rw [h]
 cases ok with
 |false=>rfl
 | true =>
  rw [KN,kK,if_neg]
  ·rfl
  ·rintro ⟨a,d⟩
   refine c ⟨?_,d⟩
   unfold uZ at a
   rw [acj,aeo]
   exact a
theorem iK.fin (h:iK b ok0 K p0 true 0 p last sum out):lF b ok0 K p0 0 0=some (out,p,sum):=by grind [iK,KN,kK]
theorem iK.bad (h:iK b ok0 K p0 false k p last sum out):lF b ok0 K p0 0 0=none:=by
 unfold iK at h
 rw [h,q99]
 rfl
def zm5:lZ b p<=4611686018427387904:=rT _ _
def zm6:l5 b p<=16777216:=rT _ _
def zm7:nI b p<=16777216:=rT _ _
end
def FY (w:ajg) (R:List Pl×Nat) (r:ajk) (a:ajg):Prop:=
 (∃A c,r= .returned (.tuple #[.slice A (abr R.1) c,.int .i64 (R.2:Int)])/\a.ownsRow w.heap.size 57 4 (.slice A (abr R.1) c) (abr R.1) (R.1.flatMap gU)/\abr R.1<=c)/\Below w.heap.size w a
def Ay {R:List Pl×Nat} {n:Int} (hb:Below w.heap.size w W) (a:R=([],er)) (c:n=er):FY w R (.returned (.tuple #[.slice none 0 0,.int .i64 n])) W:=by
 subst a c
 exact ⟨⟨none,0,rfl,World.ownsRow_nil _ _ _ _,abx _⟩,hb⟩
def zat {R:List Pl×Nat} {L:List Pl} (a:R=(L,0)) (d:n=abr L) (e:W.ownsRow w.heap.size 57 4 (.slice A n c) n (L.flatMap gU)) (hc:n<=c) (hb:Below w.heap.size w W):FY w R (.returned (.tuple #[.slice A n c,.int .i64 0])) W:=by
 subst a d
 exact ⟨⟨A,c,rfl,e,hc⟩,hb⟩
def Pl.Az (a:Nat) (x:Pl):Pl:={x with sn:=x.sn+a}
def Pl.Eu (a:Nat) (x:Pl):Pl:={x with sn:=x.sn+a,st:=x.st+a}
theorem zau {f:Pl->Pl} {l:List Pl} (h:abr l<=k):gN f l k=l.map f:=by grind [gN,adG,abM]
abbrev aiS {α β:Type}:=λa b (c:List α) d e f (g:List β) h i j k l=>(.blk a #[.slice b (abr c) d,vI e,.slice f (abr (g++[h])) i,j] 300::.row (.slice f (abr (g++[h])) i) (abr (g++[h])) k 41 1::l:List ajr)
def xS (W:ajg) (g p:Nat) (A:ajq) (c:Nat) (b q:List Nat) (h:ajh) (fs:List ajr) (r:ajk) (d:ajg):Prop:=
 (∃x e f a,bN b p x e/\r= .returned (vQ x)/\abr (q++[x])<=a/\Mem W d (aiS g A b c e f q x a h ((q++[x]).map bG) fs))\/((aD (b.drop p)).2.2≠0/\lD W fs (rW gW 344) r d)
def zgf {g p:Nat} {A:ajq} {c:Nat} {b q:List Nat} {z:ajh} (h:(aD (b.drop p)).2.2≠0) (a:lD W fs (rW gW 344) r w):xS W g p A c b q z fs r w:= .inr ⟨h,a⟩
def zgg {p:Nat} (h:bN b p x e) (hr:r= .returned (vQ x)) (hc:abr (q++[x])<=m) (hm:Mem W w (.blk g #[.slice A (abr b) c,vI e,.slice E (abr (q++[x])) m,z] 300:: .row (.slice E (abr (q++[x])) m) (abr (q++[x])) ((q++[x]).map bG) 41 1::fs)):xS W g p A c b q z fs r w:= .inl ⟨x,e,E,m,h,hr,hc,hm⟩
def qpd (W w:ajg) (g p:Nat) (A D:ajq) (c E:Nat) (b q:List Nat) (m:ajh) (fs:List ajr) (I:Mem W w (.blk g #[.slice A (abr b) c,vI p,.slice D (abr q) E,m] 300:: .row (.slice D (abr q) E) (abr q) (q.map bG) 41 1::fs)) (o:Rd W W.heap.size 1 A (abr b) (b.map B8)) (r:abr b<=c) (J:∀z∈b,z<256) (hb:abr b<=16777216) (F:p<=abr b) (R:abr q<=p):
    Calls abt 280 #[vP g 0] w (xS W g p A c b q m fs):=by
 refine (fE Tryz.func280 42) ?_
 refine (JC (h:=by exact λd=>I)) ?_
 have l:∃x n s,aD (b.drop p)=(x,n,s):=⟨_,_,_,rfl⟩
 obtain ⟨x,n,s,l⟩:=l
 have t:∀z∈b.drop p,z<256:=λz hz=>J z (abQ hz)
 have K:abr (b.drop p)=abr b-p:=abE
 refine (cB 1) λa Z d=>?_
 refine wp_seq ?_
 refine Jb Z d ((Vs .n []) λL=>(Vp [0,4]∘Vn 1∘Vf 2 0∘Vc 3 O0∘Vn 5∘Vf 6 1∘Vc 7 O0∘Vy 8 (v:= .slice (if c=p then A else A.map (·.add (p*1))) (abr b-p) (c-p)) (h:=by exact aaf bD (j:=p) rfl rfl rfl om)∘Vo (.slice (if c=p then A else A.map (·.add (p*1))) (abr (b.drop p)) (c-p)) (by rw [abE])∘VI 9 .n (h:=by exact λd=>zf3 l (KD (d.old o) F r) t om)) λM N=>(Vp [10]∘Vx 11∘Vx 12∘Vx 13∘Vp [14,15,16]∘Vd∘bM 2∘bU∘Jj) (Jh (λf=>?_) λf=>?_))
 ·
  refine (JT∘JR) λa Z d=>?_
  refine fo Z 0 rfl rfl ?_
  exact pR Z [vI 344] rfl (OE 344 _ (d.pt 2 [])) λS d=>FL Z (zgf (q9r l f) ⟨rfl,d⟩)
 have u:s=0:=by omega
 subst u
 have G:=qzz F l
 refine (aP∘aM 1∘Jn∘Jg 1 O0∘Jp 1∘Ja∘Jn∘Jf 1∘JW aN gu) λH=>(jh∘bg 2∘Jn∘Jg 2 O0∘Jp 1∘JU kT #[vQ x]) λO P=>(JD [bG x] 2 (λ_ _=>iE) kT (hr:=by exact λd=>d.bE (i:=0) (n:=1) (size:=1) rfl rfl) (h1:=by simp [abV,bG,B8])) λQ y B k=>(Jn∘Jf 2∘JW gu iE) λC=>(jh∘Jq) ?_
 have e:abr q+1=abr (q++[x]):=oo rfl
 rw [e] at k
 exact (JC (h:=by exact λd=>d.bq (i:=2) (ys:=(q++[x]).map bG) rfl e (by simp))∘JC (h:=by exact λd=>d.dX (i:=1) (ds:= #[abo A b c,vI (p+n:Nat),abo y (q++[x]) B,m]) rfl (by rw [e];try rfl))∘JG∘aM 2∘kV∘aQ∘aW) λd=>zgg (.of l) rfl k (d.pt 3 [1,2])
def Pj (W w:ajg) (g p:Nat) (A d:ajq) (c a:Nat) (b q:List Nat) (i:ajh) (fs:List ajr) (m:Mem W w (.blk g #[.slice A (abr b) c,vI p,.slice d (abr q) a,i] 300:: .row (.slice d (abr q) a) (abr q) (q.map bG) 41 1::fs)) (j:Rd W W.heap.size 1 A (abr b) (b.map B8)) (k:abr b<=c) (n:∀z∈b,z<256) (hb:abr b<=16777216) (o:p<=abr b) (s:abr q<=p) {x e:Nat} (h:bN b p x e):
  Calls abt 280 #[vP g 0] w (λr l=>r= .returned (vQ x)/\∃d a,abr (q++[x])<=a/\Mem W l (aiS g A b c e d q x a i ((q++[x]).map bG) fs)):=
 (qpd W w g p A d c a b q i fs m j k n hb o s).mono λr l t => by
  rcases t with ⟨B,e2,d,a,f,u,v,y⟩|⟨f,_⟩
  ·obtain ⟨rfl,rfl⟩:=bN.one h f
   exact ⟨u,d,a,v,y⟩
  ·rw [h.1] at f;exact absurd rfl f
def Pk (W w:ajg) (g p:Nat) (A a:ajq) (c d:Nat) (b q:List Nat) (j:ajh) (fs:List ajr) (k:Mem W w (.blk g #[.slice A (abr b) c,vI p,.slice a (abr q) d,j] 300:: .row (.slice a (abr q) d) (abr q) (q.map bG) 41 1::fs)) (e:Rd W W.heap.size 1 A (abr b) (b.map B8)) (f:abr b<=c) (l:∀z∈b,z<256) (hb:abr b<=16777216) (m:p<=abr b) (n:abr q<=p) (h:(aD (b.drop p)).2.2≠0):
  Calls abt 280 #[vP g 0] w (lD W fs (rW gW 344)):=
 (qpd W w g p A a c d b q j fs k e f l hb m n).mono λr s o => by
  rcases o with ⟨t,e2,a,d,i,u,v,x⟩|⟨_,i⟩
  ·rw [i.1] at h;exact absurd rfl h
  ·exact i
def tX (W:ajg) (g p:Nat) (A:ajq) (c:Nat) (b q:List Nat) (i:ajh) (f hi:Nat) (fs:List ajr) (r:ajk) (a:ajg):Prop:=
 (∃x e h d,bN b p x e/\¬(x<f\/hi<x)/\r= .returned (vI x)/\abr (q++[x])<=d/\Mem W a (aiS g A b c e h q x d i ((q++[x]).map bG) fs))\/((∃x e,bN b p x e/\(x<f\/hi<x))/\lD W fs (rW gW 345) r a)\/((aD (b.drop p)).2.2≠0/\lD W fs (rW gW 344) r a)
def zgh {g p:Nat} {A:ajq} {c:Nat} {b q:List Nat} {z:ajh} {m hi:Nat} (h:(aD (b.drop p)).2.2≠0) (a:lD W fs (rW gW 344) r w):tX W g p A c b q z m hi fs r w:= .inr (.inr ⟨h,a⟩)
def qup {g p:Nat} {A:ajq} {c:Nat} {b q:List Nat} {z:ajh} (h:bN b p x e) (a:x<m\/hi<x) (d:lD W fs (rW gW 345) r w):tX W g p A c b q z m hi fs r w:= .inr (.inl ⟨⟨x,e,h,a⟩,d⟩)
def zgi {p:Nat} (h:bN b p x e) (a:¬(x<m\/hi<x)) (hr:r= .returned (vI x)) (hc:abr (q++[x])<=k) (hm:Mem W w (.blk g #[.slice A (abr b) c,vI e,.slice E (abr (q++[x])) k,z] 300:: .row (.slice E (abr (q++[x])) k) (abr (q++[x])) ((q++[x]).map bG) 41 1::fs)):tX W g p A c b q z m hi fs r w:= .inl ⟨x,e,E,k,h,a,hr,hc,hm⟩
def VO (W w:ajg) (g p:Nat) (A m:ajq) (c n:Nat) (b q:List Nat) (o:ajh) (fs:List ajr) (u hi:Nat) (C:hi<9223372036854775808) (D:Mem W w (.blk g #[.slice A (abr b) c,vI p,.slice m (abr q) n,o] 300:: .row (.slice m (abr q) n) (abr q) (q.map bG) 41 1::fs)) (i:Rd W W.heap.size 1 A (abr b) (b.map B8)) (j:abr b<=c) (r:∀z∈b,z<256) (hb:abr b<=16777216) (v:p<=abr b) (y:abr q<=p):
    Calls abt 281 #[vP g 0,vQ u,vQ hi] w (tX W g p A c b q o u hi fs):=by
 refine (vC Tryz.func281 21) ?_
 refine (JC (h:=by exact λd=>D)∘cB 1∘JQ) λa Z d=>?_
 rcases FN b p with f|⟨x,e,f⟩
 ·
  refine Jb Z d ((JR∘Jp 1) λa Z d=>?_)
  refine fo Z 1 rfl rfl ?_
  exact pR Z [vP g 0] rfl (Pk W _ g p A m c n b q o _ (d.pt 2 [0,1]) i j r hb v y f) λB d=>FL Z (zgh f ⟨rfl,(d)⟩)
 ·
  have E:=f.lt r
  refine Jb Z d ((JR∘Jp 1∘JL (h:=by exact λd=>Pj W _ g p A m c n b q o _ (d.pt 2 [0,1]) i j r hb v y f)) ?_)
  rintro d _ F ⟨rfl,G,H,s,t⟩
  refine ⟨_,rfl,_,t,?_⟩
  refine (Jp 1∘bU∘Jj∘bM 4) (Ji (λk=>?_) λk=>?_)
  ·
   refine (Jp 4∘aI∘Jj∘JT∘JR) λa Z d=>?_
   refine fo Z 0 rfl rfl ?_
   exact pR Z [vI 345] rfl (OE 345 _ (d.pt 2 [])) λB d=>FL Z (qup f (.inl om) ⟨rfl,d⟩)
  refine (Jp 4∘aI∘Jj) (Ji (λl=>?_) λl=>?_)
  ·
   refine (JT∘JR) λa Z d=>?_
   refine fo Z 0 rfl rfl ?_
   exact pR Z [vI 345] rfl (OE 345 _ (d.pt 2 [])) λB d=>FL Z (qup f (.inr om) ⟨rfl,d⟩)
  exact (aP∘aM 1∘Jw .i64∘Jp 1∘bU∘aQ∘aW) λd=>zgi f om rfl s (d.pt 2 [0,1])
def Pn (W w:ajg) (g p:Nat) (A d:ajq) (c a:Nat) (b q:List Nat) (i:ajh) (fs:List ajr) (j hi:Nat) (k:hi<9223372036854775808) (s:Mem W w (.blk g #[.slice A (abr b) c,vI p,.slice d (abr q) a,i] 300:: .row (.slice d (abr q) a) (abr q) (q.map bG) 41 1::fs)) (l:Rd W W.heap.size 1 A (abr b) (b.map B8)) (m:abr b<=c) (t:∀z∈b,z<256) (hb:abr b<=16777216) (u:p<=abr b) (v:abr q<=p) {x e:Nat} (h:bN b p x e) (y:¬(x<j\/hi<x)):
  Calls abt 281 #[vP g 0,vQ j,vQ hi] w (λr o=>r= .returned (vI x)/\∃d a,abr (q++[x])<=a/\Mem W o (aiS g A b c e d q x a i ((q++[x]).map bG) fs)):=
 (VO W w g p A d c a b q i fs j hi k s l m t hb u v).mono λr o B => by
  rcases B with ⟨C,e2,d,a,f,_,n,D,E⟩|⟨⟨C,e2,f,n⟩,_⟩|⟨f,_⟩
  ·obtain ⟨rfl,rfl⟩:=bN.one h f
   exact ⟨n,d,a,D,E⟩
  ·obtain ⟨rfl,rfl⟩:=bN.one h f
   exact absurd n y
  ·rw [h.1] at f;exact absurd rfl f
def VP (W w:ajg) (g p:Nat) (A d:ajq) (c f:Nat) (b q:List Nat) (m:ajh) (fs:List ajr) (i hi:Nat) (j:hi<9223372036854775808) (n:Mem W w (.blk g #[.slice A (abr b) c,vI p,.slice d (abr q) f,m] 300:: .row (.slice d (abr q) f) (abr q) (q.map bG) 41 1::fs)) (k:Rd W W.heap.size 1 A (abr b) (b.map B8)) (l:abr b<=c) (o:∀z∈b,z<256) (hb:abr b<=16777216) (s:p<=abr b) (t:abr q<=p) {x e:Nat} (h:bN b p x e) (u:x<i\/hi<x):
  Calls abt 281 #[vP g 0,vQ i,vQ hi] w (lD W fs (rW gW 345)):=
 (VO W w g p A d c f b q m fs i hi j n k l o hb s t).mono λr B v => by
  rcases v with ⟨C,e2,d,f,a,y,_⟩|⟨_,a⟩|⟨a,_⟩
  ·obtain ⟨rfl,rfl⟩:=bN.one h a
   exact absurd u y
  ·exact a
  ·rw [h.1] at a;exact absurd rfl a
def VQ (W w:ajg) (g p:Nat) (A d:ajq) (c e:Nat) (b q:List Nat) (k:ajh) (fs:List ajr) (l hi:Nat) (f:hi<9223372036854775808) (m:Mem W w (.blk g #[.slice A (abr b) c,vI p,.slice d (abr q) e,k] 300:: .row (.slice d (abr q) e) (abr q) (q.map bG) 41 1::fs)) (i:Rd W W.heap.size 1 A (abr b) (b.map B8)) (j:abr b<=c) (n:∀z∈b,z<256) (hb:abr b<=16777216) (o:p<=abr b) (s:abr q<=p) (h:(aD (b.drop p)).2.2≠0):
  Calls abt 281 #[vP g 0,vQ l,vQ hi] w (lD W fs (rW gW 344)):=
 (VO W w g p A d c e b q k fs l hi f m i j n hb o s).mono λr v t => by
  rcases t with ⟨u,e2,d,e,a,_⟩|⟨⟨u,e2,a,_⟩,_⟩|⟨_,a⟩
  ·rw [a.1] at h;exact absurd rfl h
  ·rw [a.1] at h;exact absurd rfl h
  ·exact a
def VR (W:ajg) (g p:Nat) (A:ajq) (c:Nat) (b q:List Nat) (h:ajh) (n:Nat) (fs:List ajr) (r:ajk) (d:ajg):Prop:=
 (∃xs e f a,zx b n p xs e/\r= .returned (.tuple #[])/\abr (q++xs)<=a/\Mem W d (.blk g #[.slice A (abr b) c,vI e,.slice f (abr (q++xs)) a,h] 300:: .row (.slice f (abr (q++xs)) a) (abr (q++xs)) ((q++xs).map bG) 41 1::fs))\/((aV n (b.drop p)).2.2≠0/\lD W fs (rW gW 344) r d)
def zan {g p:Nat} {A:ajq} {c:Nat} {b q:List Nat} {z:ajh} (h:(aV n (b.drop p)).2.2≠0) (a:lD W fs (rW gW 344) r w):VR W g p A c b q z n fs r w:= .inr ⟨h,a⟩
def zao {p:Nat} (h:zx b n p xs e) (hr:r= .returned (.tuple #[])) (hc:abr (q++xs)<=m) (hm:Mem W w (.blk g #[.slice A (abr b) c,vI e,.slice E (abr (q++xs)) m,z] 300:: .row (.slice E (abr (q++xs)) m) (abr (q++xs)) ((q++xs).map bG) 41 1::fs)):VR W g p A c b q z n fs r w:= .inl ⟨xs,e,E,m,h,hr,hc,hm⟩
def q0d (W w:ajg) (g p:Nat) (A i:ajq) (c f:Nat) (b q:List Nat) (o:ajh) (fs:List ajr) (n:Nat) (F:n<=1000000) (l:abr q<=f) (G:Mem W w (.blk g #[.slice A (abr b) c,vI p,.slice i (abr q) f,o] 300:: .row (.slice i (abr q) f) (abr q) (q.map bG) 41 1::fs)) (r:Rd W W.heap.size 1 A (abr b) (b.map B8)) (s:abr b<=c) (C:∀z∈b,z<256) (hb:abr b<=16777216) (H:p<=abr b) (N:abr q<=p):
    Calls abt 282 #[vP g 0,vI n] w (VR W g p A c b q o n fs):=by
 refine (iQ Tryz.func282 10) ?_
 refine (JC (h:=by exact λd=>G)∘aM 2∘Jq) λa Z d=>?_
 rw [<-abN q] at d
 refine Jb Z d ((JG∘JB) λa Z d=>?_)
 refine qg (λD I J=>∃(k:Nat) (xs:List Nat) (e:Nat) (i:ajq) (f:Nat),(zx b k p xs e)/\(k<=n)/\(abr (q++xs)<=f)/\D=n-k/\Fr I 10 [] ((0,vP g 0)::ah8 4 n 5 k [])/\Mem W J (.blk g #[abo A b c,vI e,abo i (q++xs) f,o] 300:: abp i (q++xs) f bG 41 1::fs)) (m:=n-0) ⟨0,[],p,i,f,zx.nil b p,abC _,(by rw [abN];exact l),rfl,Z.sub kr,d.pt 2 [0,1]⟩ ?_
 clear Z d;rintro D a O ⟨k,xs,e,i,f,j,K,l,rfl,Z,d⟩
 have E:=j.in H
 refine Jb Z d ((cB 1∘JQ) (Ji (λv=>?_) λv=>?_))
 ·
  refine (eP) ?_
  have t:k<n:=by omega
  intro a Z d
  rcases FN b e with u|⟨x,e2,u⟩
  ·
   refine Jb Z d ((JR∘Jp 1) λa Z d=>?_)
   refine fo Z 1 rfl rfl ?_
   exact pR Z [vP g 0] rfl (Pk W _ g e A i c f b (q++xs) o _ (d.pt 2 [0,1]) r s C hb om (by rw [abu];omega) u) λP d=>FL Z (zan (j.stuck t u) ⟨rfl,d⟩)
  ·
   refine Jb Z d ((JR∘Jp 1∘JL (h:=by exact λd=>Pj W _ g e A i c f b (q++xs) o _ (d.pt 2 [0,1]) r s C hb om (by rw [abu];omega) u)) ?_)
   rintro d _ Q ⟨rfl,L,M,y,B⟩
   refine ⟨_,rfl,_,B,?_⟩
   refine (nO∘Jq) λa Z d=>?_
   unfold aiS at d;rw [aby] at d
   refine Jb Z d ((JG∘JR∘dx 1∘Jp 1∘aL∘Jq) λa Z d=>?_)
   exact ⟨_,om,k+1,(xs++[x]),e2,L,M,j.snoc u,t,(by rwa [aby] at y),rfl,Z.sub kr,d.pt 2 [0,1]⟩
 refine (JF∘JX) ?_
 obtain rfl:k=n:=by omega
 intro a Z d
 exact iD rfl Z (zao j rfl l d)
def K4 (W w:ajg) (g p:Nat) (A d:ajq) (c a:Nat) (b q:List Nat) (i:ajh) (fs:List ajr) (n:Nat) (j:n<=1000000) (k:abr q<=a) (s:Mem W w (.blk g #[.slice A (abr b) c,vI p,.slice d (abr q) a,i] 300:: .row (.slice d (abr q) a) (abr q) (q.map bG) 41 1::fs)) (l:Rd W W.heap.size 1 A (abr b) (b.map B8)) (m:abr b<=c) (t:∀z∈b,z<256) (hb:abr b<=16777216) (u:p<=abr b) (v:abr q<=p) {xs:List Nat} {e:Nat} (h:zx b n p xs e):
  Calls abt 282 #[vP g 0,vI n] w (λr o=>r= .returned (.tuple #[])/\∃d a,abr (q++xs)<=a/\Mem W o (.blk g #[.slice A (abr b) c,vI e,.slice d (abr (q++xs)) a,i] 300:: .row (.slice d (abr (q++xs)) a) (abr (q++xs)) ((q++xs).map bG) 41 1::fs)):=
 (q0d W w g p A d c a b q i fs n j k s l m t hb u v).mono λr o x => by
  rcases x with ⟨D,e2,d,a,f,y,B,C⟩|⟨f,_⟩
  ·obtain ⟨rfl,rfl⟩:=zx.one h f
   exact ⟨y,d,a,B,C⟩
  ·rw [h.1] at f;exact absurd rfl f
def K5 (W w:ajg) (g p:Nat) (A d:ajq) (c a:Nat) (b q:List Nat) (l:ajh) (fs:List ajr) (n:Nat) (e:n<=1000000) (f:abr q<=a) (m:Mem W w (.blk g #[.slice A (abr b) c,vI p,.slice d (abr q) a,l] 300:: .row (.slice d (abr q) a) (abr q) (q.map bG) 41 1::fs)) (i:Rd W W.heap.size 1 A (abr b) (b.map B8)) (j:abr b<=c) (o:∀z∈b,z<256) (hb:abr b<=16777216) (s:p<=abr b) (t:abr q<=p) (h:(aV n (b.drop p)).2.2≠0):
  Calls abt 282 #[vP g 0,vI n] w (lD W fs (rW gW 344)):=
 (q0d W w g p A d c a b q l fs n e f m i j o hb s t).mono λr v u => by
  rcases u with ⟨x,e2,d,a,k,y,B,C⟩|⟨_,k⟩
  ·rw [k.1] at h;exact absurd rfl h
  ·exact k
def zqh (W w:ajg) (g p:Nat) (u y:ajh) (q:ajq) (sc:Nat) (l:List j4) (nm:ByteArray) (fs:List ajr) (D:Mem W w (.blk g #[u,vI p,y,abo q l sc] 300:: abq q l sc iA 435 3::fs)) (E:abr l<=1000):
    Calls abt 279 #[vP g 0,.string nm] w (λr F=>r= .returned (.tuple #[])/\∃q sc,abr (l++[(⟨nm,lY l,p⟩:j4)])<=sc/\Mem W F (.blk g #[u,vI p,y,.slice q (abr (l++[(⟨nm,lY l,p⟩:j4)])) sc] 300:: .row (.slice q (abr (l++[(⟨nm,lY l,p⟩:j4)])) sc) (abr (l++[(⟨nm,lY l,p⟩:j4)])) ((l++[(⟨nm,lY l,p⟩:j4)]).flatMap iA) 435 3::fs)):=by
 refine (iQ Tryz.func279 38) ?_
 refine (JC (h:=by exact λb=>D)∘cB 1∘bM 1∘Jn∘Jg 3 O0∘Jl∘Jp 1∘fK∘bg 2∘aL∘Jj) (Ji (λs=>?_) λs=>?_)
 ·
  refine (JT∘JR∘Jp 1∘Jn∘Jg 3 O0∘Jp 1∘zG 1) ?_
  repeat (first|clear Z|clear b)
  intro a Z b
  obtain ⟨G,rfl⟩:=b.rat 1 (abr l-1)
  refine Jb Z b ((nP (abr l-1) 3∘Jf 2∘Jy (v:=vI ((l.getD (abr l-1) j4.zero).to)) (h:=by exact Pd rfl rfl kr (λ_ h=>h.qv zej (i:=1) rfl (k:=(abr l-1)) (off:=2) (x:=(l.getD (abr l-1) j4.zero)) ((getD_at j4.zero om)) rfl))∘Jo (vI (lY l)) (by exact rfl)∘Jp 1∘aI∘Jj∘Vs (.t (.f .n)) [16]) λz=>(Vp [0,1,5,6,7]∘Vn 2∘Vf 3 3∘Vc 4 O0∘Vn 8∘Vf 9 1∘Vc 10 O0∘Vy 11 (v:= .agg #[.string nm,vI (lY l),vI p]) (h:=by exact Yl.build (vs:=((0,.string nm)::ah8 1 (lY l) 2 p [])) rfl kr kr)) λa Z b m=>?_)
  refine s_on Z 12 rfl (jG Z b Ph [(0,.agg #[.string nm,vI (lY l),vI p])] #[.string nm,vI (lY l),vI p] ?_)
  clear Z b;intro a A B Z b
  refine av (b.pt 3 [1]) (λm=>?_)
  refine s_on Z 13 rfl (su Z b (i:=2) rfl Ph rfl rfl rfl (news:=([(⟨nm,lY l,p⟩:j4)].flatMap iA)) (b.bE (i:=0) (n:=1) (size:=3) rfl rfl) (q7s _) om om rfl de ?_)
  clear Z b;intro a C e j Z b d
  refine av (b.pt 3 [1]) (λm=>?_)
  refine Vb Z b m ((Vn 14∘Vf 15 3) λa Z b m=>?_)
  refine s_on Z 16 rfl (eU Z b 1 λo b=>?_)
  refine dR kr ?_
  refine qe kr ?_
  have c:abr l+1=abr (l++[(⟨nm,lY l,p⟩:j4)]):=oo rfl
  rw [c] at d
  replace b:=b.bq (i:=2) (ys:=(l++[(⟨nm,lY l,p⟩:j4)]).flatMap iA) rfl c (List.flatMap_append.symm)
  replace Z:=Z.sp 35 (abo e (l++[(⟨nm,lY l,p⟩:j4)]) j) rfl (iZ c)
  replace b:=b.dX (i:=1) (ds:= #[u,vI p,y,abo e (l++[(⟨nm,lY l,p⟩:j4)]) j]) rfl (by rw [c];try rfl)
  exact iD rfl Z ⟨rfl,e,j,d,b.pt 3 [1,2]⟩
 intro a Z b
 replace Z:=Z.sp 4 (vI (lY l)) rfl (by rw [zf1 (l:=l) om];rfl)
 refine Jb Z b ((aP∘Vs (.t (.f .n)) [16]) λz=>(Vp [0,1,5,6,7]∘Vn 2∘Vf 3 3∘Vc 4 O0∘Vn 8∘Vf 9 1∘Vc 10 O0∘Vy 11 (v:= .agg #[.string nm,vI (lY l),vI p]) (h:=by exact Yl.build (vs:=((0,.string nm)::ah8 1 (lY l) 2 p [])) rfl kr kr)) λa Z b m=>?_)
 refine s_on Z 12 rfl (jG Z b Ph [(0,.agg #[.string nm,vI (lY l),vI p])] #[.string nm,vI (lY l),vI p] ?_)
 clear Z b;intro a A B Z b
 refine av (b.pt 3 [1]) (λm=>?_)
 refine s_on Z 13 rfl (su Z b (i:=2) rfl Ph rfl rfl rfl (news:=([(⟨nm,lY l,p⟩:j4)].flatMap iA)) (b.bE (i:=0) (n:=1) (size:=3) rfl rfl) (q7s _) om om rfl de ?_)
 clear Z b;intro a C e j Z b d
 refine av (b.pt 3 [1]) (λm=>?_)
 refine Vb Z b m ((Vn 14∘Vf 15 3) λa Z b m=>?_)
 refine s_on Z 16 rfl (eU Z b 1 λo b=>?_)
 refine dR kr ?_
 refine qe kr ?_
 have c:abr l+1=abr (l++[(⟨nm,lY l,p⟩:j4)]):=oo rfl
 rw [c] at d
 replace b:=b.bq (i:=2) (ys:=(l++[(⟨nm,lY l,p⟩:j4)]).flatMap iA) rfl c (List.flatMap_append.symm)
 replace Z:=Z.sp 35 (abo e (l++[(⟨nm,lY l,p⟩:j4)]) j) rfl (iZ c)
 replace b:=b.dX (i:=1) (ds:= #[u,vI p,y,abo e (l++[(⟨nm,lY l,p⟩:j4)]) j]) rfl (by rw [c];try rfl)
 exact iD rfl Z ⟨rfl,e,j,d,b.pt 3 [1,2]⟩
def Aw (W w:ajg) (g p:Nat) (e f:ajh) (d:ajq) (sc:Nat) (l:List j4) (nm:ByteArray) (fs:List ajr) (m:Mem W w (.blk g #[e,vI p,f,.slice d (abr l) sc] 300:: .row (.slice d (abr l) sc) (abr l) (l.flatMap iA) 435 3::fs)) (j:abr l<=1000) {l2:List j4} (h:l++[(⟨nm,lY l,p⟩:j4)]=l2):
  Calls abt 279 #[vP g 0,.string nm] w (λr o=>r= .returned (.tuple #[])/\∃d sc,abr l2<=sc/\Mem W o (.blk g #[e,vI p,f,.slice d (abr l2) sc] 300:: .row (.slice d (abr l2) sc) (abr l2) (l2.flatMap iA) 435 3::fs)):=by
 subst h
 exact zqh W w g p e f d sc l nm fs m j
abbrev aiU {α β:Type}:=λa (b:List α) c d e (f:List β) g h i=>(.row (.slice a (abr b) c) (abr b) d 41 1::.row (.slice e (abr f) g) (abr f) h 435 3::i:List ajr)
def Po (W:ajg) (g:Nat) (A:ajq) (c:Nat) (b:List Nat) (fs:List ajr) (r:ajk) (e:ajg):Prop:=
 (∃p f d h sc,tO b= .ok p/\r= .returned (vI 0)/\abr p.nums<=d/\abr p.secs<=sc/\Mem W e (.blk g #[.slice A (abr b) c,vI ((abr b+4:Nat):Int),.slice f (abr p.nums) d,.slice h (abr p.secs) sc] 300::aiU f p.nums d (p.nums.map bG) h p.secs sc (p.secs.flatMap iA) fs))\/(∃k:Nat,tO b= .error k/\r= .returned (vI k)/\Mem W e fs)
section
variable {W w:ajg} {g g2 c k i n:Nat} {A:ajq} {b:List Nat} {fs ks:List ajr} {σ:List (Nat×ajh)} {a:Act}
def tY (Z:Fr a n [{target:= .fn (.func 278) [Value.pointer (some ⟨g2,0,none⟩)].toArray,args:= #[]}] σ) (d:σ.lookup 2=some (vP g2 0)) (e:Mem W w ks) (hi:ks[i]?=some (.blk g2 #[vI 0] gW)) (f:tO b= .error k) (j:List Nat) (h:j.Nodup) (l:picks (ks.set i (.blk g2 #[vI k] gW)) j=fs):
  Leaves abt Tryz.f240 a.tmps (Po W g A c b fs) a.defers (.panicking (rW gW k)) w:=by
 refine q3r (v:=vI k) Z kr (q9x k 0 w e hi rfl) rfl λo hm=>⟨?_,.inr ⟨k,f,rfl,hm.picks j h l⟩⟩
 have m:=(abF.1 hi).1
 exact mU.cell1 (i:=i) Z hm d (adk m) kr rfl
def zgj (Z:Fr a n [{target:= .fn (.func 278) [Value.pointer (some ⟨g2,0,none⟩)].toArray,args:= #[]}] σ) (e:σ.lookup 2=some (vP g2 0)) (f:Mem W w ks) (hi:ks[i]?=some (.blk g2 #[vI 0] gW)) (hk:∀d,Mem W d (ks.set i (.blk g2 #[vI 0] gW))->Po W g A c b fs (.returned (vI 0)) d):
  Leaves abt Tryz.f240 a.tmps (Po W g A c b fs) a.defers .returning w:=by
 refine q9q (v:=vI 0) Z kr (q3s 0 w f hi rfl) rfl λd hm=>⟨?_,hk d hm⟩
 have h:=(abF.1 hi).1
 exact mU.cell1 (i:=i) Z hm e (adk h) kr rfl
end
def q0f (nx cp cr gp:Nat) (gs cl cu:List Nat) (tk:Nat) (ts sp:List Nat) (e1 e2 e3 e4 e5 e6 e7:Nat):(⟨nx,cp,cr,gp,gs,cl,cu,tk,ts,sp,e1,e2,e3,e4,e5,e6,e7⟩:Pr).nums=((((((((((([]:List Nat)++[nx])++[cp])++[cr])++[gp])++gs)++cl)++cu)++[tk])++ts)++sp):=by simp [Pr.nums]
abbrev ahX:=λa b c d e f g h i j k l m n o=>(.blk a #[.slice b c d,vI e,.slice f g h,.slice i j k] 300::.row (.slice i j k) j l 435 3::.row (.slice f g h) g m 41 1::.blk n #[vI 0] 27::o:List ajr)
abbrev aiv {α:Type}:=λa b (c:List α) d e f g h i j k l m n=>(.blk a #[abo b c d,vI e,.slice f g h,.slice i j k] 300::.row (.slice i j k) j l 435 3::.row (.slice f g h) g m 41 1::n:List ajr)
abbrev aiL {α:Type}:=λa b c d e f (g:List α) h i j k l m=>(.blk a #[.slice b c d,vI e,abo f g h,.slice i j k] 300::.row (.slice i j k) j l 435 3::m:List ajr)
def q0g (W w : ajg) (g : Nat) (A : ajq) (c : Nat) (b : List Nat) (HW : Mem W w [.blk g #[.slice A (abr b) c, vI 0, vN, vN] 300]) (j : Rd W W.heap.size 1 A (abr b) (b.map B8)) (l : abr b <= c) (F : ∀ z ∈ b, z < 256) (hb : abr b <= 16777216) (hb3 : 3 <= abr b) :
    Calls abt 240 #[vP g 0] w (Po W g A c b []):=by
 refine quc (vs:=[vP g 0]) Tryz.func240 rfl rfl kr (σ0:=[(0,vP g 0)]) rfl ?_
 intro a Z
 have d:=Mem.start w
 replace d:=(HW.nil 435 3).nil 41 1
 have hc0:abr ([]:List Nat)<=0:=abx _
 have r:tO b=tO b:=rfl
 have hq0:abr ([]:List Nat)<=3:=abC _
 refine Jb Z d ((JP∘JA #[vI 0]) λw2 g2=>(Jr∘Jy (h:=by exact Yl.makeFunc (fst:=[]) (caps:=[vP g2 0]) rfl rfl rfl)) λa Z d=>?_)
 refine fo Z 1 rfl rfl ?_
 refine zmk Z (f:=278) (caps:=[vP g2 0]) rfl rfl rfl ?_
 clear Z;intro a Z
 refine Jb Z d ((mW∘bg 1∘Jn∘Jf 1∘JW oI gu) λasO=>(oK∘bg 1∘JL (h:=by exact λd=>Aw (l2:=[qh]) W _ g 3 _ _ none 0 ([]:List j4) _ _ (d.pk [3,2,0,1]) (acI rfl) rfl)) ?_)
 rintro d _ sD ⟨rfl,K6,k10,hk10,e⟩
 refine ⟨_,rfl,_,e,?_⟩
 refine (nO∘Jq∘JC (h:=by exact λd=>(show Mem W _ [.blk g #[.slice A (abr b) c,vI 3,abo none ([]:List Nat) 0,.slice K6 ([qh].length) k10] 300,.row (.slice K6 ([qh].length) k10) ([qh].length) ([qh].flatMap iA) 435 3,.blk g2 #[vI 0] 27,abp none ([]:List Nat) 0 bG 41 1] from d))∘JG∘JQ) λa Z d=>?_
 rcases FN b 3 with t|⟨nx,e1,t⟩
 ·
  refine Jb Z d ((JR∘Jp 1) λa Z d=>?_)
  refine fo Z 1 rfl rfl ?_
  exact pR Z [vP g 0] rfl (Pk W _ g 3 A none c 0 b ([]:List Nat) (.slice K6 ([qh].length) k10) _ (d.pk [0,3,1,2]) j l F hb hb3 hq0 t) λw2 d=>tY Z rfl d (i:=1) rfl (r.trans (OB t)) [] de rfl
 ·
  have r:=r.trans t.go1
  have G:=t.in hb3
  have Q:=rA (x:=nx) hq0 G.1
  refine Jb Z d ((JR∘Jp 1∘JL (h:=by exact λd=>Pj W _ g 3 A none c 0 b ([]:List Nat) (.slice K6 ([qh].length) k10) _ (d.pk [0,3,1,2]) j l F hb hb3 hq0 t)) ?_)
  rintro d _ yL ⟨rfl,K7,c12,asP,e⟩
  refine ⟨_,rfl,_,e,?_⟩
  refine (nO∘bg 1∘JL (h:=by exact λd=>Aw (l2:=[qh,⟨qb 0,3,e1⟩]) W _ g e1 _ _ K6 k10 ([qh]) _ _ (d.pk [0,2,1,3]) (acI rfl) rfl)) ?_
  rintro d _ Nb ⟨rfl,H,I,asQ,e⟩
  refine ⟨_,rfl,_,e,?_⟩
  refine (nO∘Jq∘JC (h:=by exact λd=>(show Mem W _ [.blk g #[.slice A (abr b) c,vI e1,abo K7 (([]:List Nat)++[nx]) c12,.slice H ([qh,⟨qb 0,3,e1⟩].length) I] 300,.row (.slice H ([qh,⟨qb 0,3,e1⟩].length) I) ([qh,⟨qb 0,3,e1⟩].length) ([qh,⟨qb 0,3,e1⟩].flatMap iA) 435 3,abp K7 (([]:List Nat)++[nx]) c12 bG 41 1,.blk g2 #[vI 0] 27] from d))∘JG∘JQ) λa Z d=>?_
  rcases OD b e1 1 64 with p|⟨cp,a1,p,J⟩|⟨cp,a1,p,J⟩
  ·
   refine Jb Z d ((JR∘Jp 1) λa Z d=>?_)
   refine fo Z 1 rfl rfl ?_
   exact pR Z [vP g 0,vQ 1,vQ 64] rfl (VQ W _ g e1 A K7 c c12 b (([]:List Nat)++[nx]) (.slice H ([qh,⟨qb 0,3,e1⟩].length) I) _ 1 64 de (d.pk [0,2,1,3]) j l F hb G.2 Q p) λw2 d=>tY Z rfl d (i:=1) rfl (r.trans (OC p)) [] de rfl
  ·
   refine Jb Z d ((JR∘Jp 1) λa Z d=>?_)
   refine fo Z 1 rfl rfl ?_
   exact pR Z [vP g 0,vQ 1,vQ 64] rfl (VP W _ g e1 A K7 c c12 b (([]:List Nat)++[nx]) (.slice H ([qh,⟨qb 0,3,e1⟩].length) I) _ 1 64 de (d.pk [0,2,1,3]) j l F hb G.2 Q p J) λw2 d=>tY Z rfl d (i:=1) rfl (r.trans (p.bad J)) [] de rfl
  ·
   have r:=r.trans (p.goC J)
   have R:=p.in G.2
   have Y:=rA (x:=cp) Q R.1
   refine Jb Z d ((JR∘Jp 1∘JL (h:=by exact λd=>Pn W _ g e1 A K7 c c12 b (([]:List Nat)++[nx]) (.slice H ([qh,⟨qb 0,3,e1⟩].length) I) _ 1 64 de (d.pk [0,2,1,3]) j l F hb G.2 Q p J)) ?_)
   rintro d _ w16 ⟨rfl,A16,c16,hc16,e⟩
   refine ⟨_,rfl,_,e,?_⟩
   refine (Jp 1∘bU∘Jj∘JQ) λa Z d=>?_
   rcases FN b a1 with u|⟨cr,a2,u⟩
   ·
    refine Jb Z d ((JR∘Jp 1) λa Z d=>?_)
    refine fo Z 1 rfl rfl ?_
    exact pR Z [vP g 0] rfl (Pk W _ g a1 A A16 c c16 b ((([]:List Nat)++[nx])++[cp]) (.slice H ([qh,⟨qb 0,3,e1⟩].length) I) _ (d.pk [0,1,2,3]) j l F hb R.2 Y u) λw2 d=>tY Z rfl d (i:=1) rfl (r.trans (OB u)) [] de rfl
   ·
    have r:=r.trans u.go1
    have K:=u.in R.2
    have S:=rA (x:=cr) Y K.1
    refine Jb Z d ((JR∘Jp 1∘JL (h:=by exact λd=>Pj W _ g a1 A A16 c c16 b ((([]:List Nat)++[nx])++[cp]) (.slice H ([qh,⟨qb 0,3,e1⟩].length) I) _ (d.pk [0,1,2,3]) j l F hb R.2 Y u)) ?_)
    rintro d _ zJ ⟨rfl,Pp,c18,hc18,e⟩
    refine ⟨_,rfl,_,e,?_⟩
    refine (nO∘Jj∘JQ) λa Z d=>?_
    rcases OD b a2 1 256 with q|⟨gp,e2,q,L⟩|⟨gp,e2,q,L⟩
    ·
     refine Jb Z d ((JR∘Jp 1) λa Z d=>?_)
     refine fo Z 1 rfl rfl ?_
     exact pR Z [vP g 0,vQ 1,vQ 256] rfl (VQ W _ g a2 A Pp c c18 b (((([]:List Nat)++[nx])++[cp])++[cr]) (.slice H ([qh,⟨qb 0,3,e1⟩].length) I) _ 1 256 de (d.pk [0,1,2,3]) j l F hb K.2 S q) λw2 d=>tY Z rfl d (i:=1) rfl (r.trans (OC q)) [] de rfl
    ·
     refine Jb Z d ((JR∘Jp 1) λa Z d=>?_)
     refine fo Z 1 rfl rfl ?_
     exact pR Z [vP g 0,vQ 1,vQ 256] rfl (VP W _ g a2 A Pp c c18 b (((([]:List Nat)++[nx])++[cp])++[cr]) (.slice H ([qh,⟨qb 0,3,e1⟩].length) I) _ 1 256 de (d.pk [0,1,2,3]) j l F hb K.2 S q L) λw2 d=>tY Z rfl d (i:=1) rfl (r.trans (q.bad L)) [] de rfl
    ·
     have r:=r.trans (q.goC L)
     have T:=q.in K.2
     have xU:=rA (x:=gp) S T.1
     refine Jb Z d ((JR∘Jp 1∘JL (h:=by exact λd=>Pn W _ g a2 A Pp c c18 b (((([]:List Nat)++[nx])++[cp])++[cr]) (.slice H ([qh,⟨qb 0,3,e1⟩].length) I) _ 1 256 de (d.pk [0,1,2,3]) j l F hb K.2 S q L)) ?_)
     rintro d _ EY ⟨rfl,Pq,c20,K8,e⟩
     refine ⟨_,rfl,_,e,?_⟩
     refine (Jp 1∘bU∘Jq) ?_
     have h3:3*cp*(gp-1)<=192*255:=Nat.mul_le_mul om om
     refine (JG∘aM 1∘JL (h:=by exact λd=>Aw (l2:=[qh,⟨qb 0,3,e1⟩,⟨qb 1,e1,e2⟩]) W _ g e2 _ _ H I ([qh,⟨qb 0,3,e1⟩]) _ _ (d.pk [0,2,1,3]) (acI rfl) rfl)) ?_
     rintro d _ QJ ⟨rfl,K9,k22,asR,e⟩
     refine ⟨_,rfl,_,e,?_⟩
     refine (nO∘Jq∘JC (h:=by exact λd=>(show Mem W _ (ahX g A (abr b) c e2 Pq (abr ((((([]:List Nat)++[nx])++[cp])++[cr])++[gp])) c20 K9 ([qh,⟨qb 0,3,e1⟩,⟨qb 1,e1,e2⟩].length) k22 ([qh,⟨qb 0,3,e1⟩,⟨qb 1,e1,e2⟩].flatMap iA) (((((([]:List Nat)++[nx])++[cp])++[cr])++[gp]).map bG) g2 []) from d))∘JG∘JQ) λa Z d=>?_
     rcases FP b (2*(gp-1)) e2 with v|⟨gs,e3,v⟩
     ·
      refine Jb Z d ((JR∘Jp 2∘zG 1∘Jp 1∘Jo (vI (2*(gp-1):Nat)) (by exact q7 om om)) λa Z d=>?_)
      refine fo Z 4 rfl rfl ?_
      exact pR Z [vP g 0,vI (2*(gp-1):Nat)] rfl (K5 W _ g e2 A Pq c c20 b ((((([]:List Nat)++[nx])++[cp])++[cr])++[gp]) (.slice K9 ([qh,⟨qb 0,3,e1⟩,⟨qb 1,e1,e2⟩].length) k22) _ (2*(gp-1)) om K8 (d.pk [0,2,1,3]) j l F hb T.2 xU v) λw2 d=>tY Z rfl d (i:=1) rfl (r.trans (FM v)) [] de rfl
     ·
      have r:=r.trans v.goK
      have M:=v.in T.2
      have xV:=rC (xs:=gs) xU M.1 M.2.1
      refine Jb Z d ((JR∘Jp 2∘zG 1∘Jp 1∘Jo (vI (2*(gp-1):Nat)) (by exact q7 om om)∘JL (h:=by exact λd=>K4 W _ g e2 A Pq c c20 b ((((([]:List Nat)++[nx])++[cp])++[cr])++[gp]) (.slice K9 ([qh,⟨qb 0,3,e1⟩,⟨qb 1,e1,e2⟩].length) k22) _ (2*(gp-1)) om K8 (d.pk [0,2,1,3]) j l F hb T.2 xU v)) ?_)
      rintro d _ Fx ⟨rfl,Pt,Pw,hc27,e⟩
      refine ⟨_,rfl,_,e,?_⟩
      refine (qL∘bg 1∘JL (h:=by exact λd=>Aw (l2:=[qh,⟨qb 0,3,e1⟩,⟨qb 1,e1,e2⟩,⟨qb 2,e2,e3⟩]) W _ g e3 _ _ K9 k22 ([qh,⟨qb 0,3,e1⟩,⟨qb 1,e1,e2⟩]) _ _ (d.pk [0,2,1,3]) (acI rfl) rfl)) ?_
      rintro d _ w29 ⟨rfl,La,Lb,asS,e⟩
      refine ⟨_,rfl,_,e,?_⟩
      refine (nO∘Jq∘JC (h:=by exact λd=>(show Mem W _ (ahX g A (abr b) c e3 Pt (abr (((((([]:List Nat)++[nx])++[cp])++[cr])++[gp])++gs)) Pw La ([qh,⟨qb 0,3,e1⟩,⟨qb 1,e1,e2⟩,⟨qb 2,e2,e3⟩].length) Lb ([qh,⟨qb 0,3,e1⟩,⟨qb 1,e1,e2⟩,⟨qb 2,e2,e3⟩].flatMap iA) ((((((([]:List Nat)++[nx])++[cp])++[cr])++[gp])++gs).map bG) g2 []) from d))∘JG∘JQ) λa Z d=>?_
      rcases FP b cp e3 with y|⟨cl,e4,y⟩
      ·
       refine Jb Z d ((JR∘Jp 2) λa Z d=>?_)
       refine fo Z 2 rfl rfl ?_
       exact pR Z [vP g 0,vI cp] rfl (K5 W _ g e3 A Pt c Pw b (((((([]:List Nat)++[nx])++[cp])++[cr])++[gp])++gs) (.slice La ([qh,⟨qb 0,3,e1⟩,⟨qb 1,e1,e2⟩,⟨qb 2,e2,e3⟩].length) Lb) _ cp om hc27 (d.pk [0,2,1,3]) j l F hb M.2.2 xV y) λw2 d=>tY Z rfl d (i:=1) rfl (r.trans (FM y)) [] de rfl
      ·
       have r:=r.trans y.goK
       have N:=y.in M.2.2
       have xW:=rC (xs:=cl) xV N.1 N.2.1
       refine Jb Z d ((JR∘Jp 2∘JL (h:=by exact λd=>K4 W _ g e3 A Pt c Pw b (((((([]:List Nat)++[nx])++[cp])++[cr])++[gp])++gs) (.slice La ([qh,⟨qb 0,3,e1⟩,⟨qb 1,e1,e2⟩,⟨qb 2,e2,e3⟩].length) Lb) _ cp om hc27 (d.pk [0,2,1,3]) j l F hb M.2.2 xV y)) ?_)
       rintro d _ w32 ⟨rfl,Px,c32,hc32,e⟩
       refine ⟨_,rfl,_,e,?_⟩
       refine (oK∘bg 1∘JL (h:=by exact λd=>Aw (l2:=[qh,⟨qb 0,3,e1⟩,⟨qb 1,e1,e2⟩,⟨qb 2,e2,e3⟩,⟨qb 3,e3,e4⟩]) W _ g e4 _ _ La Lb ([qh,⟨qb 0,3,e1⟩,⟨qb 1,e1,e2⟩,⟨qb 2,e2,e3⟩]) _ _ (d.pk [0,2,1,3]) (acI rfl) rfl)) ?_
       rintro d _ Rx ⟨rfl,Lc,Ld,asT,e⟩
       refine ⟨_,rfl,_,e,?_⟩
       refine (nO∘Jq∘JC (h:=by exact λd=>(show Mem W _ (ahX g A (abr b) c e4 Px (abr ((((((([]:List Nat)++[nx])++[cp])++[cr])++[gp])++gs)++cl)) c32 Lc ([qh,⟨qb 0,3,e1⟩,⟨qb 1,e1,e2⟩,⟨qb 2,e2,e3⟩,⟨qb 3,e3,e4⟩].length) Ld ([qh,⟨qb 0,3,e1⟩,⟨qb 1,e1,e2⟩,⟨qb 2,e2,e3⟩,⟨qb 3,e3,e4⟩].flatMap iA) (((((((([]:List Nat)++[nx])++[cp])++[cr])++[gp])++gs)++cl).map bG) g2 []) from d))∘JG∘JQ) λa Z d=>?_
       rcases FP b cp e4 with B|⟨cu,e5,B⟩
       ·
        refine Jb Z d ((JR∘Jp 2) λa Z d=>?_)
        refine fo Z 2 rfl rfl ?_
        exact pR Z [vP g 0,vI cp] rfl (K5 W _ g e4 A Px c c32 b ((((((([]:List Nat)++[nx])++[cp])++[cr])++[gp])++gs)++cl) (.slice Lc ([qh,⟨qb 0,3,e1⟩,⟨qb 1,e1,e2⟩,⟨qb 2,e2,e3⟩,⟨qb 3,e3,e4⟩].length) Ld) _ cp om hc32 (d.pk [0,2,1,3]) j l F hb N.2.2 xW B) λw2 d=>tY Z rfl d (i:=1) rfl (r.trans (FM B)) [] de rfl
       ·
        have r:=r.trans B.goK
        have s:=B.in N.2.2
        have O:=rC (xs:=cu) xW s.1 s.2.1
        refine Jb Z d ((JR∘Jp 2∘JL (h:=by exact λd=>K4 W _ g e4 A Px c c32 b ((((((([]:List Nat)++[nx])++[cp])++[cr])++[gp])++gs)++cl) (.slice Lc ([qh,⟨qb 0,3,e1⟩,⟨qb 1,e1,e2⟩,⟨qb 2,e2,e3⟩,⟨qb 3,e3,e4⟩].length) Ld) _ cp om hc32 (d.pk [0,2,1,3]) j l F hb N.2.2 xW B)) ?_)
        rintro d _ Di ⟨rfl,FW,c37,asU,e⟩
        refine ⟨_,rfl,_,e,?_⟩
        refine (oK∘bg 1∘JL (h:=by exact λd=>Aw (l2:=[qh,⟨qb 0,3,e1⟩,⟨qb 1,e1,e2⟩,⟨qb 2,e2,e3⟩,⟨qb 3,e3,e4⟩,⟨qb 4,e4,e5⟩]) W _ g e5 _ _ Lc Ld ([qh,⟨qb 0,3,e1⟩,⟨qb 1,e1,e2⟩,⟨qb 2,e2,e3⟩,⟨qb 3,e3,e4⟩]) _ _ (d.pk [0,2,1,3]) (acI rfl) rfl)) ?_
        rintro d _ Ot ⟨rfl,U,V,asV,e⟩
        refine ⟨_,rfl,_,e,?_⟩
        refine (nO∘Jq∘JC (h:=by exact λd=>(show Mem W _ (ahX g A (abr b) c e5 FW (abr (((((((([]:List Nat)++[nx])++[cp])++[cr])++[gp])++gs)++cl)++cu)) c37 U ([qh,⟨qb 0,3,e1⟩,⟨qb 1,e1,e2⟩,⟨qb 2,e2,e3⟩,⟨qb 3,e3,e4⟩,⟨qb 4,e4,e5⟩].length) V ([qh,⟨qb 0,3,e1⟩,⟨qb 1,e1,e2⟩,⟨qb 2,e2,e3⟩,⟨qb 3,e3,e4⟩,⟨qb 4,e4,e5⟩].flatMap iA) ((((((((([]:List Nat)++[nx])++[cp])++[cr])++[gp])++gs)++cl)++cu).map bG) g2 []) from d))∘JG∘JQ) λa Z d=>?_
        rcases OD b e5 0 65535 with o|⟨tk,a3,o,C⟩|⟨tk,a3,o,C⟩
        ·
         refine Jb Z d ((JR∘Jp 2) λa Z d=>?_)
         refine fo Z 2 rfl rfl ?_
         exact pR Z [vP g 0,vQ 0,vQ 65535] rfl (VQ W _ g e5 A FW c c37 b (((((((([]:List Nat)++[nx])++[cp])++[cr])++[gp])++gs)++cl)++cu) (.slice U ([qh,⟨qb 0,3,e1⟩,⟨qb 1,e1,e2⟩,⟨qb 2,e2,e3⟩,⟨qb 3,e3,e4⟩,⟨qb 4,e4,e5⟩].length) V) _ 0 65535 de (d.pk [0,2,1,3]) j l F hb s.2.2 O o) λw2 d=>tY Z rfl d (i:=1) rfl (r.trans (OC o)) [] de rfl
        ·
         refine Jb Z d ((JR∘Jp 2) λa Z d=>?_)
         refine fo Z 2 rfl rfl ?_
         exact pR Z [vP g 0,vQ 0,vQ 65535] rfl (VP W _ g e5 A FW c c37 b (((((((([]:List Nat)++[nx])++[cp])++[cr])++[gp])++gs)++cl)++cu) (.slice U ([qh,⟨qb 0,3,e1⟩,⟨qb 1,e1,e2⟩,⟨qb 2,e2,e3⟩,⟨qb 3,e3,e4⟩,⟨qb 4,e4,e5⟩].length) V) _ 0 65535 de (d.pk [0,2,1,3]) j l F hb s.2.2 O o C) λw2 d=>tY Z rfl d (i:=1) rfl (r.trans (o.bad C)) [] de rfl
        ·
         have r:=r.trans (o.goC C)
         have X:=o.in s.2.2
         have xX:=rA (x:=tk) O X.1
         rcases FP b (8*tk) a3 with D|⟨ts,e6,D⟩
         ·
          refine Jb Z d ((JR∘Jp 2∘JL (h:=by exact λd=>Pn W _ g e5 A FW c c37 b (((((((([]:List Nat)++[nx])++[cp])++[cr])++[gp])++gs)++cl)++cu) (.slice U ([qh,⟨qb 0,3,e1⟩,⟨qb 1,e1,e2⟩,⟨qb 2,e2,e3⟩,⟨qb 3,e3,e4⟩,⟨qb 4,e4,e5⟩].length) V) _ 0 65535 de (d.pk [0,2,1,3]) j l F hb s.2.2 O o C)) ?_)
          rintro d _ VT ⟨rfl,VU,VW,Eo,e⟩
          refine ⟨_,rfl,_,e,?_⟩
          refine (Jp 1∘Jo (vI (8*tk:Nat)) (by exact q7 om om)) λa Z d=>?_
          refine fo Z 4 rfl rfl ?_
          exact pR Z [vP g 0,vI (8*tk:Nat)] rfl (K5 W _ g a3 A VU c VW b ((((((((([]:List Nat)++[nx])++[cp])++[cr])++[gp])++gs)++cl)++cu)++[tk]) (.slice U ([qh,⟨qb 0,3,e1⟩,⟨qb 1,e1,e2⟩,⟨qb 2,e2,e3⟩,⟨qb 3,e3,e4⟩,⟨qb 4,e4,e5⟩].length) V) _ (8*tk) om Eo (d.pk [0,1,2,3]) j l F hb X.2 xX D) λw2 d=>tY Z rfl d (i:=1) rfl (r.trans (FM D)) [] de rfl
         ·
          have r:=r.trans D.goK
          have P:=D.in X.2
          have xY:=rC (xs:=ts) xX P.1 P.2.1
          refine Jb Z d ((JR∘Jp 2∘JL (h:=by exact λd=>Pn W _ g e5 A FW c c37 b (((((((([]:List Nat)++[nx])++[cp])++[cr])++[gp])++gs)++cl)++cu) (.slice U ([qh,⟨qb 0,3,e1⟩,⟨qb 1,e1,e2⟩,⟨qb 2,e2,e3⟩,⟨qb 3,e3,e4⟩,⟨qb 4,e4,e5⟩].length) V) _ 0 65535 de (d.pk [0,2,1,3]) j l F hb s.2.2 O o C)) ?_)
          rintro d _ VT ⟨rfl,VU,VW,Eo,e⟩
          refine ⟨_,rfl,_,e,?_⟩
          refine (Jp 1∘Jo (vI (8*tk:Nat)) (by exact q7 om om)∘JL (h:=by exact λd=>K4 W _ g a3 A VU c VW b ((((((((([]:List Nat)++[nx])++[cp])++[cr])++[gp])++gs)++cl)++cu)++[tk]) (.slice U ([qh,⟨qb 0,3,e1⟩,⟨qb 1,e1,e2⟩,⟨qb 2,e2,e3⟩,⟨qb 3,e3,e4⟩,⟨qb 4,e4,e5⟩].length) V) _ (8*tk) om Eo (d.pk [0,1,2,3]) j l F hb X.2 xX D)) ?_
          rintro d _ Rf ⟨rfl,Le,Lf,Ep,e⟩
          refine ⟨_,rfl,_,e,?_⟩
          refine (qL∘bg 1∘JL (h:=by exact λd=>Aw (l2:=[qh,⟨qb 0,3,e1⟩,⟨qb 1,e1,e2⟩,⟨qb 2,e2,e3⟩,⟨qb 3,e3,e4⟩,⟨qb 4,e4,e5⟩,⟨qb 5,e5,e6⟩]) W _ g e6 _ _ U V ([qh,⟨qb 0,3,e1⟩,⟨qb 1,e1,e2⟩,⟨qb 2,e2,e3⟩,⟨qb 3,e3,e4⟩,⟨qb 4,e4,e5⟩]) _ _ (d.pk [0,2,1,3]) (acI rfl) rfl)) ?_
          rintro d _ GN ⟨rfl,Lg,Lh,asW,e⟩
          refine ⟨_,rfl,_,e,?_⟩
          refine (nO∘Jq∘JC (h:=by exact λd=>(show Mem W _ (ahX g A (abr b) c e6 Le (abr (((((((((([]:List Nat)++[nx])++[cp])++[cr])++[gp])++gs)++cl)++cu)++[tk])++ts)) Lf Lg ([qh,⟨qb 0,3,e1⟩,⟨qb 1,e1,e2⟩,⟨qb 2,e2,e3⟩,⟨qb 3,e3,e4⟩,⟨qb 4,e4,e5⟩,⟨qb 5,e5,e6⟩].length) Lh ([qh,⟨qb 0,3,e1⟩,⟨qb 1,e1,e2⟩,⟨qb 2,e2,e3⟩,⟨qb 3,e3,e4⟩,⟨qb 4,e4,e5⟩,⟨qb 5,e5,e6⟩].flatMap iA) ((((((((((([]:List Nat)++[nx])++[cp])++[cr])++[gp])++gs)++cl)++cu)++[tk])++ts).map bG) g2 []) from d))∘JG∘JQ) λa Z d=>?_
          rcases FP b (cp+3*cp*(gp-1)) e6 with E|⟨sp,e7,E⟩
          ·
           refine Jb Z d ((JR∘Jp 4∘Jo (vI (3*cp:Nat)) (by exact q7 om om)∘Jp 1∘zG 1∘Jp 1∘Jo (vI (3*cp*(gp-1):Nat)) (by exact quf (m:=3*cp) (n:=gp-1) (by have:=h3;omega))∘Ja) λa Z d=>?_)
           refine fo Z 8 rfl rfl ?_
           exact pR Z [vP g 0,vI (cp+(3*cp*(gp-1)):Nat)] rfl (K5 W _ g e6 A Le c Lf b (((((((((([]:List Nat)++[nx])++[cp])++[cr])++[gp])++gs)++cl)++cu)++[tk])++ts) (.slice Lg ([qh,⟨qb 0,3,e1⟩,⟨qb 1,e1,e2⟩,⟨qb 2,e2,e3⟩,⟨qb 3,e3,e4⟩,⟨qb 4,e4,e5⟩,⟨qb 5,e5,e6⟩].length) Lh) _ (cp+(3*cp*(gp-1))) om Ep (d.pk [0,2,1,3]) j l F hb P.2.2 xY E) λw2 d=>tY Z rfl d (i:=1) rfl (r.trans (FM E)) [] de rfl
          ·
           have r:=r.trans E.goK
           have BS:=E.in P.2.2
           have ad8:=rC (xs:=sp) xY BS.1 BS.2.1
           refine Jb Z d ((JR∘Jp 4∘Jo (vI (3*cp:Nat)) (by exact q7 om om)∘Jp 1∘zG 1∘Jp 1∘Jo (vI (3*cp*(gp-1):Nat)) (by exact quf (m:=3*cp) (n:=gp-1) (by have:=h3;omega))∘Ja∘JL (h:=by exact λd=>K4 W _ g e6 A Le c Lf b (((((((((([]:List Nat)++[nx])++[cp])++[cr])++[gp])++gs)++cl)++cu)++[tk])++ts) (.slice Lg ([qh,⟨qb 0,3,e1⟩,⟨qb 1,e1,e2⟩,⟨qb 2,e2,e3⟩,⟨qb 3,e3,e4⟩,⟨qb 4,e4,e5⟩,⟨qb 5,e5,e6⟩].length) Lh) _ (cp+(3*cp*(gp-1))) om Ep (d.pk [0,2,1,3]) j l F hb P.2.2 xY E)) ?_)
           rintro d _ w55 ⟨rfl,Er,Es,Li,e⟩
           refine ⟨_,rfl,_,e,?_⟩
           refine (jh∘bg 1∘JL (h:=by exact λd=>Aw (l2:=[qh,⟨qb 0,3,e1⟩,⟨qb 1,e1,e2⟩,⟨qb 2,e2,e3⟩,⟨qb 3,e3,e4⟩,⟨qb 4,e4,e5⟩,⟨qb 5,e5,e6⟩,⟨qb 6,e6,e7⟩]) W _ g e7 _ _ Lg Lh ([qh,⟨qb 0,3,e1⟩,⟨qb 1,e1,e2⟩,⟨qb 2,e2,e3⟩,⟨qb 3,e3,e4⟩,⟨qb 4,e4,e5⟩,⟨qb 5,e5,e6⟩]) _ _ (d.pk [0,2,1,3]) (acI rfl) rfl)) ?_
           rintro d _ w57 ⟨rfl,Lj,Ll,asY,e⟩
           refine ⟨_,rfl,_,e,?_⟩
           refine (qL∘Jq∘JC (h:=by exact λd=>(show Mem W _ (ahX g A (abr b) c e7 Er (abr ((((((((((([]:List Nat)++[nx])++[cp])++[cr])++[gp])++gs)++cl)++cu)++[tk])++ts)++sp)) Es Lj ([qh,⟨qb 0,3,e1⟩,⟨qb 1,e1,e2⟩,⟨qb 2,e2,e3⟩,⟨qb 3,e3,e4⟩,⟨qb 4,e4,e5⟩,⟨qb 5,e5,e6⟩,⟨qb 6,e6,e7⟩].length) Ll ([qh,⟨qb 0,3,e1⟩,⟨qb 1,e1,e2⟩,⟨qb 2,e2,e3⟩,⟨qb 3,e3,e4⟩,⟨qb 4,e4,e5⟩,⟨qb 5,e5,e6⟩,⟨qb 6,e6,e7⟩].flatMap iA) (((((((((((([]:List Nat)++[nx])++[cp])++[cr])++[gp])++gs)++cl)++cu)++[tk])++ts)++sp).map bG) g2 []) from d))∘JG∘JQ) λa Z d=>?_
           refine wp_seq ?_
           refine zmj ?_
           refine Gl d (aiv g A b c e7 Er (abr ((((((((((([]:List Nat)++[nx])++[cp])++[cr])++[gp])++gs)++cl)++cu)++[tk])++ts)++sp)) Es Lj ([qh,⟨qb 0,3,e1⟩,⟨qb 1,e1,e2⟩,⟨qb 2,e2,e3⟩,⟨qb 3,e3,e4⟩,⟨qb 4,e4,e5⟩,⟨qb 5,e5,e6⟩,⟨qb 6,e6,e7⟩].length) Ll ([qh,⟨qb 0,3,e1⟩,⟨qb 1,e1,e2⟩,⟨qb 2,e2,e3⟩,⟨qb 3,e3,e4⟩,⟨qb 4,e4,e5⟩,⟨qb 5,e5,e6⟩,⟨qb 6,e6,e7⟩].flatMap iA) (((((((((((([]:List Nat)++[nx])++[cp])++[cr])++[gp])++gs)++cl)++cu)++[tk])++ts)++sp).map bG) [.blk g2 #[vI 0] 27]) [0,1,2,3] [] λd HS=>?_
           refine ap Z (λ_=>HS) [0,4] (bf 10 [0,4]) [(62,vP g 0),(58,vP g 0)] λa Z=>?_
           refine pE Z HS 1 λa Z=>?_
           refine ap Z (λ_=>HS) [2] (bf 10 [0,1,2,4]) [(60,vP g 1)] λa Z=>?_
           refine dJ Z HS 3 0 λa Z=>?_
           refine pE Z HS 5 λa Z=>?_
           refine ap Z (λ_=>HS) [6] (bt 10 [7,8,9]) [(64,vP g 0)] λa Z=>?_
           refine dJ Z HS 7 0 λa Z=>?_
           refine uE Z HS 8 λa Z=>?_
           refine ap Z (λ_=>HS) [9] (bt 10 []) [(67,.bool ((e7:Int) !=(abr b:Int)))] λa Z=>?_
           refine qe kr ?_
           refine Jb Z d (Jh (λDR=>?_) λDR=>?_)
           ·
            have hne:e7≠abr b:=by omega
            refine (JT∘JR) λa Z d=>?_
            refine fo Z 0 rfl rfl ?_
            exact pR Z [vI 346] rfl (OE 346 _ d) λw2 d=>tY Z rfl d (i:=3) rfl (r.trans (if_pos hne)) [] de rfl
           obtain rfl:e7=abr b:=by omega
           have r:=r.trans (if_neg (λh=>h rfl))
           obtain ⟨qn,Lm⟩:∃qn,((((((((((([]:List Nat)++[nx])++[cp])++[cr])++[gp])++gs)++cl)++cu)++[tk])++ts)++sp)=qn:=⟨_,rfl⟩
           intro a Z d
           rw [Lm] at d Li
           refine Jb Z d ((aP∘aM 1∘Jn∘Jg 1 O0∘dx 4∘Jn∘Jf 1∘JW aN gu) λad9=>(jh∘bg 1∘JL (h:=by exact λd=>Aw (l2:=[qh,⟨qb 0,3,e1⟩,⟨qb 1,e1,e2⟩,⟨qb 2,e2,e3⟩,⟨qb 3,e3,e4⟩,⟨qb 4,e4,e5⟩,⟨qb 5,e5,e6⟩,⟨qb 6,e6,abr b⟩,⟨⟨#[115,117,109]⟩,abr b,abr b+4⟩]) W _ g (abr b+4:Nat) _ _ Lj Ll ([qh,⟨qb 0,3,e1⟩,⟨qb 1,e1,e2⟩,⟨qb 2,e2,e3⟩,⟨qb 3,e3,e4⟩,⟨qb 4,e4,e5⟩,⟨qb 5,e5,e6⟩,⟨qb 6,e6,abr b⟩]) _ _ (d.pk [0,1,2,3]) (acI rfl) rfl)) ?_)
           rintro d _ TP ⟨rfl,VX,VY,VZ,e⟩
           refine ⟨_,rfl,_,e,?_⟩
           refine (nO∘Jq∘JC (h:=by exact λd=>(show Mem W _ (aiL g A (abr b) c (abr b+4:Nat) Er qn Es VX ([qh,⟨qb 0,3,e1⟩,⟨qb 1,e1,e2⟩,⟨qb 2,e2,e3⟩,⟨qb 3,e3,e4⟩,⟨qb 4,e4,e5⟩,⟨qb 5,e5,e6⟩,⟨qb 6,e6,abr b⟩,⟨⟨#[115,117,109]⟩,abr b,abr b+4⟩].length) VY ([qh,⟨qb 0,3,e1⟩,⟨qb 1,e1,e2⟩,⟨qb 2,e2,e3⟩,⟨qb 3,e3,e4⟩,⟨qb 4,e4,e5⟩,⟨qb 5,e5,e6⟩,⟨qb 6,e6,abr b⟩,⟨⟨#[115,117,109]⟩,abr b,abr b+4⟩].flatMap iA) [abp Er qn Es bG 41 1,.blk g2 #[vI 0] 27]) from d))∘JG∘JP∘JW oI aN) λaea=>(aI∘aQ) λa Z d=>?_
           exact zgj Z rfl d (i:=3) rfl λw3 d=> .inl ⟨(⟨nx,cp,cr,gp,gs,cl,cu,tk,ts,sp,e1,e2,e3,e4,e5,e6,abr b⟩:Pr),Er,Es,VX,VY,r,rfl,by subst Lm;rw [q0f];exact Li,VZ,by subst Lm;rw [q0f];exact d.pk [0,2,1]⟩
def zm0 (W w:ajg) (g:Nat) (A:ajq) (c:Nat) (b:List Nat) (n:Mem W w [.blk g #[.slice A (abr b) c,vI 0,vN,vN] 300]) (i:Rd W W.heap.size 1 A (abr b) (b.map B8)) (j:abr b<=c) (o:∀z∈b,z<256) (hb:abr b<=16777216) (l:3<=abr b) {p:Pr} (h:tO b= .ok p):Calls abt 240 #[vP g 0] w (λr m=>r= .returned (vI 0)/\∃e d f sc,abr p.nums<=d/\abr p.secs<=sc/\Mem W m (.blk g #[.slice A (abr b) c,vI ((abr b+4:Nat):Int),.slice e (abr p.nums) d,.slice f (abr p.secs) sc] 300::aiU e p.nums d (p.nums.map bG) f p.secs sc (p.secs.flatMap iA) [])):=
 (q0g W w g A c b n i j o hb l).mono λr m q => by
  rcases q with ⟨s,e,d,f,sc,a,t,u,v,x⟩|⟨k,a,_⟩
  ·obtain rfl:s=p:=by rw [h] at a;injection a with a;exact a.symm
   exact ⟨t,e,d,f,sc,u,v,x⟩
  ·rw [h] at a;cases a
def zm1 (W w:ajg) (g:Nat) (A:ajq) (c:Nat) (b:List Nat) (j:Mem W w [.blk g #[.slice A (abr b) c,vI 0,vN,vN] 300]) (d:Rd W W.heap.size 1 A (abr b) (b.map B8)) (e:abr b<=c) (l:∀z∈b,z<256) (hb:abr b<=16777216) (f:3<=abr b) {k:Nat} (h:tO b= .error k):Calls abt 240 #[vP g 0] w (λr i=>r= .returned (vI k)/\Mem W i []):=
 (q0g W w g A c b j d e l hb f).mono λr i m => by
  rcases m with ⟨q,s,t,u,sc,a,_⟩|⟨n,a,o,p⟩
  ·rw [h] at a;cases a
  ·obtain rfl:n=k:=by rw [h] at a;injection a with a;exact a.symm
   exact ⟨o,p⟩
def BU (w:ajg) (l:List Nat) (r:ajk) (b:ajg):Prop:=(∃p,gq l= .ok p/\∃g e f c a d sc,r= .returned (.tuple #[vP g 0,vI 0])/\abr p.nums<=a/\abr p.secs<=sc/\Mem w b (.blk g #[e,f,.slice c (abr p.nums) a,.slice d (abr p.secs) sc] 300::aiU c p.nums a (p.nums.map bG) d p.secs sc (p.secs.flatMap iA) []))\/(∃k:Nat,gq l= .error k/\Is w (.tuple #[.pointer none,vI k]) r b)
def Et (n:Int) (h:gq l= .error k) (hk:n=k) (hr:r= .returned (.tuple #[.pointer none,vI n])) (hb:Below w.heap.size w W):BU w l r W:= .inr ⟨k,h,by rw [hr,hk],hb⟩
def q0h (A:ajq) (c:Nat) (l:List Nat) (B:Nat) (w:ajg) (K:aR B w) (I:B<=w.heap.size) (hr:Rd w w.heap.size 1 A (abr l) (l.map B8)) (hc:abr l<=c) (S:abr l<=100000000) (J:∀z∈l,z<256):
    Calls abt 169 #[.slice A (abr l) c] w (BU w l):=by
 refine (fE Tryz.func169 47) ?_
 refine (cB 2∘JQ∘JB∘aM 1∘Jl∘Jp 2∘eO∘Jj) (Ji (λD=>?_) λD=>?_)
 ·
  exact (JT∘bB 2∘bW) λd=>Et _ (q9u om) rfl rfl d.below
 refine (JF∘aM 1∘Jl∘Jp 2∘eO∘Jj) (Ji (λn=>?_) λn=>?_)
 ·
  exact (JT∘bB 2∘bW) λd=>Et _ (zf2 om om) rfl rfl d.below
 refine (JF∘aM 1∘JI (h:=by exact λd=>Q9 A (abr l) c l B _ (K.mem d I) (d.le I) (d.old hr) hc rfl om J)) λL M=>(Jp 2∘eO∘Jj) (Ju (λg=>?_) λg=>?_)
 ·
  have e:q5 l=false:=by simpa using g
  exact (JT∘bB 2∘bW) λd=>Et _ (q9v om om e) rfl rfl d.below
 have e:q5 l=true:=by simpa using g
 refine (JF∘aM 1) ?_
 obtain ⟨gA,f,rfl,_⟩:=hr.sat 0
 refine (Jy (v:=vP gA f) (h:=by exact Yl.indexAddr (ad:=⟨gA,f,none⟩) (y:=0) (sz:=1) rfl rfl rfl om kr)∘Jy (h:=by exact aad hr 0 0 (by first|omega|(simp;omega)) rfl rfl)∘Jp 2) (Jh (λo=>?_) λo=>?_)
 ·
  exact (Jp 6∘aI∘Jj∘JT∘bB 2∘bW) λd=>Et _ (qug om om e om) rfl rfl d.below
 refine (Jp 1∘Jy (v:=vP gA (f+1)) (h:=by exact Yl.indexAddr (ad:=⟨gA,f,none⟩) (y:=1) (sz:=1) rfl rfl rfl om kr)∘Jy (h:=by exact aad hr 1 0 (by first|omega|(simp;omega)) rfl rfl)∘Jp 3∘aI∘Jj) (Jh (λq=>?_) λq=>?_)
 ·
  exact (JT∘bB 2∘bW) λd=>Et _ (qug om om e om) rfl rfl d.below
 refine (JF∘aM 1∘Jy (v:=vP gA (f+2)) (h:=by exact Yl.indexAddr (ad:=⟨gA,f,none⟩) (y:=2) (sz:=1) rfl rfl rfl om kr)∘Jy (h:=by exact aad hr 2 0 (by first|omega|(simp;omega)) rfl rfl)∘Jp 2∘fK∘Jj) (Jh (λr=>?_) λr=>?_)
 ·
  exact (JT∘bB 2∘bW) λd=>Et _ (qxb om om e om om) rfl rfl d.below
 refine (aP∘JQ) ?_
 obtain ⟨b,i⟩:∃b,l.take (abr l-4)=b:=⟨_,rfl⟩
 have s:abr b=abr l-4:=by rw [<-i,abA];omega
 have t:Rd w w.heap.size 1 (some ⟨gA,f,none⟩) (abr b) (b.map B8):=by rw [s,<-i];exact hr.Cu om
 have u:∀z∈b,z<256:=λz hz=>J z (aco (i▸hz))
 have m:=q9w om om e om om
 rw [i] at m
 intro a Z d
 skip
 ·
  refine Jb Z d ((JR∘Jp 2∘Jl∘zG 4∘Jy (v:= .slice (some ⟨gA,f,none⟩) (abr l-4) c) (h:=by exact aah bD (j:=abr l-4) rfl rfl rfl om)∘Jo (.slice (some ⟨gA,f,none⟩) (abr b) c) (by rw [s])∘fu #[abo (some ⟨gA,f,none⟩) b c,vI 0,vN,vN]∘JE) λN x=>(Jp 1∘aI∘Jj∘JQ∘JQ) λa Z d=>?_)
  rcases hpr:tO b with k|p
  ·
   have O:=q9t hpr
   refine Jb Z d ((JR∘Jp 1∘JO (h:=by exact λd=>zm1 w _ x (some ⟨gA,f,none⟩) c b (d.pk [0]) t om u om om hpr)) λE=>(Jp 1∘bU∘bg 2∘aL∘Jj) (Jh (λC=>?_) λC=>?_))
   ·
    exact (JT∘bB 3∘bW) λd=>Et _ (m.trans hpr) rfl rfl d.below
   intro a Z d
   exfalso;omega
  ·
   refine Jb Z d ((JR∘Jp 1∘JL (h:=by exact λd=>zm0 w _ x (some ⟨gA,f,none⟩) c b (d.pk [0]) t om u om om hpr)) ?_)
   rintro d _ E ⟨rfl,P,Q,R,sc,F,G,H⟩
   refine ⟨_,rfl,_,H,?_⟩
   exact (Jp 1∘bU∘Jr∘Jv 2 [(44,.bool false)]∘Jj∘aP∘bB 3∘bW) λd=>by exact .inl ⟨p,m.trans hpr,_,_,_,P,Q,R,sc,rfl,F,G,d⟩
def zm2 (A:ajq) (c:Nat) (l:List Nat) (B:Nat) (w:ajg) (i:aR B w) (j:B<=w.heap.size) (hr:Rd w w.heap.size 1 A (abr l) (l.map B8)) (hc:abr l<=c) (m:abr l<=100000000) (n:∀z∈l,z<256) {p:Pr} (h:gq l= .ok p):Calls abt 169 #[.slice A (abr l) c] w (λr d=>∃g o q e b f sc,r= .returned (.tuple #[vP g 0,vI 0])/\abr p.nums<=b/\abr p.secs<=sc/\Mem w d (.blk g #[o,q,.slice e (abr p.nums) b,.slice f (abr p.secs) sc] 300::aiU e p.nums b (p.nums.map bG) f p.secs sc (p.secs.flatMap iA) [])):=
 (q0h A c l B w i j hr hc m n).mono λr d s => by
  rcases s with ⟨t,a,u⟩|⟨k,a,_⟩
  ·obtain rfl:t=p:=by rw [h] at a;injection a with a;exact a.symm
   exact u
  ·rw [h] at a;cases a
def zm3 (A:ajq) (c:Nat) (l:List Nat) (B:Nat) (w:ajg) (b:aR B w) (d:B<=w.heap.size) (hr:Rd w w.heap.size 1 A (abr l) (l.map B8)) (hc:abr l<=c) (e:abr l<=100000000) (f:∀z∈l,z<256) {k:Nat} (h:gq l= .error k):Calls abt 169 #[.slice A (abr l) c] w (Is w (.tuple #[.pointer none,vI k])):=
 (q0h A c l B w b d hr hc e f).mono λr m g => by
  rcases g with ⟨n,a,_⟩|⟨i,a,j⟩
  ·rw [h] at a;cases a
  ·obtain rfl:i=k:=by rw [h] at a;injection a with a;exact a.symm
   exact j
def KQ (W:ajg) (g k:Nat) (b:ajq) (a:Nat) (q:List Nat) (o:Bool) (fs:List ajr) (v:ajh) (r:ajk) (c:ajg):Prop:=r= .returned v/\Mem W c (.blk g #[.slice (d9 b a k) (abr q-k) (a-k),.bool o] 302:: .row (.slice b (abr q) a) (abr q) (q.map bG) 41 1::fs)
def qpc {o b:Bool} {v:ajh} (hr:r= .returned v) (a:b=o) (d:Mem W w (.blk g #[.slice (d9 A c k) (abr q-k) (c-k),.bool b] 302:: .row (.slice A (abr q) c) (abr q) (q.map bG) 41 1::fs)):KQ W g k A c q o fs v r w:=by subst a;exact ⟨hr,d⟩
def zgc (x m:Nat):decide ((x:Int)<=(m:Int))=dle x m:=decide_eq_decide.2 Int.ofNat_le
def qz9 (m:Nat) (W w:ajg) (g k:Nat) (f:ajq) (b:Nat) (q:List Nat) (o:Bool) (fs:List ajr) (s:Mem W w (.blk g #[.slice (d9 f b k) (abr q-k) (b-k),.bool o] 302:: abp f q b bG 41 1::fs)) (l:abr q<=b) (hk:k<abr q):
    Calls abt 242 #[vP g 0,vQ m] w (KQ W g (k+1) f b q (o&&dle (q.getD k 0) m) fs (vQ (q.getD k 0:Int))):=by
 refine (iQ Tryz.func242 33) ?_
 intro a Z d
 replace d:=s
 obtain ⟨n,oS,p,_⟩:=Rd.XT (UN (d.rd (i:=1) rfl) l k om) om de
 refine Jb Z d ((aM 1∘bg 1∘Jn∘Jf 0∘Jc O0∘Jo (.slice (some ⟨n,oS,none⟩) (abr q-k) (b-k)) (by rw [p];try rfl)∘Jy (v:=vP n oS) (h:=by exact Yl.indexAddr (ad:=⟨n,oS,none⟩) (y:=0) (sz:=1) rfl rfl rfl om kr)∘Jy (v:=vQ (q.getD k 0)) (h:=by exact Pd rfl rfl kr (λ_ h=>zp1 (h.rd (i:=1) rfl) l hk p))∘Jp 1∘aI∘bg 2∘Jn∘Jg 0 O0∘Jy (v:= .slice (if b-k=1 then d9 f b k else (d9 f b k:ajq).map (·.add (1*1))) ((abr q-k)-1) ((b-k)-1)) (h:=by exact aaf kT (j:=1) rfl rfl rfl om)∘Jo (.slice (d9 f b (k+1)) (abr q- (k+1)) (b- (k+1))) (by exact rfl)∘Jn∘Jf 0∘JW aN aN) λr=>(jh∘bg 2∘Jn∘Jg 1 O0∘Jp 1) (Ju (λc=>?_) λc=>?_))
 ·
  exact (Jp 4∘Jn∘Jf 1∘JW aN gu) λe=>(jh∘bg 2∘aI∘aQ∘aW) λd=>qpc rfl (by rw [c,acj];exact zgc _ _) d
 exact (Jp 4∘Jn∘Jf 1∘JW aN gu) λe=>(jh∘bg 2∘aI∘aQ∘aW) λd=>qpc rfl (by rw [c];rfl) d
def Aq (m:Nat) (W w:ajg) (g k:Nat) (b:ajq) (a:Nat) (q:List Nat) (o:Bool) (fs:List ajr) (d:Mem W w (.blk g #[.slice (d9 b a k) (abr q-k) (a-k),.bool o] 302:: .row (.slice b (abr q) a) (abr q) (q.map bG) 41 1::fs)) (c:abr q<=a) (hk:k<abr q) {x k2:Nat} {o2:Bool} (e:q.getD k 0=x) (f:k+1=k2) (h:(o&&dle x m)=o2):Calls abt 242 #[vP g 0,vQ m] w (KQ W g k2 b a q o2 fs (vQ x)):=by
 subst e;subst f;subst h
 exact qz9 m W w g k b a q o fs d c hk
def zah (W w:ajg) (g k:Nat) (b:ajq) (a:Nat) (q:List Nat) (o:Bool) (fs:List ajr) (e:Mem W w (.blk g #[.slice (d9 b a k) (abr q-k) (a-k),.bool o] 302:: abp b q a bG 41 1::fs)) (d:abr q<=a) (hk:k<abr q):
    Calls abt 241 #[vP g 0] w (KQ W g (k+1) b a q (o&&dle (q.getD k 0) aC) fs (vI (bR (q.getD k 0)))):=by
 refine (fE Tryz.func241 6) ?_
 exact (JC (h:=by exact λc=>e)∘aM 1∘bg 1∘JO (h:=by exact λc=>qz9 aC W _ g k b a q o fs c d hk)) λf=>(Jv 1 [(5,vI (IntKind.i64.wrap (q.getD k 0:Int)))]∘Jo (vI (bR (q.getD k 0))) (by exact rfl)∘Jp 1∘eO∘aQ∘aW) λc=>by exact ⟨rfl,c⟩
def vL (W w:ajg) (g k:Nat) (b:ajq) (a:Nat) (q:List Nat) (o:Bool) (fs:List ajr) (d:Mem W w (.blk g #[.slice (d9 b a k) (abr q-k) (a-k),.bool o] 302:: .row (.slice b (abr q) a) (abr q) (q.map bG) 41 1::fs)) (c:abr q<=a) (hk:k<abr q) {x k2:Nat} {o2:Bool} {v:Int} (e:q.getD k 0=x) (f:k+1=k2) (h:(o&&dle x aC)=o2) (i:bR x=v):Calls abt 241 #[vP g 0] w (KQ W g k2 b a q o2 fs (vI v)):=by
 subst e;subst f;subst h;subst i
 exact zah W w g k b a q o fs d c hk
def aa1 {f r1 a b c d:ajr} {rs:List ajr} (h:Mem W w (f::r1::a::b::c::d::(fs++rs))):Mem W w (f::(fs++([r1,a,b,c,d]++rs))):=h.perm ((List.perm_append_comm_assoc [r1,a,b,c,d] fs rs).cons f)
def zmy (x:Nat):((x:Int)==(1:Int))=decide (x=1):=by
 rw [Bool.eq_iff_iff,beq_iff_eq,decide_eq_true_eq]
 omega
def zgd {p:Pr} (h:0<j):p.qE (j+1)=((p.qE j&&dle (p.gs.getD (2*(j-1)) 0) aC)&&dle (p.gs.getD (2*(j-1)+1) 0) aC):=if_neg om
def zaj {p:Pr} (h:j=0):p.qE (j+1)=p.qE j:=by subst h;rfl
def KR {p:Pr} {y x:Nat} (h:y=0):p.so y (x+1)=p.so y x+1:=by subst h;rw [Ak,Ak]
def KS {p:Pr} {y x:Nat} (h:0<y):p.so y (x+1)=p.so y x+3:=by rw [uY h,uY h];omega
def KT {p:Pr} {b:Bool} {y x:Nat} (h:y=0):p.mE b y (x+1)=(p.mE b y x&&dle (p.sn y x 0) 18446744073709551615):=if_pos h
def KU {p:Pr} {b:Bool} {y x:Nat} (h:0<y):p.mE b y (x+1)=(((p.mE b y x&&dle (p.sn y x 0) 18446744073709551615)&&dle (p.sn y x 1) 4294967295)&&dle (p.sn y x 2) 18446744073709551615):=if_neg om
def zge (W:ajg) (g:Nat) (p:Pr) (fs:List ajr) (r:ajk) (a:ajg):Prop:=∃(z:dG) (A:ajq) (n c:Nat),r= .returned (.agg z.cells)/\dI p.rX z/\gD z.st/\Mem W a (.blk g #[.slice A n c,.bool p.okB] 302::(fs++jV z.st))
abbrev aii {α:Type}:=λa b c d (e:List α) f=>(.blk a #[.slice (d9 b c d) (abr e- d) (c- d),.bool f] 302:ajr)
abbrev ai3 {α β γ δ ε:Type}:=λa b c d e (f:List α) g h (i:List β) j k (l:List γ) m n (o:List δ) p q (r:List ε) s=>(.blk a #[vI b,vI c,vQ d,abo e f g,abo h i j,abo k l m,abo n o p,abo q r s] 50:ajr)
def q3v (W w:ajg) (g:Nat) (e:ajq) (d:Nat) (p:Pr) (h:p.Fit) (fs:List ajr) (HW:Mem W w (.blk g #[abo e p.nums d,.bool true] 302:: abp e p.nums d bG 41 1::fs)) (o:abr p.nums<=d):
    Calls abt 170 #[vP g 0] w (zge W g p fs):=by
 obtain ⟨hnl,hsl⟩:=zf6 h
 have n0:=zf5 p
 have eC:p.oC=4+2*(p.gp-1):=rfl
 have eT:p.oT=p.oC+2*p.cp:=rfl
 have eS:p.oS=p.oT+1+8*p.tk:=rfl
 have c1:=h.cp1;have c2:=h.cp2;have c3:=h.UM;have c4:=h.KF;have c5:=h.tk
 refine (fE Tryz.func170 191) ?_
 refine (JC (h:=by exact λb=>HW)∘JP∘JA ajc) λw2 O=>(bg 1∘JO (h:=by exact λb=>vL W _ g 0 e d p.nums true _ (b.pt 3 [1,2,0]) o om (x:=p.nx) (k2:=1) (o2:=true&&dle p.nx aC) (n0.1) (rfl) (rfl) (rfl))) λwB=>(fu #[vI (bR p.nx),vI 0,vQ 0,vN,vN,vN,vN,vN]∘JA ajc) λw3 F=>(JV zr aN) λSw=>(eO∘Jr∘Jf 1∘Jp 1∘aL∘bg 3∘JO (h:=by exact λb=>vL W _ g 1 e d p.nums (true&&dle p.nx aC) _ (b.pt 4 [1,2,0,3]) o om (x:=p.cp) (k2:=2) (o2:=(true&&dle p.nx aC)&&dle p.cp aC) (n0.2.1) (rfl) (rfl) (UO om))) λOw=>(Jp 1∘JO (h:=by exact λb=>Aq 18446744073709551615 W _ g 2 e d p.nums ((true&&dle p.nx aC)&&dle p.cp aC) _ (b.pt 4 [0,1,2,3]) o om (x:=p.cr) (k2:=3) (o2:=((true&&dle p.nx aC)&&dle p.cp aC)&&dle p.cr 18446744073709551615) (n0.2.2.1) (rfl) (rfl))) λTD=>(Jn∘Jf 0∘Jf 0∘JW iE gu) λar0=>(Jn∘Jf 0∘Jf 1∘JW iE iE) λadT=>(jh∘Jj∘bM 1∘JO (h:=by exact λb=>vL W _ g 3 e d p.nums (((true&&dle p.nx aC)&&dle p.cp aC)&&dle p.cr 18446744073709551615) _ (b.pt 4 [0,1,2,3]) o om (x:=p.gp) (k2:=4+2*(0-1)) (o2:=p.qE 0) (n0.2.2.2) (rfl) (rfl) (UO om))) λw29=>(Jp 1∘Jq∘JC (h:=by exact λb=>b.nil 198 2)∘JG∘JB) λa Z b=>?_
 refine qg (λV aS wS=>∃(j:Nat) (G:List Gr) (B:ajq) (r:Nat),(j<=p.gp)/\(G=bY j p.iR)/\(abr G=j)/\(abr G<=r)/\V=p.gp-j/\Fr aS 191 [] (ah8 30 j 29 p.gp [(4,vP F 1),(3,vP F 0),(2,vP O 0),(0,vP g 0)])/\Mem W wS (abq B G r fU 198 2::.blk g #[.slice (d9 e d (4+2*(j-1))) (abr p.nums- (4+2*(j-1))) (d- (4+2*(j-1))),.bool (p.qE j)] 302::abp e p.nums d bG 41 1::.blk F #[vI (bR p.nx),vI p.cp,vQ p.cr,abo B G r,vN,vN,vN,vN] 50::ah2 O::fs)) (m:=p.gp-0) ⟨0,[],none,0,abC _,rfl,rfl,abx _,rfl,Z.sub kr,b.pt 5 [0,1,2,3,4]⟩ ?_
 clear Z b;rintro V a w_ ⟨j,G,B,r,hj,hG,Pb,hGc,rfl,Z,b⟩
 refine Jb Z b ((cB 1∘JQ) (Ji (λhd31=>?_) λhd31=>?_))
 ·
  refine (eP∘aM 2∘aL∘Jr∘fu #[vI 0,vI 1]∘JA #[vI 0,vI 0]) λw6 g6=>(JV kI aN) λRL=>(aL∘Jj∘bM 2∘aL∘Jj) (Ji (λVe=>?_) λVe=>?_)
  ·
   have hgr:p.iR j=⟨bR (p.gs.getD (2*(j-1)) 0),bR (p.gs.getD (2*(j-1)+1) 0)⟩:=if_neg om
   refine (JT∘JR∘Jp 1∘JO (h:=by exact λb=>vL W _ g (4+2*(j-1)) e d p.nums (p.qE j) _ (b.pt 6 [2,3,0,1,4,5]) o om (x:=p.gs.getD (2*(j-1)) 0) (k2:=4+(2*(j-1)+1)) (o2:=p.qE j&&dle (p.gs.getD (2*(j-1)) 0) aC) (q9z h (j:=2*(j-1)) om) (rfl) (rfl) (rfl))) λDi=>(Jp 1∘JO (h:=by exact λb=>vL W _ g (4+(2*(j-1)+1)) e d p.nums (p.qE j&&dle (p.gs.getD (2*(j-1)) 0) aC) _ (b.pt 6 [0,1,2,3,4,5]) o om (x:=p.gs.getD (2*(j-1)+1) 0) (k2:=4+2*(j+1-1)) (o2:=(p.qE j&&dle (p.gs.getD (2*(j-1)) 0) aC)&&dle (p.gs.getD (2*(j-1)+1) 0) aC) (q9z h (j:=2*(j-1)+1) om) om (rfl) (rfl))) λOt=>(Jf 0∘JW iE aN) λKV=>(Jf 1∘JW iE gu) λar3=>(jh∘Jq∘JC (h:=by exact λb=>(show Mem W _ (.blk g #[.slice (d9 e d (4+2*(j+1-1))) (abr p.nums- (4+2*(j+1-1))) (d- (4+2*(j+1-1))),.bool ((p.qE j&&dle (p.gs.getD (2*(j-1)) 0) aC)&&dle (p.gs.getD (2*(j-1)+1) 0) aC)] 302::abp e p.nums d bG 41 1::.blk g6 #[vI (bR (p.gs.getD (2*(j-1)) 0)),vI (bR (p.gs.getD (2*(j-1)+1) 0))] 198::abq B G r fU 198 2::.blk F #[vI (bR p.nx),vI p.cp,vQ p.cr,abo B G r,vN,vN,vN,vN] 50::ah2 O::fs) from b))∘JG∘Vs (.t (.t (.t (.f .n)))) [12]) λsH=>(Vp [0,1]∘Vn 2∘Vf 3 0∘Vf 4 2∘Vc 5 O3∘nR 6 kI O2) λa Z b I=>?_
   refine s_on Z 7 rfl (jG Z b jE [(0,.agg #[vI (bR (p.gs.getD (2*(j-1)) 0)),vI (bR (p.gs.getD (2*(j-1)+1) 0))])] #[vI (bR (p.gs.getD (2*(j-1)) 0)),vI (bR (p.gs.getD (2*(j-1)+1) 0))] ?_)
   clear Z b;intro a Ba YT Z b
   refine av (b.pt 7 [1,2,3,5,6]) (λI=>?_)
   refine s_on Z 8 rfl (su Z b (i:=4) rfl jE rfl rfl rfl (news:=([(⟨bR (p.gs.getD (2*(j-1)) 0),bR (p.gs.getD (2*(j-1)+1) 0)⟩:Gr)].flatMap fU)) (b.bE (i:=0) (n:=1) (size:=2) rfl rfl) (I7 _) om om rfl de ?_)
   clear Z b;intro a GX yJ yK Z b X
   refine av (b.pt 7 [1,2,3,5,6]) (λI=>?_)
   refine Vb Z b I ((Vn 9∘Vf 10 0∘Vf 11 2) λa Z b I=>?_)
   refine s_on Z 12 rfl (eU Z b 5 λEj b=>?_)
   refine dR kr ?_
   refine qe kr ?_
   have s:abr G+1=abr (G++[p.iR j]):=oo rfl
   rw [s] at X
   replace b:=b.bq (i:=4) (ys:=(G++[p.iR j]).flatMap fU) rfl s (by rw [hgr];exact List.flatMap_append.symm)
   replace Z:=Z.sp 50 (abo yJ (G++[p.iR j]) yK) rfl (iZ s)
   replace b:=b.dX (i:=5) (ds:= #[vI (bR p.nx),vI p.cp,vQ p.cr,abo yJ (G++[p.iR j]) yK,vN,vN,vN,vN]) rfl (by rw [s];try rfl)
   refine Jb Z b ((JG∘JR∘dx 1∘Jp 1∘aL∘Jq) λa Z b=>?_)
   replace b:=b.dX (i:=1) (ds:= #[.slice (d9 e d (4+2*(j+1-1))) (abr p.nums- (4+2*(j+1-1))) (d- (4+2*(j+1-1))),.bool (p.qE (j+1))]) rfl (by rw [zgd om])
   exact ⟨_,om,j+1,(G++[p.iR j]),yJ,yK,by omega,by rw [hG,Ai],by rw [abu,Pb];rfl,X,rfl,Z.sub kr,b.pt 7 [4,1,2,5,6]⟩
  have hgr:p.iR j=⟨0,1⟩:=if_pos om
  refine (aP∘Vs (.t (.f .n)) [12]) λsH=>(Vp [0,1]∘Vn 2∘Vf 3 0∘Vf 4 2∘Vc 5 O3∘nR 6 kI O0) λa Z b I=>?_
  refine s_on Z 7 rfl (jG Z b jE [(0,.agg #[vI 0,vI 1])] #[vI 0,vI 1] ?_)
  clear Z b;intro a Ba YT Z b
  refine av (b.pt 7 [1,3,4,5,6]) (λI=>?_)
  refine s_on Z 8 rfl (su Z b (i:=2) rfl jE rfl rfl rfl (news:=([(⟨0,1⟩:Gr)].flatMap fU)) (b.bE (i:=0) (n:=1) (size:=2) rfl rfl) (I7 _) om om rfl de ?_)
  clear Z b;intro a GX yJ yK Z b X
  refine av (b.pt 7 [1,3,4,5,6]) (λI=>?_)
  refine Vb Z b I ((Vn 9∘Vf 10 0∘Vf 11 2) λa Z b I=>?_)
  refine s_on Z 12 rfl (eU Z b 5 λEj b=>?_)
  refine dR kr ?_
  refine qe kr ?_
  have s:abr G+1=abr (G++[p.iR j]):=oo rfl
  rw [s] at X
  replace b:=b.bq (i:=2) (ys:=(G++[p.iR j]).flatMap fU) rfl s (by rw [hgr];exact List.flatMap_append.symm)
  replace Z:=Z.sp 50 (abo yJ (G++[p.iR j]) yK) rfl (iZ s)
  replace b:=b.dX (i:=5) (ds:= #[vI (bR p.nx),vI p.cp,vQ p.cr,abo yJ (G++[p.iR j]) yK,vN,vN,vN,vN]) rfl (by rw [s];try rfl)
  refine Jb Z b ((JG∘JR∘dx 1∘Jp 1∘aL∘Jq) λa Z b=>?_)
  replace b:=b.dX (i:=3) (ds:= #[.slice (d9 e d (4+2*(j+1-1))) (abr p.nums- (4+2*(j+1-1))) (d- (4+2*(j+1-1))),.bool (p.qE (j+1))]) rfl (by rw [zaj om,show 4+2*(j+1-1)=4+2*(j-1) by omega])
  exact ⟨_,om,j+1,(G++[p.iR j]),yJ,yK,by omega,by rw [hG,Ai],by rw [abu,Pb];rfl,X,rfl,Z.sub kr,b.pt 7 [2,3,4,5,6]⟩
 refine (JF∘JX∘JG∘bM 1∘Jn∘Jf 0∘Jg 0 O3∘Jp 1∘Jq∘JC (h:=by exact λb=>b.nil 3 1)∘JC (h:=by exact λb=>b.dX (i:=2) (ds:= #[.slice (d9 e d (p.oC+0)) (abr p.nums- (p.oC+0)) (d- (p.oC+0)),.bool (p.Aj 0)]) rfl (by rw [show j=p.gp by omega];rfl))∘JG∘JB) λa Z b=>?_
 refine qg (λV aS wS=>∃(k:Nat) (C:List Int) (D:ajq) (cl:Nat),(k<=p.cp)/\(C=bY k λi=>bR (p.cl.getD i 0))/\(abr C=k)/\(abr C<=cl)/\V=p.cp-k/\Fr aS 191 [] (ah8 60 k 59 p.cp ((31,.bool false)::ah8 30 j 29 p.gp [(4,vP F 1),(3,vP F 0),(2,vP O 0),(0,vP g 0)]))/\Mem W wS (abp D C cl aZ 3 1::abq B G r fU 198 2::.blk g #[.slice (d9 e d (p.oC+k)) (abr p.nums- (p.oC+k)) (d- (p.oC+k)),.bool (p.Aj k)] 302::abp e p.nums d bG 41 1::.blk F #[vI (bR p.nx),vI p.cp,vQ p.cr,abo B G r,abo D C cl,vN,vN,vN] 50::ah2 O::fs)) (m:=p.cp-0) ⟨0,[],none,0,abC _,rfl,rfl,abx _,rfl,Z.sub kr,b.pt 6 [0,1,2,3,4,5]⟩ ?_
 clear Z b;rintro V a w_ ⟨k,C,D,cl,hk,hC,hCl,hCc,rfl,Z,b⟩
 refine Jb Z b ((cB 1∘JQ) (Ji (λDw=>?_) λDw=>?_))
 ·
  refine (eP∘Vs (.f (.t (.f .n))) [11]) λzK=>(Vp [0,1,5]∘Vn 2∘Vf 3 3∘Vc 4 O2) λa Z b I=>?_
  refine s_on Z 6 rfl ?_
  refine Gz Z [vP g 0] (vL W _ g (p.oC+k) e d p.nums (p.Aj k) _ (b.pt 6 [2,3,0,1,4,5]) o om (x:=p.cl.getD k 0) (k2:=p.oC+(k+1)) (o2:=p.Aj (k+1)) (zmn h om) (rfl) (rfl) (rfl)) λOo b a Z=>?_
  refine av (b.pt 6 [3,1,4,5]) (λI=>?_)
  refine s_on Z 7 rfl (jG Z b kD [(0,vI (bR (p.cl.getD k 0)))] #[vI (bR (p.cl.getD k 0))] ?_)
  clear Z b;intro a w69 g69 Z b
  refine av (b.pt 7 [4,2,5,6]) (λI=>?_)
  refine s_on Z 8 rfl (su Z b (i:=3) rfl kD rfl rfl rfl (news:=([bR (p.cl.getD k 0)].map aZ)) (b.bE (i:=0) (n:=1) (size:=1) rfl rfl) (SF _) om om rfl de ?_)
  clear Z b;intro a w70 Vg c70 Z b KW
  refine av (b.pt 7 [4,2,5,6]) (λI=>?_)
  refine Vb Z b I ((Vn 9∘Vf 10 3) λa Z b I=>?_)
  refine s_on Z 11 rfl (eU Z b 5 λVh b=>?_)
  refine dR kr ?_
  refine qe kr ?_
  have P:abr C+1=abr (C++[bR (p.cl.getD k 0)]):=oo rfl
  rw [P] at KW
  replace b:=b.bq (i:=3) (ys:=(C++[bR (p.cl.getD k 0)]).map aZ) rfl P (by exact List.map_append.symm)
  replace Z:=Z.sp 70 (abo Vg (C++[bR (p.cl.getD k 0)]) c70) rfl (iZ P)
  replace b:=b.dX (i:=5) (ds:= #[vI (bR p.nx),vI p.cp,vQ p.cr,abo B G r,abo Vg (C++[bR (p.cl.getD k 0)]) c70,vN,vN,vN]) rfl (by rw [P];try rfl)
  refine Jb Z b ((JG∘JR∘dx 1∘Jp 1∘aL∘Jq) λa Z b=>?_)
  exact ⟨_,om,k+1,(C++[bR (p.cl.getD k 0)]),Vg,c70,by omega,by rw [hC,Ai],by rw [abu,hCl];rfl,KW,rfl,Z.sub kr,b.pt 7 [3,4,1,2,5,6]⟩
 refine (JF∘JX∘JG∘bM 1∘Jn∘Jf 0∘Jg 0 O4∘Jp 1∘Jq∘JC (h:=by exact λb=>b.nil 3 1)∘JC (h:=by exact λb=>b.dX (i:=3) (ds:= #[.slice (d9 e d (p.oC+p.cp+0)) (abr p.nums- (p.oC+p.cp+0)) (d- (p.oC+p.cp+0)),.bool (p.xC 0)]) rfl (by rw [show k=p.cp by omega];rfl))∘JG∘JB) λa Z b=>?_
 refine qg (λV aS wS=>∃(u:Nat) (U:List Int) (E:ajq) (cu:Nat),(u<=p.cp)/\(U=bY u λi=>bR (p.cu.getD i 0))/\(abr U=u)/\(abr U<=cu)/\V=p.cp-u/\Fr aS 191 [] (ah8 79 u 78 p.cp ((61,.bool false)::ah8 60 k 59 p.cp ((31,.bool false)::ah8 30 j 29 p.gp [(4,vP F 1),(3,vP F 0),(2,vP O 0),(0,vP g 0)])))/\Mem W wS (abp E U cu aZ 3 1::abp D C cl aZ 3 1::abq B G r fU 198 2::.blk g #[.slice (d9 e d (p.oC+p.cp+u)) (abr p.nums- (p.oC+p.cp+u)) (d- (p.oC+p.cp+u)),.bool (p.xC u)] 302::abp e p.nums d bG 41 1::.blk F #[vI (bR p.nx),vI p.cp,vQ p.cr,abo B G r,abo D C cl,abo E U cu,vN,vN] 50::ah2 O::fs)) (m:=p.cp-0) ⟨0,[],none,0,abC _,rfl,rfl,abx _,rfl,Z.sub kr,b.pt 7 [0,1,2,3,4,5,6]⟩ ?_
 clear Z b;rintro V a w_ ⟨u,U,E,cu,hu,hU,hUl,hUc,rfl,Z,b⟩
 refine Jb Z b ((cB 1∘JQ) (Ji (λVi=>?_) λVi=>?_))
 ·
  refine (eP∘Vs (.f (.t (.t (.f .n)))) [11]) λGZ=>(Vp [0,1,5]∘Vn 2∘Vf 3 4∘Vc 4 O3) λa Z b I=>?_
  refine s_on Z 6 rfl ?_
  refine Gz Z [vP g 0] (vL W _ g (p.oC+p.cp+u) e d p.nums (p.xC u) _ (b.pt 7 [3,4,0,1,2,5,6]) o om (x:=p.cu.getD u 0) (k2:=p.oC+p.cp+(u+1)) (o2:=p.xC (u+1)) (zmo h om) (rfl) (rfl) (rfl)) λOv b a Z=>?_
  refine av (b.pt 7 [3,4,1,5,6]) (λI=>?_)
  refine s_on Z 7 rfl (jG Z b kD [(0,vI (bR (p.cu.getD u 0)))] #[vI (bR (p.cu.getD u 0))] ?_)
  clear Z b;intro a w88 Vj Z b
  refine av (b.pt 8 [4,5,2,6,7]) (λI=>?_)
  refine s_on Z 8 rfl (su Z b (i:=3) rfl kD rfl rfl rfl (news:=([bR (p.cu.getD u 0)].map aZ)) (b.bE (i:=0) (n:=1) (size:=1) rfl rfl) (SF _) om om rfl de ?_)
  clear Z b;intro a TI Pf Pg Z b El
  refine av (b.pt 8 [4,5,2,6,7]) (λI=>?_)
  refine Vb Z b I ((Vn 9∘Vf 10 4) λa Z b I=>?_)
  refine s_on Z 11 rfl (eU Z b 6 λVk b=>?_)
  refine dR kr ?_
  refine qe kr ?_
  have Q:abr U+1=abr (U++[bR (p.cu.getD u 0)]):=oo rfl
  rw [Q] at El
  replace b:=b.bq (i:=3) (ys:=(U++[bR (p.cu.getD u 0)]).map aZ) rfl Q (by exact List.map_append.symm)
  replace Z:=Z.sp 89 (abo Pf (U++[bR (p.cu.getD u 0)]) Pg) rfl (iZ Q)
  replace b:=b.dX (i:=6) (ds:= #[vI (bR p.nx),vI p.cp,vQ p.cr,abo B G r,abo D C cl,abo Pf (U++[bR (p.cu.getD u 0)]) Pg,vN,vN]) rfl (by rw [Q];try rfl)
  refine Jb Z b ((JG∘JR∘dx 1∘Jp 1∘aL∘Jq) λa Z b=>?_)
  exact ⟨_,om,u+1,(U++[bR (p.cu.getD u 0)]),Pf,Pg,by omega,by rw [hU,Ai],by rw [abu,hUl];rfl,El,rfl,Z.sub kr,b.pt 8 [3,4,5,1,2,6,7]⟩
 refine (JF∘JX∘JG∘aM 1∘Jq∘JC (h:=by exact λb=>b.dX (i:=3) (ds:= #[.slice (d9 e d p.oT) (abr p.nums-p.oT) (d-p.oT),.bool (p.xC p.cp)]) rfl (by rw [show u=p.cp by omega,show p.oC+p.cp+p.cp=p.oT by omega]))∘JG∘bM 1∘JO (h:=by exact λb=>vL W _ g p.oT e d p.nums (p.xC p.cp) _ (b.pt 7 [3,4,0,1,2,5,6]) o om (x:=p.tk) (k2:=p.oT+1+8*0) (o2:=p.jY 0) (zmp h) (rfl) (rfl) (UO om))) λw94=>(Jp 1∘Jq∘JC (h:=by exact λb=>b.nil 232 8)∘JG∘JB) λa Z b=>?_
 refine qg (λV aS wS=>∃(i:Nat) (T:List Tk) (At:ajq) (H:Nat),(i<=p.tk)/\(T=bY i p.uX)/\(abr T=i)/\(abr T<=H)/\V=p.tk-i/\Fr aS 191 [] (ah8 95 i 94 p.tk ((7,vI (p.tQ i))::(80,.bool false)::ah8 79 u 78 p.cp ((61,.bool false)::ah8 60 k 59 p.cp ((31,.bool false)::ah8 30 j 29 p.gp [(4,vP F 1),(3,vP F 0),(2,vP O 0),(0,vP g 0)]))))/\Mem W wS (abq At T H bZ 232 8::.blk g #[.slice (d9 e d (p.oT+1+8*i)) (abr p.nums- (p.oT+1+8*i)) (d- (p.oT+1+8*i)),.bool (p.jY i)] 302::abp e p.nums d bG 41 1::abp E U cu aZ 3 1::abp D C cl aZ 3 1::abq B G r fU 198 2::.blk F #[vI (bR p.nx),vI p.cp,vQ p.cr,abo B G r,abo D C cl,abo E U cu,abo At T H,vN] 50::ah2 O::fs)) (m:=p.tk-0) ⟨0,[],none,0,abC _,rfl,rfl,abx _,rfl,Z.sub kr,b.pt 8 [0,1,2,3,4,5,6,7]⟩ ?_
 clear Z b;rintro V a w_ ⟨i,T,At,H,hi,hT,hTl,hTc,rfl,Z,b⟩
 refine Jb Z b ((cB 1∘JQ) (Ji (λhd96=>?_) λhd96=>?_))
 ·
  refine (eP∘aM 2∘JO (h:=by exact λb=>vL W _ g (p.oT+1+8*i) e d p.nums (p.jY i) _ (b.pt 8 [1,2,0,3,4,5,6,7]) o om (x:=p.tn i 0) (k2:=p.oT+1+(8*i+1)) (o2:=p.jY i&&dle (p.tn i 0) aC) (BK h (j:=8*i) om) (rfl) (rfl) (rfl))) λw99=>(Jp 1∘Jo (vI (p.mD i)) (by exact rfl)∘Jp 1∘fK∘bg 2∘JO (h:=by exact λb=>vL W _ g (p.oT+1+(8*i+1)) e d p.nums (p.jY i&&dle (p.tn i 0) aC) _ (b.pt 8 [0,1,2,3,4,5,6,7]) o om (x:=p.tn i 1) (k2:=p.oT+1+(8*i+2)) (o2:=(p.jY i&&dle (p.tn i 0) aC)&&dle (p.tn i 1) aC) (BK h (j:=8*i+1) om) (rfl) (rfl) (rfl))) λVm=>(Jp 1∘JO (h:=by exact λb=>vL W _ g (p.oT+1+(8*i+2)) e d p.nums ((p.jY i&&dle (p.tn i 0) aC)&&dle (p.tn i 1) aC) _ (b.pt 8 [0,1,2,3,4,5,6,7]) o om (x:=p.tn i 2) (k2:=p.oT+1+(8*i+3)) (o2:=((p.jY i&&dle (p.tn i 0) aC)&&dle (p.tn i 1) aC)&&dle (p.tn i 2) aC) (BK h (j:=8*i+2) om) (rfl) (rfl) (rfl))) λKq=>(Jp 1∘JO (h:=by exact λb=>vL W _ g (p.oT+1+(8*i+3)) e d p.nums (((p.jY i&&dle (p.tn i 0) aC)&&dle (p.tn i 1) aC)&&dle (p.tn i 2) aC) _ (b.pt 8 [0,1,2,3,4,5,6,7]) o om (x:=p.tn i 3) (k2:=p.oT+1+(8*i+4)) (o2:=(((p.jY i&&dle (p.tn i 0) aC)&&dle (p.tn i 1) aC)&&dle (p.tn i 2) aC)&&dle (p.tn i 3) aC) (BK h (j:=8*i+3) om) (rfl) (rfl) (rfl))) λasa=>(Jp 1∘JO (h:=by exact λb=>Aq 18446744073709551615 W _ g (p.oT+1+(8*i+4)) e d p.nums ((((p.jY i&&dle (p.tn i 0) aC)&&dle (p.tn i 1) aC)&&dle (p.tn i 2) aC)&&dle (p.tn i 3) aC) _ (b.pt 8 [0,1,2,3,4,5,6,7]) o om (x:=p.tn i 4) (k2:=p.oT+1+(8*i+5)) (o2:=((((p.jY i&&dle (p.tn i 0) aC)&&dle (p.tn i 1) aC)&&dle (p.tn i 2) aC)&&dle (p.tn i 3) aC)&&dle (p.tn i 4) 18446744073709551615) (BK h (j:=8*i+4) om) (rfl) (rfl))) λUh=>(fu #[vI (p.mD i),vI (bR (p.tn i 1)),vI (bR (p.tn i 2)),vI (bR (p.tn i 3)),vQ (p.tn i 4),.bool false,vQ 0,vW 0]∘JA ajb) λw8 g8=>(JV fH aN) λVr=>(aI∘Jq∘JC (h:=by exact λb=>(show Mem W _ (.blk g8 #[vI (p.mD i),vI (bR (p.tn i 1)),vI (bR (p.tn i 2)),vI (bR (p.tn i 3)),vQ (p.tn i 4),.bool false,vQ 0,vW 0] 232::.blk g #[.slice (d9 e d (p.oT+1+(8*i+5))) (abr p.nums- (p.oT+1+(8*i+5))) (d- (p.oT+1+(8*i+5))),.bool (((((p.jY i&&dle (p.tn i 0) aC)&&dle (p.tn i 1) aC)&&dle (p.tn i 2) aC)&&dle (p.tn i 3) aC)&&dle (p.tn i 4) 18446744073709551615)] 302::abp e p.nums d bG 41 1::abq At T H bZ 232 8::abp E U cu aZ 3 1::abp D C cl aZ 3 1::abq B G r fU 198 2::.blk F #[vI (bR p.nx),vI p.cp,vQ p.cr,abo B G r,abo D C cl,abo E U cu,abo At T H,vN] 50::ah2 O::fs) from b))∘JG∘aM 1∘JO (h:=by exact λb=>Aq 1 W _ g (p.oT+1+(8*i+5)) e d p.nums (((((p.jY i&&dle (p.tn i 0) aC)&&dle (p.tn i 1) aC)&&dle (p.tn i 2) aC)&&dle (p.tn i 3) aC)&&dle (p.tn i 4) 18446744073709551615) _ (b.pt 9 [1,2,0,3,4,5,6,7,8]) o om (x:=p.tn i 5) (k2:=p.oT+1+(8*i+6)) (o2:=(((((p.jY i&&dle (p.tn i 0) aC)&&dle (p.tn i 1) aC)&&dle (p.tn i 2) aC)&&dle (p.tn i 3) aC)&&dle (p.tn i 4) 18446744073709551615)&&dle (p.tn i 5) 1) (BK h (j:=8*i+5) om) (rfl) (rfl))) λasb=>(Jp 1∘Jo (.bool (decide (p.tn i 5=1))) (by exact congrArg Value.bool (zmy _))∘Jp 1∘JO (h:=by exact λb=>Aq 18446744073709551615 W _ g (p.oT+1+(8*i+6)) e d p.nums ((((((p.jY i&&dle (p.tn i 0) aC)&&dle (p.tn i 1) aC)&&dle (p.tn i 2) aC)&&dle (p.tn i 3) aC)&&dle (p.tn i 4) 18446744073709551615)&&dle (p.tn i 5) 1) _ (b.pt 9 [0,1,2,3,4,5,6,7,8]) o om (x:=p.tn i 6) (k2:=p.oT+1+(8*i+7)) (o2:=((((((p.jY i&&dle (p.tn i 0) aC)&&dle (p.tn i 1) aC)&&dle (p.tn i 2) aC)&&dle (p.tn i 3) aC)&&dle (p.tn i 4) 18446744073709551615)&&dle (p.tn i 5) 1)&&dle (p.tn i 6) 18446744073709551615) (BK h (j:=8*i+6) om) (rfl) (rfl))) λUi=>(Jp 1∘JO (h:=by exact λb=>Aq 4294967295 W _ g (p.oT+1+(8*i+7)) e d p.nums (((((((p.jY i&&dle (p.tn i 0) aC)&&dle (p.tn i 1) aC)&&dle (p.tn i 2) aC)&&dle (p.tn i 3) aC)&&dle (p.tn i 4) 18446744073709551615)&&dle (p.tn i 5) 1)&&dle (p.tn i 6) 18446744073709551615) _ (b.pt 9 [0,1,2,3,4,5,6,7,8]) o om (x:=p.tn i 7) (k2:=p.oT+1+8*(i+1)) (o2:=(((((((p.jY i&&dle (p.tn i 0) aC)&&dle (p.tn i 1) aC)&&dle (p.tn i 2) aC)&&dle (p.tn i 3) aC)&&dle (p.tn i 4) 18446744073709551615)&&dle (p.tn i 5) 1)&&dle (p.tn i 6) 18446744073709551615)&&dle (p.tn i 7) 4294967295) (BK h (j:=8*i+7) om) om (rfl))) λasc=>(Jv 1 [(118,vW (IntKind.u32.wrap (p.tn i 7:Int)))]∘Jo (vW ((p.tn i 7)%4294967296:Nat)) (by exact XZ (p.tn i 7))∘Jf 5∘JW iE rR) λadV=>(Jf 6∘JW iE vw) λVt=>(Jf 7∘JW iE wo) λVv=>(jh∘Jq∘JC (h:=by exact λb=>(show Mem W _ (.blk g #[.slice (d9 e d (p.oT+1+8*(i+1))) (abr p.nums- (p.oT+1+8*(i+1))) (d- (p.oT+1+8*(i+1))),.bool ((((((((p.jY i&&dle (p.tn i 0) aC)&&dle (p.tn i 1) aC)&&dle (p.tn i 2) aC)&&dle (p.tn i 3) aC)&&dle (p.tn i 4) 18446744073709551615)&&dle (p.tn i 5) 1)&&dle (p.tn i 6) 18446744073709551615)&&dle (p.tn i 7) 4294967295)] 302::abp e p.nums d bG 41 1::.blk g8 #[vI (p.mD i),vI (bR (p.tn i 1)),vI (bR (p.tn i 2)),vI (bR (p.tn i 3)),vQ (p.tn i 4),.bool (decide (p.tn i 5=1)),vQ (p.tn i 6),vW ((p.tn i 7)%4294967296:Nat)] 232::abq At T H bZ 232 8::abp E U cu aZ 3 1::abp D C cl aZ 3 1::abq B G r fU 198 2::.blk F #[vI (bR p.nx),vI p.cp,vQ p.cr,abo B G r,abo D C cl,abo E U cu,abo At T H,vN] 50::ah2 O::fs) from b))) λa Z b=>?_
  refine wp_seq ?_
  refine Jb Z b ((Vs (.t (.t (.t (.f .n)))) [10]) λase=>(Vp [0,1]∘Vn 2∘Vf 3 5∘Vc 4 O6∘nR 5 fH O2) λa Z b I=>?_)
  refine s_on Z 6 rfl (jG Z b dL [(0,.agg #[vI (p.mD i),vI (bR (p.tn i 1)),vI (bR (p.tn i 2)),vI (bR (p.tn i 3)),vQ (p.tn i 4),.bool (decide (p.tn i 5=1)),vQ (p.tn i 6),vW ((p.tn i 7)%4294967296:Nat)])] #[vI (p.mD i),vI (bR (p.tn i 1)),vI (bR (p.tn i 2)),vI (bR (p.tn i 3)),vQ (p.tn i 4),.bool (decide (p.tn i 5=1)),vQ (p.tn i 6),vW ((p.tn i 7)%4294967296:Nat)] ?_)
  clear Z b;intro a asf asg Z b
  refine av (b.pt 10 [1,2,3,5,6,7,8,9]) (λI=>?_)
  refine s_on Z 7 rfl (su Z b (i:=4) rfl dL rfl rfl rfl (news:=([p.uX i].flatMap bZ)) (b.bE (i:=0) (n:=1) (size:=8) rfl rfl) (I8 _) om om rfl de ?_)
  clear Z b;intro a ash Au Av Z b xP
  refine av (b.pt 10 [1,2,3,5,6,7,8,9]) (λI=>?_)
  refine Vb Z b I ((Vn 8∘Vf 9 5) λa Z b I=>?_)
  refine s_on Z 10 rfl (eU Z b 8 λVz b=>?_)
  refine dR kr ?_
  refine qe kr ?_
  have M:abr T+1=abr (T++[p.uX i]):=oo rfl
  rw [M] at xP
  replace b:=b.bq (i:=4) (ys:=(T++[p.uX i]).flatMap bZ) rfl M (by exact List.flatMap_append.symm)
  replace Z:=Z.sp 129 (abo Au (T++[p.uX i]) Av) rfl (iZ M)
  replace b:=b.dX (i:=8) (ds:= #[vI (bR p.nx),vI p.cp,vQ p.cr,abo B G r,abo D C cl,abo E U cu,abo Au (T++[p.uX i]) Av,vN]) rfl (by rw [M];try rfl)
  refine Jb Z b ((aM 2∘Jn∘Jg 1 O1∘Jp 1) (Ju (λxQ=>?_) λxQ=>?_))
  ·
   refine (Jp 3∘Jn∘Jf 1∘JW gu gu) λEm=>(jh∘Jj∘JR∘Jp 1∘Jy (v:=vI (if (65535:Int)<(p.mD i:Int) then 65535 else p.mD i)) (h:=by exact Yl.min rfl rfl rfl)∘Jo (vI (p.tQ (i+1))) (by exact rfl)∘Jp 1∘aI∘Jj∘JR∘dx 1∘Jp 1∘aL∘Jq) λa Z b=>?_
   replace b:=b.dX (i:=1) (ds:= #[.slice (d9 e d (p.oT+1+8*(i+1))) (abr p.nums- (p.oT+1+8*(i+1))) (d- (p.oT+1+8*(i+1))),.bool (p.jY (i+1))]) rfl (by rw [show p.jY (i+1)=(((((((((p.jY i&&dle (p.tn i 0) aC)&&dle (p.tn i 1) aC)&&dle (p.tn i 2) aC)&&dle (p.tn i 3) aC)&&dle (p.tn i 4) 18446744073709551615)&&dle (p.tn i 5) 1)&&dle (p.tn i 6) 18446744073709551615)&&dle (p.tn i 7) 4294967295)&&decide (p.mD i<=65535)) from rfl,xQ];rfl)
   exact ⟨_,om,i+1,(T++[p.uX i]),Au,Av,by omega,by rw [hT,Ai],by rw [abu,hTl];rfl,xP,rfl,Z.sub kr,b.pt 10 [4,1,2,5,6,7,8,9]⟩
  refine (Jp 3∘Jn∘Jf 1∘JW gu gu) λEm=>(jh∘Jj∘JR∘Jp 1∘Jy (v:=vI (if (65535:Int)<(p.mD i:Int) then 65535 else p.mD i)) (h:=by exact Yl.min rfl rfl rfl)∘Jo (vI (p.tQ (i+1))) (by exact rfl)∘Jp 1∘aI∘Jj∘JR∘dx 1∘Jp 1∘aL∘Jq) λa Z b=>?_
  replace b:=b.dX (i:=1) (ds:= #[.slice (d9 e d (p.oT+1+8*(i+1))) (abr p.nums- (p.oT+1+8*(i+1))) (d- (p.oT+1+8*(i+1))),.bool (p.jY (i+1))]) rfl (by rw [show p.jY (i+1)=(((((((((p.jY i&&dle (p.tn i 0) aC)&&dle (p.tn i 1) aC)&&dle (p.tn i 2) aC)&&dle (p.tn i 3) aC)&&dle (p.tn i 4) 18446744073709551615)&&dle (p.tn i 5) 1)&&dle (p.tn i 6) 18446744073709551615)&&dle (p.tn i 7) 4294967295)&&decide (p.mD i<=65535)) from rfl,xQ];rfl)
  exact ⟨_,om,i+1,(T++[p.uX i]),Au,Av,by omega,by rw [hT,Ai],by rw [abu,hTl];rfl,xP,rfl,Z.sub kr,b.pt 10 [4,1,2,5,6,7,8,9]⟩
 refine (JF∘JX∘JG∘bM 1∘Jn∘Jf 0∘Jg 2 O6∘Jl∘Jp 1∘Jq∘JC (h:=by exact λb=>b.dX (i:=1) (ds:= #[.slice (d9 e d (p.oS+p.so 0 0)) (abr p.nums- (p.oS+p.so 0 0)) (d- (p.oS+p.so 0 0)),.bool (p.nG 0)]) rfl (by rw [show i=p.tk by omega];rfl))∘JC (h:=by exact λb=>b.nil 176 1)∘JC (h:=by exact λb=>b.pq 200 3)∘JC (h:=by exact λb=>(show Mem W _ (.row (vN) 0 [] 176 1::abq At T H bZ 232 8::aii g e d (p.oS+p.so 0 0) p.nums (p.nG 0)::abp e p.nums d bG 41 1::abp E U cu aZ 3 1::abp D C cl aZ 3 1::abq B G r fU 198 2::.blk F #[vI (bR p.nx),vI p.cp,vQ p.cr,abo B G r,abo D C cl,abo E U cu,abo At T H,vN] 50::ah2 O::(fs++(lQ 200 []))) from b))∘JG∘JB) λa Z b=>?_
 refine qg (λV aS wS=>∃(y:Nat) (z:List Rw) (As:ajq) (cs:Nat),(y<=abr G)/\(abr z=y)/\(z.map Rw.l=bY y p.row)/\(∀q∈z,abr q.l<=q.c)/\(abr z<=cs)/\V=abr G-y/\Fr aS 191 [] (ah8 152 y 151 (abr G) ((96,.bool false)::ah8 95 i 94 p.tk ((7,vI (p.tQ i))::(80,.bool false)::ah8 79 u 78 p.cp ((61,.bool false)::ah8 60 k 59 p.cp ((31,.bool false)::ah8 30 j 29 p.gp [(4,vP F 1),(3,vP F 0),(2,vP O 0),(0,vP g 0)])))))/\Mem W wS (abp As z cs aac 176 1::abq At T H bZ 232 8::aii g e d (p.oS+p.so y 0) p.nums (p.nG y)::abp e p.nums d bG 41 1::abp E U cu aZ 3 1::abp D C cl aZ 3 1::abq B G r fU 198 2::ai3 F (bR p.nx) p.cp p.cr B G r D C cl E U cu At T H As z cs::ah2 O::(fs++(lQ 200 z)))) (m:=abr G-0) ⟨0,[],none,0,abC _,rfl,rfl,(λq h=>by cases h),abx _,rfl,Z.sub kr,b.pt 9 [0,1,2,3,4,5,6,7,8]⟩ ?_
 clear Z b;rintro V a w_ ⟨y,z,As,cs,hy,hzl,hz,hzc,hcs,rfl,Z,b⟩
 refine Jb Z b ((cB 1∘JQ) (Ji (λhd153=>?_) λhd153=>?_))
 ·
  have hyg:y<p.gp:=by omega
  refine (eP∘aM 2∘aL∘bg 1∘Jq∘JC (h:=by exact λb=>b.nil 200 3)∘JG∘bM 1∘Jn∘Jf 0∘Jg 0 O8∘bO 1∘JB) λa Z b=>?_
  refine qg (λV aS wS=>∃(x:Nat) (R:List Sp) (J:ajq) (cr:Nat),(x<=p.cp)/\(R=bY x (p.sN y))/\(abr R=x)/\(abr R<=cr)/\V=p.cp-x/\Fr aS 191 [] (ah8 160 x 159 p.cp ((10,abo J R cr)::(9,vI y)::(153,.bool true)::ah8 152 y 151 (abr G) ((96,.bool false)::ah8 95 i 94 p.tk ((7,vI (p.tQ i))::(80,.bool false)::ah8 79 u 78 p.cp ((61,.bool false)::ah8 60 k 59 p.cp ((31,.bool false)::ah8 30 j 29 p.gp [(4,vP F 1),(3,vP F 0),(2,vP O 0),(0,vP g 0)]))))))/\Mem W wS (abq J R cr ji 200 3::abp As z cs aac 176 1::abq At T H bZ 232 8::aii g e d (p.oS+p.so y x) p.nums (p.mE (p.nG y) y x)::abp e p.nums d bG 41 1::abp E U cu aZ 3 1::abp D C cl aZ 3 1::abq B G r fU 198 2::ai3 F (bR p.nx) p.cp p.cr B G r D C cl E U cu At T H As z cs::ah2 O::(fs++(lQ 200 z)))) (m:=p.cp-0) ⟨0,[],none,0,abC _,rfl,rfl,abx _,rfl,Z.sub kr,b.pt 10 [0,1,2,3,4,5,6,7,8,9]⟩ ?_
  clear Z b;rintro V a w_ ⟨x,R,J,cr,hx,hR,hRl,hRc,rfl,Z,b⟩
  refine Jb Z b ((cB 1∘JQ) (Ji (λKX=>?_) λKX=>?_))
  ·
   have hxc:x<p.cp:=by omega
   have hin:=KG h hyg hxc
   refine (eP∘JP∘JA #[vQ 0,vW 0,vQ 0]) λvD g11=>(Jj∘bM 2∘aL∘Jj) (Ji (λKY=>?_) λKY=>?_)
   ·
    rw [if_neg om] at hin
    have hsp:p.sN y x=⟨p.sn y x 0,p.sn y x 1%4294967296,p.sn y x 2⟩:=if_neg om
    refine (JT∘JR∘Jp 1∘JO (h:=by exact λb=>Aq 18446744073709551615 W _ g (p.oS+p.so y x) e d p.nums (p.mE (p.nG y) y x) _ (b.pt 11 [4,5,0,1,2,3,6,7,8,9,10]) o om (x:=p.sn y x 0) (k2:=p.oS+(p.so y x+1)) (o2:=p.mE (p.nG y) y x&&dle (p.sn y x 0) 18446744073709551615) (OH h (p.so y x)) (rfl) (rfl))) λasj=>(Jp 1∘JO (h:=by exact λb=>Aq 4294967295 W _ g (p.oS+(p.so y x+1)) e d p.nums (p.mE (p.nG y) y x&&dle (p.sn y x 0) 18446744073709551615) _ (b.pt 11 [0,1,2,3,4,5,6,7,8,9,10]) o om (x:=p.sn y x 1) (k2:=p.oS+(p.so y x+2)) (o2:=(p.mE (p.nG y) y x&&dle (p.sn y x 0) 18446744073709551615)&&dle (p.sn y x 1) 4294967295) (OH h (p.so y x+1)) (rfl) (rfl))) λasl=>(Jv 1 [(168,vW (IntKind.u32.wrap (p.sn y x 1:Int)))]∘Jo (vW ((p.sn y x 1)%4294967296:Nat)) (by exact XZ (p.sn y x 1))∘Jf 0∘JW iE aN) λadW=>(Jf 1∘JW iE gu) λadX=>(jh∘Jq∘JC (h:=by exact λb=>(show Mem W _ (.blk g #[.slice (d9 e d (p.oS+(p.so y x+2))) (abr p.nums- (p.oS+(p.so y x+2))) (d- (p.oS+(p.so y x+2))),.bool ((p.mE (p.nG y) y x&&dle (p.sn y x 0) 18446744073709551615)&&dle (p.sn y x 1) 4294967295)] 302::abp e p.nums d bG 41 1::.blk g11 #[vQ (p.sn y x 0),vW ((p.sn y x 1)%4294967296:Nat),vQ 0] 200::abq J R cr ji 200 3::abp As z cs aac 176 1::abq At T H bZ 232 8::abp E U cu aZ 3 1::abp D C cl aZ 3 1::abq B G r fU 198 2::ai3 F (bR p.nx) p.cp p.cr B G r D C cl E U cu At T H As z cs::ah2 O::(fs++(lQ 200 z))) from b))∘JG∘aM 1∘JO (h:=by exact λb=>Aq 18446744073709551615 W _ g (p.oS+(p.so y x+2)) e d p.nums ((p.mE (p.nG y) y x&&dle (p.sn y x 0) 18446744073709551615)&&dle (p.sn y x 1) 4294967295) _ (b.pt 11 [0,1,2,3,4,5,6,7,8,9,10]) o om (x:=p.sn y x 2) (k2:=p.oS+p.so y (x+1)) (o2:=p.mE (p.nG y) y (x+1)) (OH h (p.so y x+2)) (by rw [KS om];rfl) ((KU om).symm))) λVB=>(Jf 2∘JW iE iE) λKZ=>(wu∘Jq∘JC (h:=by exact λb=>(show Mem W _ (aii g e d (p.oS+p.so y (x+1)) p.nums (p.mE (p.nG y) y (x+1))::abp e p.nums d bG 41 1::.blk g11 #[vQ (p.sn y x 0),vW ((p.sn y x 1)%4294967296:Nat),vQ (p.sn y x 2)] 200::abq J R cr ji 200 3::abp As z cs aac 176 1::abq At T H bZ 232 8::abp E U cu aZ 3 1::abp D C cl aZ 3 1::abq B G r fU 198 2::ai3 F (bR p.nx) p.cp p.cr B G r D C cl E U cu At T H As z cs::ah2 O::(fs++(lQ 200 z))) from b))∘JG∘JR∘Jp 1∘eF mh O2∘JU mo #[vQ (p.sn y x 0),vW ((p.sn y x 1)%4294967296:Nat),vQ (p.sn y x 2)]) λVD VE=>(JD ([(⟨p.sn y x 0,p.sn y x 1%4294967296,p.sn y x 2⟩:Sp)].flatMap ji) 4 (λ_ _=>qK) mo (hr:=by exact λb=>b.bE (i:=0) (n:=1) (size:=3) rfl rfl) (h1:=by exact SE _)) λVF Y xR N=>(Jp 1∘fK∘Jq) ?_
    have A:abr R+1=abr (R++[p.sN y x]):=oo rfl
    rw [A] at N
    refine (JC (h:=by exact λb=>b.bq (i:=4) (ys:=(R++[p.sN y x]).flatMap ji) rfl A (by rw [hsp];exact List.flatMap_append.symm))∘Jk 10 (.slice Y (abr (R++[p.sN y x])) xR) (h:=by exact iZ A)∘JG∘JR∘dx 1∘Jp 1∘aL∘Jq) λa Z b=>?_
    exact ⟨_,om,x+1,(R++[p.sN y x]),Y,xR,by omega,by rw [hR,Ai],by rw [abu,hRl];rfl,N,rfl,Z.sub kr,b.pt 12 [4,5,6,1,2,7,8,9,10,11]⟩
   rw [if_pos om] at hin
   have hsp:p.sN y x=⟨0,0,p.sn y x 0⟩:=if_pos om
   refine (aP∘aM 1∘JO (h:=by exact λb=>Aq 18446744073709551615 W _ g (p.oS+p.so y x) e d p.nums (p.mE (p.nG y) y x) _ (b.pt 11 [4,5,0,1,2,3,6,7,8,9,10]) o om (x:=p.sn y x 0) (k2:=p.oS+p.so y (x+1)) (o2:=p.mE (p.nG y) y (x+1)) (OH h (p.so y x)) (by rw [KR om];rfl) ((KT om).symm))) λVB=>(Jf 2∘JW iE iE) λKZ=>(oK∘Jq∘JC (h:=by exact λb=>(show Mem W _ (aii g e d (p.oS+p.so y (x+1)) p.nums (p.mE (p.nG y) y (x+1))::abp e p.nums d bG 41 1::.blk g11 #[vQ 0,vW 0,vQ (p.sn y x 0)] 200::abq J R cr ji 200 3::abp As z cs aac 176 1::abq At T H bZ 232 8::abp E U cu aZ 3 1::abp D C cl aZ 3 1::abq B G r fU 198 2::ai3 F (bR p.nx) p.cp p.cr B G r D C cl E U cu At T H As z cs::ah2 O::(fs++(lQ 200 z))) from b))∘JG∘JR∘Jp 1∘eF mh O2∘JU mo #[vQ 0,vW 0,vQ (p.sn y x 0)]) λVD VE=>(JD ([(⟨0,0,p.sn y x 0⟩:Sp)].flatMap ji) 4 (λ_ _=>qK) mo (hr:=by exact λb=>b.bE (i:=0) (n:=1) (size:=3) rfl rfl) (h1:=by exact SE _)) λVF Y xR N=>(Jp 1∘fK∘Jq) ?_
   have A:abr R+1=abr (R++[p.sN y x]):=oo rfl
   rw [A] at N
   refine (JC (h:=by exact λb=>b.bq (i:=4) (ys:=(R++[p.sN y x]).flatMap ji) rfl A (by rw [hsp];exact List.flatMap_append.symm))∘Jk 10 (.slice Y (abr (R++[p.sN y x])) xR) (h:=by exact iZ A)∘JG∘JR∘dx 1∘Jp 1∘aL∘Jq) λa Z b=>?_
   exact ⟨_,om,x+1,(R++[p.sN y x]),Y,xR,by omega,by rw [hR,Ai],by rw [abu,hRl];rfl,N,rfl,Z.sub kr,b.pt 12 [4,5,6,1,2,7,8,9,10,11]⟩
  refine (JF∘JX∘JG∘JR∘Jp 2∘Jn∘Jg 6 O8∘Jp 1∘JU oO #[abo J R cr]) λasn aso=>(JD ([(⟨J,cr,R⟩:Rw)].map aac) 2 (λ_ _=>iE) oO (hr:=by exact λb=>b.bE (i:=0) (n:=1) (size:=1) rfl rfl) (h1:=by exact zik _)) λasq K L BR=>(Jn∘Jf 6∘JW QA wo) λVG=>(jh∘Jq) ?_
  have S:abr z+1=abr (z++[(⟨J,cr,R⟩:Rw)]):=oo rfl
  rw [S] at BR
  refine (JC (h:=by exact λb=>b.bq (i:=2) (ys:=(z++[(⟨J,cr,R⟩:Rw)]).map aac) rfl S (by exact List.map_append.symm))∘JC (h:=by exact λb=>b.dX (i:=9) (ds:= #[vI (bR p.nx),vI p.cp,vQ p.cr,abo B G r,abo D C cl,abo E U cu,abo At T H,abo K (z++[(⟨J,cr,R⟩:Rw)]) L]) rfl (by rw [S];try rfl))∘JC (h:=by exact λb=>b.pt (fs':=(abq J R cr ji 200 3::abp K (z++[(⟨J,cr,R⟩:Rw)]) L aac 176 1::abq At T H bZ 232 8::aii g e d (p.oS+p.so y x) p.nums (p.mE (p.nG y) y x)::abp e p.nums d bG 41 1::abp E U cu aZ 3 1::abp D C cl aZ 3 1::abq B G r fU 198 2::ai3 F (bR p.nx) p.cp p.cr B G r D C cl E U cu At T H K (z++[(⟨J,cr,R⟩:Rw)]) L::ah2 O::(fs++(lQ 200 z)))) 11 [1,2,3,4,5,6,7,8,9,10])∘JC (h:=by exact λb=>aaF (fs:=(abp K (z++[(⟨J,cr,R⟩:Rw)]) L aac 176 1::abq At T H bZ 232 8::aii g e d (p.oS+p.so y x) p.nums (p.mE (p.nG y) y x)::abp e p.nums d bG 41 1::abp E U cu aZ 3 1::abp D C cl aZ 3 1::abq B G r fU 198 2::ai3 F (bR p.nx) p.cp p.cr B G r D C cl E U cu At T H K (z++[(⟨J,cr,R⟩:Rw)]) L::ah2 O::fs)) b)∘JC (h:=by exact λb=>(show Mem W _ (abp K (z++[(⟨J,cr,R⟩:Rw)]) L aac 176 1::abq At T H bZ 232 8::aii g e d (p.oS+p.so y x) p.nums (p.mE (p.nG y) y x)::abp e p.nums d bG 41 1::abp E U cu aZ 3 1::abp D C cl aZ 3 1::abq B G r fU 198 2::ai3 F (bR p.nx) p.cp p.cr B G r D C cl E U cu At T H K (z++[(⟨J,cr,R⟩:Rw)]) L::ah2 O::(fs++(lQ 200 (z++[(⟨J,cr,R⟩:Rw)])))) from b))∘JG∘JR∘dx 1∘Jp 1∘fK∘Jq) λa Z b=>?_
  replace b:=b.dX (i:=2) (ds:= #[.slice (d9 e d (p.oS+p.so (y+1) 0)) (abr p.nums- (p.oS+p.so (y+1) 0)) (d- (p.oS+p.so (y+1) 0)),.bool (p.nG (y+1))]) rfl (by rw [OI,show x=p.cp by omega];rfl)
  exact ⟨_,om,y+1,(z++[(⟨J,cr,R⟩:Rw)]),K,L,by omega,by rw [abu,hzl];rfl,by rw [abW,hz,Ai,hR,show x=p.cp by omega];rfl,λq h=>(acg.1 h).elim (hzc q) (λh=>by rw [List.mem_singleton] at h;subst h;exact hRc),BR,rfl,Z.sub kr,b.pt 9 [0,1,2,3,4,5,6,7,8]⟩
 have e0:y=p.gp:=by omega
 have e1:bY p.gp p.iR=G:=by rw [hG,show j=p.gp by omega]
 have e2:p.cl.map bR=C:=by rw [hC,show k=p.cp by omega];exact (quh h.cl bR).symm
 have e3:p.cu.map bR=U:=by rw [hU,show u=p.cp by omega];exact (quh h.cu bR).symm
 have e4:bY p.tk p.uX=T:=by rw [hT,show i=p.tk by omega]
 have e5:(bY p.gp λg=>(⟨none,0,p.row g⟩:Rw)).map Rw.l=z.map Rw.l:=by rw [hz,e0];exact zf4 _ _ _
 refine (JF∘JX∘JG∘JP∘eF zr O7∘JV zr GA) λadY=>(mW∘Jq∘JC (h:=by exact λb=>b.dX (i:=2) (ds:= #[.slice (d9 e d (p.oS+p.so p.gp 0)) (abr p.nums- (p.oS+p.so p.gp 0)) (d- (p.oS+p.so p.gp 0)),.bool p.okB]) rfl (by rw [e0];try rfl))∘JG∘JZ) λa Z b=>?_
 exact jc rfl Z (.cellS (i:=8) Z b rfl rfl zr rfl) (⟨(⟨bR p.nx,⟨(p.cp:Int),p.cr,B,r,G,D,cl,C,E,cu,U,At,H,T,As,cs,z⟩⟩:dG),_,_,_,rfl,qY rfl ⟨⟨rfl,rfl,e1⟩,e2,e3,e4,e5⟩,⟨hGc,hCc,hUc,hTc,hcs,hzc⟩,aa1 (b.pt 9 [2,6,5,4,1,0])⟩)
def zap (A:ajq) (c:Nat) (l:List Nat) (B:Nat) (w:ajg) (x:aR B w) (o:B<=w.heap.size) (hr:Rd w w.heap.size 1 A (abr l) (l.map B8)) (hc:abr l<=c) (y:abr l<=100000000) (q:∀z∈l,z<256):
    Calls abt 112 #[.slice A (abr l) c] w (OV w (oG l) (lS l)):=by
 refine (fE Tryz.func112 37) ?_
 refine (JP∘JA ajc) λS C=>(bO 1∘JQ) λa Z b=>?_
 rcases hop:gq l with k|p
 ·
  have I:=UK hop
  refine Jb Z b ((JR∘Jp 1∘JI (h:=by exact λb=>zm3 A c l B _ (x.mem b o) (b.le o) (b.old hr) hc y q hop)) λr s=>(Jp 1∘Jx∘Jx∘bO 2∘bM 2∘aL∘Jj) (Jh (λg=>?_) λg=>?_))
  ·
   refine (JT∘JP∘fu ajc∘Jp 1∘JV zr aN) λD=>(Jp 1∘bU∘aQ) λa Z b=>?_
   exact dS rfl Z (.cellS (i:=0) Z b rfl rfl zr rfl) (.tmp Z rfl) (UZ (tT hop) rfl (b.pk []))
  intro a Z b
  exfalso;omega
 ·
  have e:=(UW q hop).2.2.1
  refine Jb Z b ((JR∘Jp 1∘JL (h:=by exact λb=>zm2 A c l B _ (x.mem b o) (b.le o) (b.old hr) hc y q hop)) ?_)
  rintro b _ r ⟨J,T,U,E,F,V,sc,rfl,t,K,hm⟩
  refine ⟨_,rfl,_,b.join hm,?_⟩
  refine (Jp 1∘Jx∘Jx∘bO 2∘JQ∘JP∘Jv 2 [(14,.bool false)]∘Jj∘aP∘aM 1∘Jn∘Jg 2 O0∘fu #[abo E p.nums F,.bool true]∘JE) λL j=>(Jp 1∘kV∘bg 1∘JL (h:=by exact λb=>q3v _ _ j E F p e [ah2 C] (b.pk [0,2,4]) t)) ?_
  rintro b _ M ⟨z,u,N,O,rfl,hz,f,v⟩
  refine ⟨_,rfl,_,v,?_⟩
  refine (JA ajc) λW P=>(JV zr aN (h1:=by exact NQ z)) λG=>(bU∘Jj∘bM 1∘Jn∘Jg 1 O1∘Jp 2) (Ju (λd=>?_) λd=>?_)
  ·
   refine (Jp 4∘aI∘Jj∘JT∘JP∘fu ajc∘JV zr iE) λm=>(Jp 1∘aL∘aQ) λa Z b=>?_
   exact dS rfl Z (.cellS (i:=2) Z b rfl rfl zr rfl) (.tmp Z rfl) (UZ (OU hop (λh=>by rw [h.1] at d;cases d)) rfl (b.pk []))
  refine (eF zr O0∘JI (h:=by exact λb=>VN z (zi8 hz (zi6 e)) (zil (DI hz) (UU e _ (.inl rfl))) f _ (b.stX 3 rfl))) λQ s=>(Jp 2∘aI∘Jj) (Jh (λn=>?_) λn=>?_)
  ·
   refine (JT∘JP∘fu ajc∘JV zr iE) λm=>(Jp 1∘aL∘aQ) λa Z b=>?_
   exact dS rfl Z (.cellS (i:=2) Z b rfl rfl zr rfl) (.tmp Z rfl) (UZ (OU hop (λh=>by have R:=h.2;rw [<-I9 hz] at R;omega)) rfl (b.pk []))
  refine (aP∘JP∘eF zr O0∘JV zr iE (h1:=by exact NQ z)) λH=>(Jp 1∘aL∘aQ) λa Z b=>?_
  exact dS rfl Z (.cellS (i:=2) Z b rfl rfl zr rfl) (.tmp Z rfl) (q98 (UY hop ⟨by simpa using d,by rw [<-I9 hz];omega⟩) rfl hz f (b.mJ (aeH ([.blk P z.cells 50,.blk j #[.slice u N O,.bool p.okB] 302,.blk C z.cells 50]:List ajr) _)))
def q0i:∀(f:Nat) (l:List Nat),(∀x∈l,x<256)->(qx f l).2.2=0->∀b∈(qx f l).1,b.Ok/\abr b.evs<=4096
 |0,_,_,_=>λb a=>by cases a
 | f + 1, l, e, h => by
  rw [qx] at h⊢
  split at h
  ·rename_i d
   rw [if_pos d]
   exact λb a=>by cases a
  ·rename_i d
   rw [if_neg d]
   split at h
   ·rename_i c;exact absurd h c
   ·rename_i c
    rw [if_neg c]
    intro b a
    rcases abX.1 a with rfl|a
    ·exact zkq e (ady.1 c)
    ·exact q0i f _ (λx g=>e x (abQ g)) h b a
def qxp (d:∀x∈l,x<256) (h:(readAll l).2=0):∀b∈(readAll l).1,b.Ok/\abr b.evs<=4096:=by
 by_cases c:524288<abr l
 ·rw [RQ c] at h;cases h
 ·by_cases a:(qx (abr l) l).2.2=0
  ·rw [RU c a]
   exact q0i _ _ d a
  ·rw [RS c rfl a] at h
   exact absurd h a
section
variable {l:List Nat}
def Lp (c:∀z∈l,z<256) (h:oG l=0):(lS l).st.ay.Ok/\cZ (lS l).st/\1<=(lS l).next/\(lS l).next<=281474976710657:=by
 have hc:=(Bz (zqc c h).1).1
 refine ⟨?_,?_,by omega,by omega⟩
 all_goals
  cases ho:gq l with
  |error k=>
   rw [(tT ho).1] at h
   have:=UK ho
   omega
  | ok p =>
   have a:=(UW c ho).2.2.1
   by_cases d:p.okB=true/\dP p.rX=0
   ·rw [(UY ho d).2]
    first|exact zi6 a|exact UU a _ (.inl rfl)
   ·rw [(OU ho d).1] at h
    cases h
def BX (bs:List Bk):Prop:=(∀b∈bs,b.Ok/\abr b.evs<=4096)/\abr bs<=1000000
def quq:∀(f:Nat) (l:List Nat),13*(qx f l).1.length<=abr l
 |0,l=>abC _
 | f + 1, l => by
  rw [qx]
  split
  ·exact abC _
  ·split
   ·exact abC _
   ·rename_i h
    obtain ⟨c,d,_⟩:=Rs (l:=l) (b:=(dK l).1) (m:=(dK l).2.1) (by rw [<-ady.1 h])
    have a:=quq f (l.drop (dK l).2.1)
    rw [abE] at a
    show 13*((qx f _).1.length+1)<=_
    omega
def qm7 (h:(readAll l).2=0):(readAll l).1.length<=1000000:=by
 rcases ab0 524288 (abr l) with a|a
 ·rw [RQ a] at h;cases h
 ·have d:=quq (abr l) l
  by_cases c:(qx (abr l) l).2.2=0
  ·rw [RU om c];show (qx (abr l) l).1.length<=_;omega
  ·rw [RS om rfl c];exact abC _
def zaq (a:∀x∈l,x<256) (h:(readAll l).2=0):BX (readAll l).1:=⟨qxp a h,qm7 h⟩
end
def V3 (w:ajg) (b:List Nat) (x:Pl) (r:ajk) (w':ajg):Prop:=∃p:Pm,r= .returned (.tuple #[.agg p.cells,.int .i64 (dz b x:Int)])/\(dz b x=0->dI (lS (bn b x.sn x.st)) p.z/\p.q.map ac2=(readAll (bn b x.st x.en)).1)/\fF p/\Mem w w' (jd p)
def zas:fF Pm.zero:=by
 refine ⟨⟨?_,?_,?_,?_,?_,?_,?_⟩,⟨?_,?_,?_,?_,?_,?_⟩,qz5,?_,?_,?_,?_,?_⟩
 all_goals first|exact abC _|(intro z hz;cases hz)|(show (0:Nat)<_;decide)|(show aX (0:Int);unfold aX;decide)
section
variable {W w w':ajg} {F T:List ajr} {b:List Nat} {x:Pl}
theorem Mem.xZ (h:Mem W w []):Mem W w (jd Pm.zero):=by
 exact ((((((h.nil 85 5).nil 176 1).nil 232 8).nil 3 1).nil 3 1).nil 198 2)
def V4 {n:Int} (c:(dz b x:Int)=n) (a:n≠0) (d:Mem W w []):V3 W b x (.returned (.tuple #[.agg Pm.zero.cells,.int .i64 n])) w:=by
 subst c
 exact ⟨Pm.zero,rfl,λh=>absurd (by rw [h];rfl) a,zas,d.xZ⟩
def zgk {z:dG} {q:List Hb} (hb:∀y∈b,y<256) (h1:oG (bn b x.sn x.st)=0) (i:(lS (bn b x.sn x.st)).next=(x.nx:Int)) (j:(readAll (bn b x.st x.en)).2=0) (hz:dI (lS (bn b x.sn x.st)) z) (a:gD z.st) (d:q.map ac2=(readAll (bn b x.st x.en)).1) (hc:abr q<=c) (k:BX (readAll (bn b x.st x.en)).1) (m:Mem W w (jd ⟨z,A,c,q⟩)):V3 W b x (.returned (.tuple #[.agg (Pm.cells ⟨z,A,c,q⟩),.int .i64 0])) w:=by
 have n:dz b x=0:=(U5 h1 i).trans j
 have e:=KO hb x.sn x.st
 obtain ⟨o1,o,r,s⟩:=Lp e h1
 obtain ⟨r1,p⟩:=k
 have f:abr q=(readAll (bn b x.st x.en)).1.length:=by rw [<-d,abz]
 refine ⟨⟨z,A,c,q⟩,by rw [n];rfl,λ_=>⟨hz,d⟩,⟨zi8 hz o1,zil (DI hz) o,a,?_,λh g=>?_,λh g=>?_,by rw [f];exact p,hc⟩,m⟩
 ·show aX z.next
  rw [<-hz.1]
  unfold aX
  omega
 ·exact (r1 h.b (by rw [<-d];exact ac1 g)).1
 ·have:=(r1 h.b (by rw [<-d];exact ac1 g)).2
  omega
end
def pV (p:Pm) (e:Nat):Array ajh:= #[.int .i64 p.z.next,.int .i64 p.z.st.au,.int .u64 (p.z.st.aj:Int),.slice p.z.st.gA (abr p.z.st.gs) p.z.st.gc,.slice p.z.st.lA (abr p.z.st.cl) p.z.st.lc,.slice p.z.st.uA (abr p.z.st.cu) p.z.st.uc,.slice p.z.st.tA (abr p.z.st.ts) p.z.st.tc,.slice p.z.st.sA (abr p.z.st.rs) p.z.st.sc,.slice p.A (abr p.q) p.c,.int .i64 (e:Int)]
def zjb (p:Pm) (e:Nat):∀v∈(pV p e).toList,v.oneCell'=true:=by
 intro v b
 simp only [pV,abX,acA,or_false] at b
 rcases b with rfl|rfl|rfl|rfl|rfl|rfl|rfl|rfl|rfl|rfl<;>rfl
def pW (b:List Nat) (x:Pl) (p:Pm):Prop:=dz b x=0->dI (lS (bn b x.sn x.st)) p.z/\p.q.map ac2=(readAll (bn b x.st x.en)).1
def V7 (W:ajg) (b:List Nat) (L:List Pl) (f:Nat) (Inv:List Pl->List ajr->Prop) (Stop:List ajr->Prop):Prop:=
 ∀(c:List Pl) (F fr:List ajr) (w:ajg) (i:Nat) (x:Pl) (t:List Pl) (p:Pm),Inv c F->c=x::t->L.drop i=c->i<abr L->L.getD i Pl.zero=x->pW b x p->fF p->Mem W w (jd p++(F++fr))->
  YieldAt Fence.wide 0 abt f #[.int .i64 (i:Int),.agg (pV p (dz b x))] w λe w'=>∃d,Mem W w' (d++fr)/\((True/\e= .returned (.bool true)/\Inv t d)\/(True/\e= .returned (.bool false)/\Stop d))
def q32 (W:ajg) (Inv:List Pl->List ajr->Prop) (Stop:List ajr->Prop) (r:ajk) (w':ajg):Prop:=∃v,r= .returned v/\∃b,Mem W w' b/\(Inv [] b\/Stop b)
def qm9 {W:ajg} {fr:List ajr} {I S:List ajr->Prop}:∀(e:ajk) (w':ajg),(∃b,Mem W w' (b++fr)/\((True/\e= .returned (.bool true)/\I b)\/(True/\e= .returned (.bool false)/\S b)))->∃v,e= .returned v
 |_,_,⟨_,_,.inl ⟨_,h,_⟩⟩=>⟨_,h⟩
 |_,_,⟨_,_,.inr ⟨_,h,_⟩⟩=>⟨_,h⟩
section
variable {W w w':ajg} {a pa T F G es fr:List ajr} {p:Pm} {q:List Pm}
theorem Mem.jZ (n:Nat) (h:Mem W w F) (k:Mem w w' G) (c:F.drop n=T):Mem W w' (F.take n++(G++T)):=by
 have b:=h.qX k
 rw [<-ab1 n F,c,aby] at b
 exact b.perm (adw _ acG)
def abm (h:Mem W w (es++(pa++F))):Mem W w (pa++(F++es)):=by
 have b:=h.perm acG
 rwa [aby] at b
def aaT (h:Mem W w (pa++(a++T))):Mem W w (a++(pa++T)):=by
 rw [<-aby] at h⊢
 exact h.perm (aey T acG)
def aaZ (h:Mem W w (a++(jd p++(dH q++fr)))):Mem W w (a++(dH (q++[p])++fr)):=by
 rw [quj]
 rw [<-aby] at h⊢
 rw [<-aby] at h
 refine h.perm (aey fr ?_)
 rw [aby]
 exact adw a acG
def aaE (h:Mem W w (a++(pa++fr))):Mem W w (a++fr):=h.mJ (ahw (aeH pa fr) a)
end
def zav (w:ajg) (b:List Nat) (r:ajk) (w':ajg):Prop:=
 ((bT b).2≠0/\Is w (.tuple #[.slice none 0 0,.int .i64 (-1),.int .i64 ((bT b).2:Int)]) r w')\/
 ((bT b).2=0/\∃k e,jQ b (bT b).1 0=some (k,e)/\Is w (.tuple #[.slice none 0 0,.int .i64 (k:Int),.int .i64 (e:Int)]) r w')\/
 ((bT b).2=0/\jQ b (bT b).1 0=none/\∃(A:ajq) (c:Nat) (q:List Pm),r= .returned (.tuple #[.slice A (abr q) c,.int .i64 (-1),.int .i64 0])/\abr q=(bT b).1.length/\(∀i,i<abr q->pW b ((bT b).1.getD i Pl.zero) (q.getD i Pm.zero))/\(∀p∈q,fF p)/\abr q<=c/\Mem w w' (.row (.slice A (abr q) c) (abr q) (q.flatMap iJ) 53 9::dH q))
def FZ (L:List Pl) (next:Int):Nat->Int×Nat
 |0=>(0,6)
 |k+1=>if ((L.getD k Pl.zero).nx:Int)<=next then ((k:Int),0) else FZ L next k
def kM (b:List Nat) (next:Int):Int×Nat:=if (bT b).2≠0 then (0,(bT b).2) else FZ (bT b).1 next (bT b).1.length
def iY (b:List Nat) (i:Int):Nat:=if (bT b).2≠0 then (bT b).2 else if i<0\/((bT b).1.length:Int)<=i then 2 else dz b ((bT b).1.getD i.toNat Pl.zero)
def Lr (w:ajg) (b:List Nat) (i:Int) (r:ajk) (a:ajg):Prop:=∃p:Pm,r= .returned (.tuple #[.agg p.cells,.int .i64 (iY b i:Int)])/\(iY b i=0->pW b ((bT b).1.getD i.toNat Pl.zero) p)/\fF p/\Mem w a (jd p)
section
variable {W w:ajg} {b:List Nat} {L:List Pl} {i:Int} {ie k:Nat}
def V8 {n:Int} (c:iY b i=e) (d:n=(e:Int)) (a:e≠0) (f:Mem W w []):Lr W b i (.returned (.tuple #[.agg Pm.zero.cells,.int .i64 n])) w:=by
 subst c d
 exact ⟨Pm.zero,rfl,λh=>absurd h a,zas,f.xZ⟩
def zgl {x:Pl} {p:Pm} (hi:bT b=(L,0)) (h:i=(k:Int)) (hk:k<abr L) (a:L.getD k Pl.zero=x) (c:pW b x p) (d:fF p) (e:Mem W w (jd p)):Lr W b i (.returned (.tuple #[.agg p.cells,.int .i64 (dz b x:Int)])) w:=by
 subst h a
 have f:iY b (k:Int)=dz b (L.getD k Pl.zero):=by unfold iY;rw [hi,if_neg (λh=>h rfl),if_neg (by show ¬((k:Int)<0\/(abr L:Int)<=(k:Int));omega)];rfl
 refine ⟨p,by rw [f],λ_=>?_,d,e⟩
 rw [hi]
 exact c
def zgm (hi:bT b=(L,ie)) (h:ie≠0):iY b i=ie:=by unfold iY;rw [hi];exact if_pos h
theorem q0j (hi:bT b=(L,0)) (h:i<0\/(abr L:Int)<=i):iY b i=2:=by grind [iY]
def zgn {n:Int} (hi:bT b=(L,ie)) (h:ie≠0):kM b n=(0,ie):=by unfold kM;rw [hi];exact if_pos h
def zm8 {n:Int} (hi:bT b=(L,0)):kM b n=FZ L n (abr L):=by unfold kM;rw [hi];exact if_neg (λh=>h rfl)
end
def lG (next:Int):dG:=⟨next,⟨1,0,none,1,[⟨0,1⟩],none,1,[0],none,1,[0],none,0,[],none,1,[⟨none,1,[⟨0,0,0⟩]⟩]⟩⟩
def rF (next:Int):Pv:=⟨lG next,[kX 7]⟩
def dU:List Nat:=(oH [rF 1]).1
def zjc (w:ajg) (next:Int) (r:ajk) (a:ajg):Prop:=∃p:Pm,r= .returned (.agg p.cells)/\dI (lG next) p.z/\p.q.map ac2=[kX 7]/\fF p/\Mem w a (jd p)
def yg (x y:Pv):Prop:=dI x.s y.s/\x.bs=y.bs
inductive kN:List Pv->List Pv->Prop where
 |nil:kN [] []
 |cons {x y:Pv} {l m:List Pv} (h:yg x y) (t:kN l m):kN (x::l) (y::m)
def zaw:∀{l m:List Pv} (last:Int) (i:Nat),kN l m->l6 m last i=l6 l last i
 |_,_,_,_,.nil=>rfl
 |_,_,last,i,.cons h t=>by
  rw [l6,l6,I9 h.1,h.2,h.1.1,zaw _ _ t]
theorem zjd {l m:List Pv} (h:kN l m):abr m=abr l:=by induction h<;>grind
theorem V9 {l m:List Pv} (h:kN l m):qG m=qG l:=by
 unfold qG
 rw [zjd h,zaw _ _ h]
def zax {l m:List Pv} (h:kN l m) (i:Nat):yg (l.getD i Pv.zero) (m.getD i Pv.zero):=by
 induction h generalizing i with
 |nil=>exact ⟨qui _,rfl⟩
 |cons h _ a=>
  cases i with
  |zero=>exact h
  |succ i=>exact a i
theorem zje {l m:List Pv} (h:kN l m):∀i,stA m i=stA l i
 |0=>rfl
 |i+1=>by
  rw [stA,stA,zje h i]
  unfold rD
  rw [SG (zax h i).1,(zax h i).2]
theorem zgo {l m:List Pv} (h:kN l m):m.flatMap jR=l.flatMap jR:=by
 induction h with
 |nil=>rfl
 |cons h _ a=>
  rw [abO,abO,a]
  unfold jR
  rw [SG h.1,h.2,h.1.1]
theorem zay {l m:List Pv} (h:kN l m):oH m=oH l:=by grind [V9,headA,zjd,mF,zgo,zje,oH]
def oW {p:Pm} {n:Int} (h:dI (lG n) p.z) (a:p.q.map ac2=[kX 7]):yg (rF n) p.v:=⟨h,a.symm⟩
set_option maxRecDepth 100000 in
theorem zgp:oH [rF 1]=(dU,0):=by kernel_rfl
set_option maxRecDepth 100000 in
theorem zjf:bT dU=([⟨1,11,26,39⟩],0):=by kernel_rfl
set_option maxRecDepth 100000 in
theorem zqi:dz dU ⟨1,11,26,39⟩=0:=by kernel_rfl
set_option maxRecDepth 100000 in
theorem Ls:(readAll (bn dU 26 39)).1=[kX 7]:=by kernel_rfl
set_option maxRecDepth 100000 in
theorem Lu:qG [rF 1,rF 0]=(1,330):=by kernel_rfl
set_option maxRecDepth 100000 in
theorem Lv:qG [rF 1,rF 5,rF 4]=(2,411):=by kernel_rfl
def LY (n:Int) (a b c d e f:Nat):Pm:=⟨⟨n,(PU a b c d e).st⟩,some ⟨f,0,none⟩,1,[⟨kX 7,none,0⟩]⟩
section
variable {W w w':ajg} {n:Int} {a b c d e f:Nat} {F S S2 T:List ajr} {p q s:Pm} {r:ajk}
def LZ (g:aX n) (h:Mem W w [.blk a #[.int .i64 0,.int .i64 1] 198,.blk b #[.int .i64 0] 3,.blk c #[.int .i64 0] 3,.blk e #[.slice (some ⟨d,0,none⟩) 1 1] 176,.blk d #[.int .u64 0,.int .u32 0,.int .u64 0] 200,.blk f #[.int .u8 2,.int .u8 0,.int .i64 0,.int .i64 7,.slice none 0 0] 85]):zjc W n (.returned (.agg (LY n a b c d e f).cells)) w:=by
 have j:=h.fV (i:=0) (n:=1) (size:=2) rfl rfl de
 have k:=j.fV (i:=1) (n:=1) (size:=1) rfl rfl de
 have l:=k.fV (i:=2) (n:=1) (size:=1) rfl rfl de
 have m:=l.fV (i:=3) (n:=1) (size:=1) rfl rfl de
 have o:=m.fV (i:=4) (n:=1) (size:=3) rfl rfl de
 have t:=o.fV (i:=5) (n:=1) (size:=5) rfl rfl de
 have u:=(t.nil 232 8).nil 73 11
 exact ⟨LY n a b c d e f,rfl,qY rfl ⟨⟨rfl,rfl,rfl⟩,rfl,rfl,rfl,rfl⟩,rfl,⟨zqs,znx,zny,g,y5 (zkz (by unfold aX;decide)),y5 (abC _),by show 1<=1000000;decide,abx _⟩,u.picks [2,3,4,1,5,6,7,0] de rfl⟩
theorem Mem.PV (n:Nat) (h:Mem W w F) (g:F.drop n=jd p++T):gM w p:=h.Ao λf i=>abQ (g▸adS _ i)
theorem Mem.L6 (n:Nat) (h:Mem W w F) (g:F.drop n=S++(jd p++T)):gM w p:=h.Ao λf i=>abQ (g▸adi _ (adS _ i))
theorem Mem.WE (n:Nat) (h:Mem W w F) (g:F.drop n=S++(S2++(jd p++T))):gM w p:=h.Ao λf i=>abQ (g▸adi _ (adi _ (adS _ i)))
def znz (h:fF p) (k:gM w p):∀x∈[p],fF x/\gM w x:=y5 (p:=λx=>fF x/\gM w x) ⟨h,k⟩
theorem zn0 (h:fF p) (k:gM w p) (g:fF q) (k2:gM w q):∀x∈[p,q],fF x/\gM w x:=by grind
theorem zn1 (h:fF p) (k:gM w p) (g:fF q) (k2:gM w q) (i:fF s) (j:gM w s):∀x∈[p,q,s],fF x/\gM w x:=by grind
end
def mR:List Nat:=(oH []).1
set_option maxRecDepth 100000 in
theorem Ce:oH []=(mR,0)/\mR=[113,97,1,0]++mR.drop 4/\mR.length=8:=by refine ⟨?_,?_,?_⟩<;>kernel_rfl
set_option maxRecDepth 100000 in
theorem zqt:dU=[113,97,1,1,1,15,13]++dU.drop 7:=by kernel_rfl
set_option maxRecDepth 100000 in
theorem rM:dU.length=39:=by kernel_rfl
set_option maxRecDepth 100000 in
theorem uf:∀x∈dU,x<256:=by
 have h:(dU.all λx=>decide (x<256))=true:=by kernel_rfl
 exact λx g=>of_decide_eq_true (List.all_eq_true.1 h x g)
set_option maxRecDepth 100000 in
theorem zn2:bT (dU++[0])=([],410):=by kernel_rfl
set_option maxRecDepth 100000 in
theorem L8:kM dU 9=(0,0)/\kM dU 0=(0,6)/\iY dU 0=0/\iY dU 1=2:=by refine ⟨?_,?_,?_,?_⟩<;>kernel_rfl
set_option maxRecDepth 100000 in
theorem L9:(lS (bn dU 11 26)).next=1:=by kernel_rfl
def zqu:∀x∈dU++[0],x<256:=by decide
def zn3 (h:Rd w B 1 A m (dU.map B8)) (hm:m=39):Rd w B 1 A 7 ([113,97,1,1,1,15,13].map B8):=by
 rw [zqt] at h
 exact Rd.pre h rfl om
def zn4 (h:Rd w B 1 A m (mR.map B8)) (hm:m=8):Rd w B 1 A 4 ([113,97,1,0].map B8):=by
 rw [Ce.2.1] at h
 exact Rd.pre h rfl om
def Ma (w:ajg) (r:ajk) (w':ajg):Prop:=∃(z:aF) (g c:Nat) (h:Hb),r= .returned (.tuple #[.agg #[.int .i64 1,.int .i64 z.au,.int .u64 (z.aj:Int),.slice z.gA (abr z.gs) z.gc,.slice z.lA (abr z.cl) z.lc,.slice z.uA (abr z.cu) z.uc,.slice z.tA (abr z.ts) z.tc,.slice z.sA (abr z.rs) z.sc,.slice (some ⟨g,0,none⟩) 1 c],.int .i64 0])/\h.b=kX 7/\Mem w w' [.row (.slice (some ⟨g,0,none⟩) 1 c) 1 ([h].flatMap hbL) 85 5]
def zn5 (h:Lr w dU 0 r w'):Ma w r w':=by
 obtain ⟨⟨⟨nx,z⟩,A,c,q⟩,rfl,m,o,hm⟩:=h
 rw [L8.2.2.1]
 have k:=m L8.2.2.1
 rw [zjf] at k
 obtain ⟨u,v⟩:=k zqi
 have l:(lS (bn dU 11 26)).next=nx:=u.1
 rw [L9] at l
 subst l
 have x:q.map ac2=[kX 7]:=v.trans Ls
 obtain ⟨h,t,rfl,y,ht⟩:=List.map_eq_cons_iff.1 x
 obtain rfl:=List.map_eq_nil_iff.1 ht
 have j:Mem w w' [.row (.slice A 1 c) 1 ([h].flatMap hbL) 85 5]:=hm.mJ (List.sublist_append_of_sublist_right (ahN _ (List.nil_sublist _)))
 obtain ⟨g,rfl⟩:=zo (j.own (i:=0) rfl) de
 exact ⟨z,g,c,h,rfl,y,j⟩
def zhb (h:Lr w dU 1 r w'):∃p:Pm,r= .returned (.tuple #[.agg p.cells,.int .i64 2])/\Below w.heap.size w w':=by
 obtain ⟨p,rfl,_,_,hm⟩:=h
 rw [L8.2.2.2]
 exact ⟨p,rfl,hm.below⟩
def Mc:nY abt 4 57 (.agg (Pl.cells ⟨1,11,26,39⟩)) (.agg #[.int .i64 1,.int .i64 11,.int .i64 26,.int .i64 39])=some true:=by kernel_rfl
def lH (b:List Nat):List Pl->Nat
 |[]=>0
 |x::l=>if (readAll (bn b x.st x.en)).2≠0 then (readAll (bn b x.st x.en)).2 else lH b l
def lI (b:List Nat) (l:List Pl):List Bk:=l.flatMap λx=>(readAll (bn b x.st x.en)).1
def lJ (b:List Nat) (i:Int):Nat:=if (bT b).2≠0 then (bT b).2 else if i<0\/((bT b).1.length:Int)<=i then 2 else lH b ((bT b).1.drop i.toNat)
def zjj (w:ajg) (b:List Nat) (i:Int) (r:ajk) (w':ajg):Prop:=∃(A:ajq) (c:Nat) (q:List Hb) (e:Nat),r= .returned (.tuple #[.slice A (abr q) c,.int .i64 (e:Int)])/\e=lJ b i/\(e=0->q.map ac2=lI b ((bT b).1.drop i.toNat))/\(e≠0->q=[])/\abr q<=c/\Mem w w' (.row (.slice A (abr q) c) (abr q) (q.flatMap hbL) 85 5::gH 73 q)
section
variable {W w w':ajg} {b:List Nat} {L:List Pl} {i:Int} {j k ie:Nat} {x:Pl} {a:List ajr} {q p:List Hb}
def PE {n:Int} (d:lJ b i=e) (f:n=(e:Int)) (c:e≠0) (g:Mem W w []):zjj W b i (.returned (.tuple #[.slice none 0 0,.int .i64 n])) w:=by
 subst d f
 exact ⟨none,0,[],_,rfl,rfl,λh=>absurd h c,λ_=>rfl,abx _,g.nil _ _⟩
def zgt (hi:bT b=(L,ie)) (h:ie≠0):lJ b i=ie:=by unfold lJ;rw [hi];exact if_pos h
def q0p (hi:bT b=(L,0)) (h:i<0\/(abr L:Int)<=i):lJ b i=2:=by unfold lJ;rw [hi];exact (if_neg (λh=>h rfl)).trans (if_pos h)
def za7 (hi:bT b=(L,0)) (c:i=(j:Int)) (h:j<abr L):lJ b i=lH b (L.drop j):=by subst c;unfold lJ;rw [hi,if_neg (λh=>h rfl),if_neg (by show ¬((j:Int)<0\/(abr L:Int)<=(j:Int));omega)];rfl
def drop_at (h:j+k<abr L) (c:L.getD (j+k) Pl.zero=x):(L.drop j).drop k=x::(L.drop j).drop (k+1):=by
 rw [acH,acH,acv h,<-c,abw,abv h]
 rfl
def zgu (h:j+k<abr L) (c:L.getD (j+k) Pl.zero=x):lH b ((L.drop j).drop k)=if (readAll (bn b x.st x.en)).2≠0 then (readAll (bn b x.st x.en)).2 else lH b ((L.drop j).drop (k+1)):=by
 rw [drop_at h c];rfl
def zgv (h:j+k<abr L) (c:L.getD (j+k) Pl.zero=x):lI b ((L.drop j).take (k+1))=lI b ((L.drop j).take k)++(readAll (bn b x.st x.en)).1:=by
 have e:(L.drop j).take (k+1)=(L.drop j).take k++[x]:=by
  rw [adx,adn,abv h,<-c,abw,abv h]
  rfl
 unfold lI
 rw [e,abZ,abO,ad7,abN]
def zni {t:ajj}:gH t (q++p)=gH t q++gH t p:=by unfold gH jC;rw [abW,abW]
def aa2 {t:ajj} {F:List ajr} (h:Mem W w (a++(gH t p++(gH t q++F)))):Mem W w (a++(gH t (q++p)++F)):=by
 rw [zni,aby]
 exact h.perm (adw a (by rw [<-aby,<-aby];exact aey F acG))
end
structure Ap where
 n:dQ
 A:ajq
 c:Nat
 l:List jw
 gap:Nat
 B:ajq
 d:Nat
 q:List gJ
def Ap.zero:Ap:=⟨⟨0,0,0,[],[]⟩,none,0,[],0,none,0,[]⟩
def Ap.cells (x:Ap):Array ajh:= #[.int .u8 (x.n.au:Int),.int .u8 (x.n.groups:Int),.int .u32 (x.n.aj:Int),.int .u8 (x.n.ps.getD 0 0:Int),.int .u8 (x.n.ps.getD 1 0:Int),.int .u8 (x.n.ps.getD 2 0:Int),.int .u8 (x.n.ps.getD 3 0:Int),.int .u8 (x.n.ps.getD 4 0:Int),.int .u16 (x.n.ws.getD 0 0:Int),.int .u16 (x.n.ws.getD 1 0:Int),.int .u16 (x.n.ws.getD 2 0:Int),.int .u16 (x.n.ws.getD 3 0:Int),.int .u16 (x.n.ws.getD 4 0:Int),.slice x.A (abr x.l) x.c,.int .u32 (x.gap:Int),.slice x.B (abr x.q) x.d]
def F4 (x:Ap):List ajh:=x.cells.toList
def zaz (x:Ap):abr (F4 x)=16:=rfl
def zql (x:Ap):∀v∈x.cells.toList,v.oneCell'=true:=by simp [Ap.cells,abV]
def Ca:SI abt 104 16:=⟨by kernel_rfl,by kernel_rfl⟩
def LA:EI abt 22 104 (.agg Ap.zero.cells) 16 80:=⟨by kernel_rfl,by kernel_rfl,rfl,by omega⟩
def five {α:Type} {l:List α} (h:abr l=5):∃a b c d e,l=[a,b,c,d,e]:=by
 match l,h with
 |[a,b,c,d,e],_=>exact ⟨a,b,c,d,e,rfl⟩
def zjh {n:dQ} (h:n.Ok):(#[.int .u8 (n.au:Int),.int .u8 (n.groups:Int),.int .u32 (n.aj:Int),.int .u8 (n.ps.getD 0 0:Int),.int .u8 (n.ps.getD 1 0:Int),.int .u8 (n.ps.getD 2 0:Int),.int .u8 (n.ps.getD 3 0:Int),.int .u8 (n.ps.getD 4 0:Int),.int .u16 (n.ws.getD 0 0:Int),.int .u16 (n.ws.getD 1 0:Int),.int .u16 (n.ws.getD 2 0:Int),.int .u16 (n.ws.getD 3 0:Int),.int .u16 (n.ws.getD 4 0:Int)]:Array ajh)=n.cells:=by
 obtain ⟨c,g,r,ps,ws⟩:=n
 obtain ⟨a,b,c,d,e,rfl⟩:=five h.pl
 obtain ⟨a,b,c,d,e,rfl⟩:=five h.wl
 rfl
structure l7 (W:ajg) (x:Ap):Prop where
 n:x.n.Ok
 l:∀y∈x.l,y.Ok
 lc:abr x.l<=x.c
 ln:abr x.l<=9223372036854775807
 lr:Rd W W.heap.size 8 x.A (abr x.l) (x.l.flatMap Ah)
 gap:x.gap<4294967296
 q:∀y∈x.q,qP W y
 qc:abr x.q<=x.d
 qn:abr x.q<=9223372036854775807
 qr:Rd W W.heap.size 6 x.B (abr x.q) (x.q.flatMap zO)
def jy:List Ap->Nat->Nat
 |x::l,j+1=>x.gap+jy l j
 |_,_=>0
section
variable {l:List Ap} {i j:Nat} {x:Ap} {p:Pm} {qs:List Pm}
def Wd:jy l 0=0:=by cases l<;>rfl
def za0:∀{l:List Ap} {i:Nat},i<abr l->jy l (i+1)=jy l i+(l.getD i Ap.zero).gap
 |x::l,0,_=>by show x.gap+jy l 0=jy (x::l) 0+x.gap;rw [Wd,Wd];omega
 |x::l,i+1,h=>by
  show x.gap+jy l (i+1)=x.gap+jy l i+(l.getD i Ap.zero).gap
  rw [za0 (adZ h),afb]
def znc (h:∀x∈l,x.gap<4294967296):jy l i<=i*4294967296:=by
 induction l generalizing i with
 |nil=>exact abC _
 | cons x l d =>
  cases i with
  |zero=>exact abC _
  |succ i=>
   have f:=d (i:=i) (λy e=>h y (ab5 _ e))
   have g:=h x (aci ..)
   show x.gap+jy l i<=_
   omega
structure nK (x:Ap) (nx:Nat) (p:Pm):Prop where
 sn:dN p.z
 good:GoodS p.z.st.ay
 ids:fQ 12 p.z.st.ts
 nx:p.z.next=1+(nx:Int)
 bl:p.q.map ac2=sI (x.q.take 5)
 qc:abr p.q<=p.c
def mH (l:List Ap) (qs:List Pm) (i:Nat):Prop:=abr qs=i/\∀j,j<i->nK (l.getD j Ap.zero) (jy l (j+1)) (qs.getD j Pm.zero)
def zgs:mH l [] 0:=⟨rfl,λj h=>absurd h (ahm j)⟩
def zqm (h:mH l qs i) (e:l.getD i Ap.zero=x) (f:nK x (jy l (i+1)) p):mH l (qs++[p]) (i+1):=by
 refine ⟨by rw [abu,h.1];rfl,λj g=>?_⟩
 rw [abw (l:=qs++[p])]
 rcases ab0 j i with d|d
 ·rw [adU (by rw [h.1];exact d),<-abw]
  exact h.2 j d
 ·obtain rfl:j=i:=by omega
  rw [adR (by rw [h.1];exact abx _),h.1,ad5,e]
  exact f
end
section
variable {W w:ajg} {a:List ajr} {l:List Pm} {z:dG} {A:ajq} {c:Nat} {b:List Hb}
def aa3 (h:Mem W w (.row (.slice A (abr b) c) (abr b) (b.flatMap hbL) 85 5::(a++(gH 73 b++(dH l++jV z.st))))):Mem W w (a++dH (l++[⟨z,A,c,b⟩])):=by
 rw [quj]
 refine h.perm (List.perm_middle.symm.trans (adw a ?_))
 have d:=acG (l₁:=ajr.row (.slice A (abr b) c) (abr b) (b.flatMap hbL) 85 5::gH 73 b) (l₂:=dH l++jV z.st)
 rw [aby (dH l)] at d
 exact d
def LB (w:ajg) (l:List Ap) (r:ajk) (d:ajg):Prop:=∃(A:ajq) (c:Nat) (q:List Pm),r= .returned (.tuple #[.slice A (abr q) c,.bool true])/\mH l q (abr (l.take 4))/\abr q<=c/\Mem w d (.row (.slice A (abr q) c) (abr q) (q.flatMap iJ) 53 9::dH q)
end
section
variable {b r:List Nat} {p m y:Nat}
def Pz (h:b.drop p=ak y++r) (hy:y<=m) (hm:m<18446744073709551616):fP b p m=true/\eu b p m=y/\bJ b p=p+abr (ak y)/\b.drop (bJ b p)=r:=by
 have a:aD (b.drop p)=(y,abr (ak y),0):=by rw [h];exact Nc r om
 have c:bJ b p=p+abr (ak y):=by unfold bJ;rw [a]
 refine ⟨?_,?_,c,?_⟩
 ·unfold fP bA;rw [a];exact decide_eq_true ⟨rfl,hy⟩
 ·unfold eu aA;rw [a];exact if_neg (by show ¬m<y;omega)
 ·rw [c,<-acH,h,afP]
end
def pX:Nat->List Pv->List Pl
 |_,[]=>[]
 |s,x::l=>⟨aK x.s.next,s,s+abr (dD x.s),s+abr (dD x.s)+(ze x.bs).1.length⟩::pX (s+abr (dD x.s)+(ze x.bs).1.length) l
def yh:Nat->List Pv->Nat
 |s,[]=>s
 |s,x::l=>yh (s+abr (dD x.s)+(ze x.bs).1.length) l
def oZ:Nat->List Pv->Prop
 |_,[]=>True
 |a,x::l=>a<=aK x.s.next/\oZ (aK x.s.next) l
structure LJ (x:Pv):Prop where
 nx:aK x.s.next<=4611686018427387904
 sn:abr (dD x.s)<=16777216
 bl:(ze x.bs).1.length<=16777216
def za2 {b r:List Nat}:∀(lv:List Pv) (p last s:Nat),(∀x∈lv,LJ x)->oZ last lv->b.drop p=(lv.flatMap jR).flatMap ak++r->kK b (abr lv) p last s=some (pX s lv,p+abr ((lv.flatMap jR).flatMap ak),yh s lv)
 |[],p,last,s,_,_,_=>rfl
 | x :: l, p, last, s, c, hs, h => by
  have a:=c x (aci ..)
  have e:((x::l).flatMap jR).flatMap ak=ak (aK x.s.next)++(ak (abr (dD x.s))++(ak (ze x.bs).1.length++(l.flatMap jR).flatMap ak)):=by
   rw [abO,abZ]
   show (ak _++(ak _++(ak _++[])))++_=_
   rw [abN,aby,aby]
  rw [e,aby,aby,aby] at h
  obtain ⟨o1,v1,f,g⟩:=Pz h a.nx om
  obtain ⟨o,t,u,v⟩:=Pz g a.sn om
  obtain ⟨w,z,A,B⟩:=Pz v a.bl om
  have C:uZ b p=true:=by unfold uZ;rw [o1,o,w];rfl
  have d:lZ b p=aK x.s.next:=v1
  have D:l5 b p=abr (dD x.s):=t
  have E:nI b p=(ze x.bs).1.length:=z
  have F:=za2 l (rowP b p) (aK x.s.next) (s+abr (dD x.s)+(ze x.bs).1.length) (λy G=>c y (ab5 _ G)) hs.2 B
  rw [abS,kK,if_pos ⟨C,by rw [d];exact hs.1⟩,d,D,E,F,e]
  have H:rowP b p+abr ((l.flatMap jR).flatMap ak)=p+abr (ak (aK x.s.next)++(ak (abr (dD x.s))++(ak (ze x.bs).1.length++(l.flatMap jR).flatMap ak))):=by
   unfold rowP
   rw [abu,abu,abu,A,u,f]
   omega
  rw [H]
  rfl
def iP (lv:List Pv) (i:Nat):List Nat:=(lv.take i).flatMap λx=>dD x.s++(ze x.bs).1
section
variable {lv:List Pv} {i k:Nat}
def PD (h:i<abr lv):iP lv (i+1)=iP lv i++dD (lv.getD i Pv.zero).s++(ze (lv.getD i Pv.zero).bs).1:=by
 unfold iP
 rw [yM Pv.zero h,abZ,abO,ad7,abN,aby]
def q0n:∀(lv:List Pv) (s:Nat),yh s lv=s+abr (iP lv (abr lv))
 |[],s=>rfl
 |x::l,s=>by
  have a:=q0n l (s+abr (dD x.s)+(ze x.bs).1.length)
  unfold iP at a⊢
  rw [adb] at a⊢
  rw [abO,abu,abu]
  show yh _ l=_
  omega
structure jM (x:Pv):Prop where
 rG:dP x.s=0
 bl:fZ x.bs=0
 ws:(ze x.bs).2=0
 sn:abr (dD x.s)<=600000
 nx:1<=x.s.next/\x.s.next<=281474976710657
def jM.fit {x:Pv} (h:jM x):LJ x:=⟨by have:=h.nx;unfold aK;omega,by have:=h.sn;omega,by have:=Ny x.bs;omega⟩
theorem jM.aK {x:Pv} (h:jM x):(aK x.s.next:Int)=x.s.next:=by have:=h.nx;unfold Go.Proofs.YtekiimhdnigmcaaGreatDoor.aK;omega
def Wi (a:∀x∈lv,jM x):∀i,i<=abr lv->abr (iP lv i)<=i*1124288
 |0,_=>abC _
 |i+1,h=>by
  have d:=Wi a i om
  have c:=a _ (qf Pv.zero (show i<abr lv by omega))
  have e:=c.sn
  have f:=Ny (lv.getD i Pv.zero).bs
  rw [PD om,abu,abu]
  omega
def Wj (c:∀x∈lv,jM x) (d:abr lv<=8):∀i,i<=abr lv->stA lv i=(iP lv i,false)
 |0,_=>rfl
 | i + 1, h => by
  have e:=c _ (qf Pv.zero (show i<abr lv by omega))
  have f:=Wi c (i+1) h
  rw [PD om,abu,abu] at f
  rw [stA,Wj c d i om,PD om]
  unfold rD
  refine if_neg ?_
  rw [adD,adD,decide_eq_true_eq,decide_eq_true_eq]
  rintro ((a|a)|a)
  ·cases a
  ·exact a e.ws
  ·have a:16777216<abr (iP lv i)+abr (dD (lv.getD i Pv.zero).s)+(ze (lv.getD i Pv.zero).bs).1.length:=a
   omega
theorem qut (c:∀x∈lv,jM x):∀(l:List Pv) (last:Nat) (i:Nat),(∀x∈l,jM x)->oZ last l->l6 l (last:Int) i=(-1,0)
 |[],_,_,_,_=>rfl
 |x::l,last,i,h,hs=>by
  have a:=h x (aci ..)
  have d:=a.aK
  have f:=hs.1
  rw [l6,if_neg (λn=>n a.rG),if_neg (λn=>n a.bl),if_neg om,<-d]
  exact qut c l _ _ (λy e=>h y (ab5 _ e)) hs.2
def quu:∀lv:List Pv,abr (lv.flatMap jR)=3*abr lv
 |[]=>rfl
 |x::l=>by rw [abO,abu,quu l,abS];show 3+_=_;omega
def LK:∀(lv:List Pv) (s:Nat),abr (pX s lv)=abr lv
 |[],_=>rfl
 |x::l,s=>by rw [pX,abS,LK l,abS]
def za3:∀(lv:List Pv) (s i:Nat),i<abr lv->((pX s lv).getD i Pl.zero).nx=aK (lv.getD i Pv.zero).s.next
 |x::l,s,0,_=>rfl
 |x::l,s,i+1,h=>za3 l _ i (adZ h)
def Wm:∀(lv:List Pv) (s i:Nat),i<abr lv->(pX s lv).getD i Pl.zero=⟨aK (lv.getD i Pv.zero).s.next,s+abr (iP lv i),s+abr (iP lv i)+abr (dD (lv.getD i Pv.zero).s),s+abr (iP lv i)+abr (dD (lv.getD i Pv.zero).s)+(ze (lv.getD i Pv.zero).bs).1.length⟩
 |x::l,s,0,_=>rfl
 | x :: l, s, i + 1, h => by
  have e:abr (iP (x::l) (i+1))=abr (dD x.s)+(ze x.bs).1.length+abr (iP l i):=by
   unfold iP
   rw [List.take_succ_cons,abO,abu,abu]
  rw [e,<-afb,<-afb]
  exact Wm l _ i (adZ h)
def q35 (h:i<abr lv):∃r,iP lv (abr lv)=iP lv i++(dD (lv.getD i Pv.zero).s++((ze (lv.getD i Pv.zero).bs).1++r)):=by
 refine ⟨(lv.drop (i+1)).flatMap λx=>dD x.s++(ze x.bs).1,?_⟩
 rw [<-aby,<-aby,<-PD h]
 unfold iP
 rw [<-abZ,ab1,adb]
def Wn {p m r:List Nat} {i j:Nat} (hb:b=p++(m++r)) (hi:i=abr p) (a:j=abr p+abr m):bn b i j=m:=by
 subst hb hi a
 unfold bn
 rw [<-aby,<-abu,adP,afP]
structure WrA (lv:List Pv) (L:List Pl) (bs:List Nat):Prop where
 rG:qG lv=(-1,0)
 wr:oH lv=(bs,0)
 idx:bT bs=(L,0)
 len:abr L=abr lv
 nx:∀i,i<abr lv->((L.getD i Pl.zero).nx:Int)=(lv.getD i Pv.zero).s.next
 few:abr bs<=16777216
 cut:∀i,i<abr lv->bn bs (L.getD i Pl.zero).sn (L.getD i Pl.zero).st=dD (lv.getD i Pv.zero).s/\bn bs (L.getD i Pl.zero).st (L.getD i Pl.zero).en=(ze (lv.getD i Pv.zero).bs).1
 dam:∃a,(∀i,i<abr lv->a<=(L.getD i Pl.zero).sn)/\∀c,abr c=abr bs->c.take a=bs.take a->bT c=(L,0)
def zng (f:∀x∈lv,jM x) (hs:oZ 0 lv) (D:abr lv<=8):∃L bs,WrA lv L bs:=by
 have hc:qG lv=(-1,0):=by unfold qG;rw [if_neg om];exact qut f lv 0 0 f hs
 have v:=Wj f D (abr lv) (abx _)
 have E:=Wi f (abr lv) (abx _)
 obtain ⟨h,o⟩:∃h,h=[113,97,1]++(mF lv (abr lv)).flatMap ak:=⟨_,rfl⟩
 have e:mF lv (abr lv)=abr lv::lv.flatMap jR:=by unfold mF;rw [adb]
 have F:abr h<=3+10*(1+3*8):=by
  have g:=vg (mF lv (abr lv))
  have G:=quu lv
  rw [o,abu,show abr ([113,97,1]:List Nat)=3 from rfl]
  rw [e,abS,G] at g
  rw [e]
  omega
 have H:headA lv=aY h:=by unfold headA;rw [o]
 have a:abr (aY h)=abr h+4:=qI h
 have I:oH lv=(aY h++iP lv (abr lv),0):=by
  unfold oH
  rw [hc,v,H,if_neg (λn=>n rfl)]
  refine if_neg ?_
  rintro (g|g)
  ·cases g
  ·have g:16777216<abr (aY h)+abr (iP lv (abr lv)):=g
   omega
 have w:abr (aY h++iP lv (abr lv))=abr h+4+abr (iP lv (abr lv)):=by rw [abu,a]
 obtain ⟨t,ht⟩:∃t,aY h=h++t:=⟨_,rfl⟩
 have key:∀d:List Nat,abr d=abr (iP lv (abr lv))->bT (aY h++d)=((pX 0 lv).map (Pl.up (abr h+4)),0):=λd z=>by
  have A:abr (aY h++d)=abr h+4+abr d:=by rw [abu,a]
  have J:(aY h++d).drop 3=ak (abr lv)++((lv.flatMap jR).flatMap ak++(t++d)):=by
   rw [ht,o,e,abO]
   show (ak (abr lv)++(lv.flatMap jR).flatMap ak)++t++_=_
   rw [aby,aby]
  have B:(aY h++d).take 3=[113,97,1]:=by rw [ht,o];rfl
  obtain ⟨o1,v1,K,M⟩:=Pz (m:=1024) J om om
  have hi:=za2 lv (bJ (aY h++d) 3) 0 0 (λx N=>(f x N).fit) hs M
  have O:bJ (aY h++d) 3+abr ((lv.flatMap jR).flatMap ak)=abr h:=by
   rw [K,o,e,abO,abu,abu]
   show 3+_+_=3+_
   omega
  rw [O] at hi
  refine zi9 (s:=yh 0 lv) om B (by rw [o1,v1];exact hi) ⟨by omega,?_,by rw [q0n,A,z];omega⟩
  rw [<-a,adP]
  exact MW
 refine ⟨(pX 0 lv).map (Pl.up (abr h+4)),_,hc,I,key _ rfl,by rw [abz,LK],λi hi=>?_,by omega,λi hi=>?_,abr h+4,λi hi=>?_,λc C u=>?_⟩
 ·rw [abw,acQ,getD_at Pl.zero (by rw [LK];exact hi)]
  show ((((pX 0 lv).getD i Pl.zero).nx:Nat):Int)=_
  rw [za3 lv 0 i hi,(f _ (qf Pv.zero hi)).aK]
 ·obtain ⟨r,P⟩:=q35 hi
  rw [FV (by rw [LK];exact hi),Wm lv 0 i hi,P]
  refine ⟨Wn (p:=aY h++iP lv i) (aby ..).symm ?_ ?_,Wn (p:=aY h++iP lv i++dD (lv.getD i Pv.zero).s) (r:=r) ?_ ?_ ?_⟩
  ·rw [abu,a];show 0+_+_=_;omega
  ·rw [abu,a];show 0+_+_+_=_;omega
  ·rw [aby,aby]
  ·rw [abu,abu,a];show 0+_+_+_=_;omega
  ·rw [abu,abu,a];show 0+_+_+_+_=_;omega
 ·rw [FV (by rw [LK];exact hi),Wm lv 0 i hi]
  show abr h+4<=0+_+(abr h+4)
  omega
 ·rw [<-a,adP] at u
  rw [<-ab1 (abr (aY h)) c,u]
  exact key _ (by rw [abE,C,w,a];omega)
end
section
variable {L:List Pl} {n:Int} {k:Nat}
end
section
variable {l:List Ap} {q:List Pm} {x:Ap} {p:Pm} {i j nx:Nat}
def za4 {t:List Tk} (hs:fO t) (h1:∀y∈t,1<=y.id):∀i,i<abr t->(i:Int)+1<=(t.getD i Tk.zero).id
 |0,h=>by have:=h1 _ (qf Tk.zero h);omega
 |i+1,h=>by
  have a:=za4 hs h1 i om
  have c:=hs i (i+1) om h
  omega
def LM {s:bI} (a:GoodS s) (c:fQ 12 s.ts):abr s.ts<=12:=by
 rcases ach (abr s.ts) with h|h
 ·omega
 ·have e:=za4 a.sh.sort (λy d=>(a.sh.tasks y d).id.1) (abr s.ts-1) om
  have f:=c _ (qf Tk.zero (show abr s.ts-1<abr s.ts by omega))
  omega
end
def za5 (hs:dN s) (a:GoodS s.st.ay) (b:fQ 12 s.st.ts):abr (dD s)<=600000:=by
 have c:=Fu hs.rG
 obtain ⟨e,g,h,k,n,_,o⟩:=qy5 c
 have d:abr s.st.ts<=12:=LM a b
 have r:abr (aJ s 5)<=97:=by
  have:=Iz (f:=λi=>lq (qq s.st.ts i) (s.st.ts.getD i Tk.zero)) (m:=8) (λi=>abx 8) (abr s.st.ts)
  show abr (dV (abr s.st.ts) λi=>lq (qq s.st.ts i) (s.st.ts.getD i Tk.zero))+1<=97
  omega
 have t:abr (eY s)<=50000:=by rw [Dz];simp only [abu];omega
 have:=vg (eY s)
 rw [yR hs.rG,qI,IX]
 omega
def qpf:∀(bs:List Bk),abr (bX bs)<=abr bs*4096
 |[]=>abC _
 |b::t=>by
  have a:=qpf t
  have c:=Ri b
  unfold bX at a⊢
  rw [abO,abu,abS]
  omega
def q0o:∀(b:List Pv) (a:Nat),(∀j,j<abr b->a<=aK (b.getD j Pv.zero).s.next)->(∀i j,i<j->j<abr b->aK (b.getD i Pv.zero).s.next<=aK (b.getD j Pv.zero).s.next)->oZ a b
 |[],_,_,_=>trivial
 |x::l,a,e,d=>⟨e 0 (ahH _),q0o l _ (λj c=>d 0 (j+1) (ahH _) (afN c)) (λi j hi c=>d (i+1) (j+1) (afN hi) (afN c))⟩
section
variable {w w' W:ajg} {fs:List ajr} {l:List Ap} {q:List Pm} {x:Ap} {p:Pm} {i j nx K:Nat}
theorem l7.old (h:l7 W x) (b:Mem W w fs):l7 w x:=⟨h.n,h.l,h.lc,h.ln,b.old h.lr,h.gap,λy a=>⟨(h.q y a).ok,(h.q y a).hc,(h.q y a).hm,b.old (h.q y a).rd⟩,h.qc,h.qn,b.old h.qr⟩
def za6 (h:i<=j):jy l i<=jy l j:=by
 induction l generalizing i j with
 |nil=>exact abx _
 | cons x l a =>
  cases i with
  |zero=>exact abC _
  |succ i=>
   cases j with
   |zero=>omega
   |succ j=>exact Nat.add_le_add_left (a om) _
def znh (d:l7 W x) (a:nK x nx p):jM p.v:=by
 have c:=qol (W:=W) (l:=x.q.take 5) (λy e=>d.q y (aco e))
 have g:abr (sI (x.q.take 5))<=5:=by rw [qs9,abA];omega
 have k:=qpf (sI (x.q.take 5))
 have f:fZ (sI (x.q.take 5))=0:=qs6 λb h=>(c b h).2
 refine ⟨a.sn.rG,?_,?_,za5 a.sn a.good a.ids,(Bz a.sn.rG).1⟩
 ·show fZ (p.q.map ac2)=0
  rw [a.bl];exact f
 ·show (ze (p.q.map ac2)).2=0
  rw [a.bl,q13 (λb h=>(c b h).2) om]
def LP (d:l7 W x) (a:nK x nx p):fF p:=by
 have e:=qol (W:=W) (l:=x.q.take 5) (λy c=>d.q y (aco c))
 have f:=q63 (W:=W) (l:=x.q.take 5) (λy c=>d.q y (aco c))
 have g:abr p.q<=5:=by have h:=congrArg acY a.bl;rw [abz,qs9,abA] at h;omega
 have k:=(Bz a.sn.rG).1
 exact ⟨a.sn.ok,a.sn.few,a.sn.cap,by unfold aX;omega,Bj a.bl (λb h=>(e b h).1),Bj a.bl (p:=λb=>abr b.evs<=1000000) f,by omega,a.qc⟩
def zji (h:mH l q K) (a:j<K):(q.getD j Pm.zero).z.next=1+(jy l (j+1):Int):=(h.2 j a).nx
def Wo (h:mH l q K) (e:K<=abr l) (c:∀x∈l,l7 W x) (d:p∈q):∃x nx,l7 W x/\nK x nx p:=by
 obtain ⟨j,a,rfl⟩:=acn d
 have b:=h.2 j (by rw [<-h.1];exact a)
 rw [abw (l:=q),abv a] at b
 exact ⟨_,_,c _ (qf Ap.zero (by have:=h.1;omega)),b⟩
def nL (h:j<abr q):(q.map Pm.v).getD j Pv.zero=(q.getD j Pm.zero).v:=by rw [abw,acQ,getD_at Pm.zero h];rfl
structure iL (q:List Pm) (L:List Pl) (bs:List Nat):Prop where
 wr:WrA (q.map Pm.v) L bs
 len:abr L=abr q
 nx:∀j,j<abr q->((L.getD j Pl.zero).nx:Int)=(q.getD j Pm.zero).z.next
 up:∀i j,i<=j->j<abr q->(q.getD i Pm.zero).z.next<=(q.getD j Pm.zero).z.next
 i64:∀j,j<abr q->1<=(q.getD j Pm.zero).z.next/\(q.getD j Pm.zero).z.next<=281474976710657
 ok:∀p∈q,fF p
 good:∀p∈q,jM p.v
 lt:∀z∈bs,z<256
 right:∀p∈q,dN p.z
def zqn (h:mH l q K) (t:K<=abr l) (D:K<=4) (u:∀x∈l,l7 W x):∃L bs,iL q L bs:=by
 have m:∀x∈q.map Pm.v,jM x:=λy c=>by
  obtain ⟨p,d,rfl⟩:=ab7.1 c
  obtain ⟨x,nx,r,k⟩:=Wo h t u d
  exact znh r k
 have n:∀i j,i<=j->j<abr q->(q.getD i Pm.zero).z.next<=(q.getD j Pm.zero).z.next:=λi j hi a=>by
  have E:=h.1
  rw [zji h om,zji h om]
  have:=za6 (l:=l) (show i+1<=j+1 by omega)
  omega
 have g:∀j,j<abr q->1<=(q.getD j Pm.zero).z.next/\(q.getD j Pm.zero).z.next<=281474976710657:=λj a=>(m _ (ab7.2 ⟨_,qf Pm.zero a,rfl⟩)).nx
 have f:abr (q.map Pm.v)=abr q:=abz _
 have hs:oZ 0 (q.map Pm.v):=q0o _ _ (λj a=>abC _) λi j hi a=>by
  rw [f] at a
  rw [nL om,nL a]
  show aK (q.getD i Pm.zero).z.next<=aK (q.getD j Pm.zero).z.next
  have r:=n i j om a
  have k:=g i om
  have F:=g j a
  unfold aK
  omega
 have o:abr (q.map Pm.v)<=8:=by have:=h.1;omega
 obtain ⟨L,bs,s⟩:=zng m hs o
 have B:∀p∈q,fF p:=λp d=>by
  obtain ⟨x,nx,r,k⟩:=Wo h t u d
  exact LP r k
 refine ⟨L,bs,s,by rw [s.len,f],λj a=>?_,n,g,B,λp d=>m _ (ab7.2 ⟨p,d,rfl⟩),?_,λp d=>by
  obtain ⟨x,nx,_,k⟩:=Wo h t u d
  exact k.sn⟩
 ·rw [s.nx j om,nL a]
  rfl
 ·have e:=s.wr
  unfold oH at e
  split at e
  ·injection e with e _;subst e;intro z hz;cases hz
  ·split at e
   ·injection e with e _;subst e;intro z hz;cases hz
   ·rename_i G _
    injection e with e _
    subst e
    intro z hz
    rcases acg.1 hz with hz|hz
    ·unfold headA at hz
     refine MV (λy c=>?_) z hz
     rcases acg.1 c with c|c
     ·have:∀y∈([113,97,1]:List Nat),y<256:=by decide
      exact this y c
     ·exact q7p y c
    ·rw [Wj m o _ (abx _)] at hz
     obtain ⟨x,A,hz⟩:=acT.1 hz
     rw [adb] at A
     obtain ⟨p,d,rfl⟩:=ab7.1 A
     rcases acg.1 hz with hz|hz
     ·rw [yR (m _ A).rG] at hz
      exact MV (NT _) z hz
     ·exact q60 (λb C=>by obtain ⟨y,c,rfl⟩:=ab7.1 C;exact (B p d).OY y c) z hz
end
def q0q:∀{bs:List Bk},fZ bs=0->∀b∈bs,b.err=0
 | b :: t, h, x, a => by
  unfold fZ at h
  split at h
  ·rename_i c
   rcases abX.1 a with rfl|a
   ·exact c
   ·exact q0q h x a
  ·rename_i c
   exact absurd h c
def za8 {bs:List Bk} (h:∀b∈bs,b.Ok) (a:fZ bs=0) (c:(ze bs).2=0):readAll (ze bs).1=(bs,0):=by
 have e:¬524288<abr (bX bs):=λf=>by rw [ql5 a f] at c;cases c
 rw [RP a e]
 exact q12 (q61 (λb d=>⟨h b d,q0q a b d⟩) om)
def lK (q:List Pm) (j:Nat):List Hb:=(q.drop j).flatMap λp=>p.q
section
variable {q:List Pm} {L:List Pl} {bs:List Nat} {j:Nat} {i:Int}
def za9:lK q (abr q)=[]:=by unfold lK;rw [List.drop_length];rfl
def zgw (h:j<abr q):lK q j=(q.getD j Pm.zero).q++lK q (j+1):=by unfold lK;rw [H9 Pm.zero h,abO]
def q0r (h:iL q L bs) (a:j<abr q):readAll (bn bs (L.getD j Pl.zero).st (L.getD j Pl.zero).en)=((q.getD j Pm.zero).q.map ac2,0):=by
 have hm:=qf Pm.zero a
 have c:=h.good _ hm
 have d:=(h.wr.cut j (by rw [abz];exact a)).2
 rw [nL a] at d
 rw [d]
 exact za8 (λb e=>by obtain ⟨y,f,rfl⟩:=ab7.1 e;exact (h.ok _ hm).OY y f) c.bl c.ws
def q0s {b:List Nat} (a:abr L=abr q) (hb:∀j,j<abr q->readAll (bn b (L.getD j Pl.zero).st (L.getD j Pl.zero).en)=((q.getD j Pm.zero).q.map ac2,0)):∀k,k<=abr q->lH b (L.drop (abr q-k))=0/\lI b (L.drop (abr q-k))=(lK q (abr q-k)).map ac2
 |0,_=>by
  have e:L.drop (abr q-0)=[]:=acu (by rw [a];exact abx _)
  rw [e,ae3,za9]
  exact ⟨rfl,rfl⟩
 | k + 1, h => by
  obtain ⟨c,d⟩:=q0s a hb k om
  have f:abr q- (k+1)<abr q:=by omega
  have e:abr q- (k+1)+1=abr q-k:=by omega
  have hc:=hb _ f
  have g:L.drop (abr q- (k+1))=L.getD (abr q- (k+1)) Pl.zero::L.drop (abr q-k):=by rw [<-e];exact H9 Pl.zero (by rw [a];exact f)
  rw [g,zgw f,e,abW,<-d]
  refine ⟨?_,?_⟩
  ·unfold lH
   rw [hc,if_neg (λn=>n rfl)]
   exact c
  ·unfold lI
   rw [abO,hc]
end
section
variable {q:List Pm} {L:List Pl} {bs:List Nat} {j:Nat}
def zgx (h:iL q L bs) (a:j<abr q):dz bs (L.getD j Pl.zero)=0/\dI (q.getD j Pm.zero).z (lS (bn bs (L.getD j Pl.zero).sn (L.getD j Pl.zero).st))/\(readAll (bn bs (L.getD j Pl.zero).st (L.getD j Pl.zero).en)).1=(q.getD j Pm.zero).q.map ac2:=by
 have hm:=qf Pm.zero a
 have d:=(h.wr.cut j (by rw [abz];exact a)).1
 rw [nL a] at d
 have e:=h.right _ hm
 have g:bn bs (L.getD j Pl.zero).sn (L.getD j Pl.zero).st=aY (bS (q.getD j Pm.zero).z):=d.trans (yR e.rG)
 obtain ⟨f,c⟩:=zqp e
 have hc:=q0r h a
 rw [<-g] at f c
 refine ⟨?_,c,by rw [hc]⟩
 rw [U5 f (by rw [h.nx j a];exact c.1.symm),hc]
def Wq {b:List Nat}:∀(l:List Pl) (i:Nat),(∀x∈l,dz b x=0)->jQ b l i=none/\iI b l i=(acw (abr l)).map (i+ ·)
 |[],_,_=>⟨rfl,rfl⟩
 |x::t,i,h=>by
  have a:=h x (aci ..)
  obtain ⟨c,d⟩:=Wq t (i+1) λy e=>h y (ab5 _ e)
  refine ⟨by rw [jQ,if_neg (λn=>n a)];exact c,?_⟩
  rw [iI,if_pos a,d,abS,List.range_succ_eq_map,List.map_cons,aew]
  congr 1
  refine adQ λk _=>?_
  show i+1+k=i+(k+1)
  omega
def zbe (h:iL q L bs):∃a,8<=a/\xL bs L a:=by
 obtain ⟨a,b⟩:=(U4 h.lt h.wr.idx).at
 refine ⟨a,?_,b⟩
 have e:=congrArg acY b.head
 have c:=b.low
 rw [qI,abu,abO,abu,abA] at e
 have d:1<=abr (ak (abr L)):=HV _
 have f:abr ([113,97,1]:List Nat)=3:=rfl
 omega
def zbf (h:iL q L bs) {a:Nat} (f:xL bs L a) (c:j<abr q):(L.getD j Pl.zero).sn+15<=(L.getD j Pl.zero).st:=by
 have d:=(h.wr.cut j (by rw [abz];exact c)).1
 rw [nL c] at d
 have e:=h.right _ (qf Pm.zero c)
 have g:=congrArg acY (d.trans (yR e.rG))
 have hs:=f.sn j (by rw [h.len];exact c)
 have k:(L.getD j Pl.zero).st- (L.getD j Pl.zero).sn=abr (bS (q.getD j Pm.zero).z)+4:=by rw [<-Eh (b:=bs) (show (L.getD j Pl.zero).st<=abr bs by omega),g,qI];rfl
 have i:=e.len.1
 rw [qI] at i
 omega
def zjl {a:Nat} (h:xL bs L a):∀i,i<abr L->a<=(L.getD i Pl.zero).sn
 |0,hi=>by
  have:=(h.sn 0 hi).1
  have e:rE a L 0=a:=rfl
  omega
 |i+1,hi=>by
  have b:=zjl h i om
  have c:=h.sn i om
  have d:=(h.sn (i+1) hi).1
  have e:rE a L (i+1)=(L.getD i Pl.zero).en:=rfl
  omega
def znm (h:iL q L bs) {x:Pm} {y:Pl} (c:j<abr q) (g:q.getD j Pm.zero=x) (hy:L.getD j Pl.zero=y):(y.nx:Int)=x.z.next/\8<=y.sn/\y.sn+15<=y.st/\y.st<=y.en/\y.en<=abr bs/\(0<j->y.sn=(L.getD (j-1) Pl.zero).en)/\(j+1=abr q->y.en=abr bs):=by
 obtain ⟨a,o,b⟩:=zbe h
 have e:j<abr L:=by rw [h.len];exact c
 have k:=h.nx j c
 have l:=zbf h b c
 have d:=b.sn j e
 have p:=zjl b j e
 have m:=b.last
 have n:=h.len
 subst g hy
 refine ⟨k,by omega,l,d.2.2.1,d.2.2.2.1,λf=>?_,λf=>?_⟩
 ·obtain ⟨i,rfl⟩:∃i,j=i+1:=⟨j-1,by omega⟩
  exact d.1
 ·rw [<-m,n,<-f]
  rfl
end
def iB (l:List Nat) (yj to p:Nat):Nat->List Nat
 |0=>l
 |i+1=>if yj+i<to/\p/2^i%2=1 then j3 (iB l yj to p i) (yj+i) else iB l yj to p i
section
variable {l x m r:List Nat} {yj to p i j d sn st:Nat}
theorem Ws (l:List Nat) (yj to p:Nat):∀i,abr (iB l yj to p i)=abr l:=by intro x;induction x<;>grind [iB,quz]
def PN (b:∀x∈l,x<256) (yj to p:Nat):∀i,∀x∈iB l yj to p i,x<256
 |0=>b
 |i+1=>by
  rw [iB]
  split
  ·exact q0v (PN b yj to p i) _
  ·exact PN b yj to p i
theorem zgz (b:j<8*abr m):j3 (x++(m++r)) (8*abr x+j)=x++(j3 m j++r):=by grind [j3]
def q0x (b:l=x++(m++r)) (h1:sn=abr x) (e:st=abr x+abr m):∀i,iB l (8*sn+d) (8*st) p i=x++(tZ m d p i++r)
 |0=>b
 |i+1=>by
  rw [iB,tZ,q0x b h1 e i]
  by_cases h:d+i<8*abr m/\p/2^i%2=1
  ·rw [if_pos ⟨by omega,h.2⟩,if_pos h,h1,show 8*abr x+d+i=8*abr x+(d+i) by omega,zgz (by rw [F5];exact h.1)]
  ·rw [if_neg (λn=>h ⟨by omega,n.2⟩),if_neg h]
theorem zbi (h1:sn<=st) (b:st<=abr l):l=l.take sn++(bn l sn st++l.drop st):=by grind [bn,aby,ab1,Nat.min_eq_left]
theorem znp {x m m' r:List Nat} {a b:Nat} (h:b<=abr x):bn (x++(m++r)) a b=bn (x++(m'++r)) a b:=by grind [bn]
theorem zg0 {x m r:List Nat} {a:Nat} (h:abr x+abr m<=a):(x++(m++r)).drop a=r.drop (a- (abr x+abr m)):=by grind [aby,List.drop_append,acu,abu]
theorem zg1 {x m m' r:List Nat} {a b:Nat} (h:abr x+abr m<=a) (e:abr m'=abr m):bn (x++(m++r)) a b=bn (x++(m'++r)) a b:=by grind [bn,zg0,List.drop_take]
end
structure Cc (q:List Pm) (L:List Pl) (bs c:List Nat) (k:Nat):Prop where
 len:abr c=abr bs
 lt:∀z∈c,z<256
 idx:bT c=(L,0)
 bad:dz c (L.getD k Pl.zero)=341
 par:∀j,j<abr q->j≠k->bn c (L.getD j Pl.zero).sn (L.getD j Pl.zero).st=bn bs (L.getD j Pl.zero).sn (L.getD j Pl.zero).st
 blk:∀j,j<abr q->bn c (L.getD j Pl.zero).st (L.getD j Pl.zero).en=bn bs (L.getD j Pl.zero).st (L.getD j Pl.zero).en
section
variable {q:List Pm} {L:List Pl} {bs c:List Nat} {j k d p a:Nat}
def rH (h:xL bs L a) {i:Nat}:∀j,i<j->j<abr L->(L.getD i Pl.zero).en<=(L.getD j Pl.zero).sn
 | j + 1, g, f => by
  have e:(L.getD (j+1) Pl.zero).sn=(L.getD j Pl.zero).en:=(h.sn (j+1) f).1
  rcases ab0 i j with b|b
  ·have:=rH h j b om
   have:=h.sn j om
   omega
  ·have:i=j:=by omega
   subst this
   omega
def zqq (h:iL q L bs) (hk:k<abr q) (P:d<8*((L.getD k Pl.zero).st- (L.getD k Pl.zero).sn)) (Q:p%2=1):Cc q L bs (iB bs (8*(L.getD k Pl.zero).sn+d) (8*(L.getD k Pl.zero).st) p 32) k:=by
 obtain ⟨a,_,t⟩:=zbe h
 obtain ⟨R,D,E⟩:=h.wr.dam
 have F:=D k (by rw [abz];exact hk)
 have u:k<abr L:=by rw [h.len];exact hk
 have hs:=t.sn k u
 generalize e:L.getD k Pl.zero=x at*
 have G:=zbi (l:=bs) hs.2.1 om
 have g:abr (bs.take x.sn)=x.sn:=by rw [abA];omega
 have s:=Eh (b:=bs) (i:=x.sn) (show x.st<=abr bs by omega)
 have H:=q0x (sn:=x.sn) (st:=x.st) (p:=p) (d:=d) G g.symm (by rw [g,s];omega) 32
 have M:=h.right _ (qf Pm.zero hk)
 have w:=(h.wr.cut k (by rw [abz];exact hk)).1
 rw [nL hk,e] at w
 have w:bn bs x.sn x.st=aY (bS (q.getD k Pm.zero).z):=w.trans (yR M.rG)
 have v:=F5 (bn bs x.sn x.st) d p 32
 have I:q5 (tZ (bn bs x.sn x.st) d p 32)=false:=qnt (KO h.lt _ _) (by rw [w];exact MW) (by rw [s];exact P) Q
 have J:=M.len
 rw [<-w] at J
 have y:=Ws bs (8*x.sn+d) (8*x.st) p 32
 have n:∀i j,j<=x.sn->bn (iB bs (8*x.sn+d) (8*x.st) p 32) i j=bn bs i j:=λi j A=>by
  rw [H]
  conv=>rhs;rw [G]
  exact znp (by rw [g];exact A)
 have f:∀i j,x.st<=i->bn (iB bs (8*x.sn+d) (8*x.st) p 32) i j=bn bs i j:=λi j hi=>by
  rw [H]
  conv=>rhs;rw [G]
  exact zg1 (by rw [g,v,s];omega) v.symm
 have B:bn (iB bs (8*x.sn+d) (8*x.st) p 32) x.sn x.st=tZ (bn bs x.sn x.st) d p 32:=by
  rw [H]
  exact Wn rfl g.symm (by rw [g,v,s];omega)
 refine ⟨y,PN h.lt _ _ _ _,E _ y ?_,?_,λj A S=>?_,λj A=>?_⟩
 ·exact n 0 R F
 ·rw [e]
  have N:oG (bn (iB bs (8*x.sn+d) (8*x.st) p 32) x.sn x.st)=341:=by
   rw [B]
   exact (tT (q9v om om I)).1
  rw [zaa (by rw [N];decide),N]
 ·have o:j<abr L:=by rw [h.len];exact A
  have K:=t.sn j o
  rcases ab0 j k with C|C
  ·have:=rH t k C u
   rw [e] at this
   exact n _ _ om
  ·have:=rH t j (show k<j by omega) o
   rw [e] at this
   exact f _ _ om
 ·have o:j<abr L:=by rw [h.len];exact A
  have K:=t.sn j o
  rcases ab0 j k with C|C
  ·have:=rH t k C u
   rw [e] at this
   exact n _ _ om
  ·rcases ab0 k j with O|O
   ·have:=rH t j O o
    rw [e] at this
    exact f _ _ om
   ·have:j=k:=by omega
    subst this
    rw [e]
    exact f _ _ (abx _)
def zqr {y:Pl} (h:iL q L bs) (hk:k<abr q) (hy:L.getD k Pl.zero=y) (e:d<8*y.st-8*y.sn) (b:p%2=1):Cc q L bs (iB bs (8*y.sn+d) (8*y.st) p 32) k:=by
 subst hy
 exact zqq h hk om b
def Wt (h:iL q L bs) (g:Cc q L bs c k) (e:j<abr q) (f:j≠k):dz c (L.getD j Pl.zero)=0/\dI (q.getD j Pm.zero).z (lS (bn c (L.getD j Pl.zero).sn (L.getD j Pl.zero).st))/\(readAll (bn c (L.getD j Pl.zero).st (L.getD j Pl.zero).en)).1=(q.getD j Pm.zero).q.map ac2:=by
 have n:=zgx h e
 have o:=g.par j e f
 have s:=g.blk j e
 rw [o,s]
 refine ⟨?_,n.2⟩
 have t:=n.1
 unfold dz at t⊢
 rw [o,s]
 exact t
theorem zg2 {b:List Nat}:∀(l m:List Pl) (i:Nat),iI b (l++m) i=iI b l i++iI b m (i+abr l):=by intro x;induction x<;>grind [iI]
theorem znq {b:List Nat}:∀(l m:List Pl) (i:Nat),jQ b l i=none->jQ b (l++m) i=jQ b m (i+abr l):=by intro x;induction x<;>grind [jQ]
def rJ (k i:Nat):Nat:=if i<k then i else i+1
def o7 (n k:Nat):List Nat:=(acw n).map (rJ k)
def zbj {n k:Nat}:abr (o7 n k)=n:=by unfold o7;rw [abz,List.length_range]
theorem zg3 {n k i:Nat} (h:i<n):(o7 n k).getD i 0=rJ k i:=by grind [o7]
def q0y (h:iL q L bs) (n:Cc q L bs c k) (hk:k<abr q):jQ c L 0=some (k,341)/\iI c L 0=o7 (abr q-1) k:=by
 have o:k<abr L:=by rw [h.len];exact hk
 have e:L=L.take k++(L.getD k Pl.zero::L.drop (k+1)):=by
  conv=>lhs;rw [<-ab1 k L,H9 Pl.zero o]
 have hz:∀j,j<abr L->j≠k->dz c (L.getD j Pl.zero)=0:=λj b g=>(Wt h n (by rw [<-h.len];exact b) g).1
 have u:∀x∈L.take k,dz c x=0:=λx s=>by
  obtain ⟨j,b,rfl⟩:=acn s
  rw [abA] at b
  have f:=hz j om om
  rw [List.getElem_take]
  rwa [abw,abv om] at f
 have f:∀x∈L.drop (k+1),dz c x=0:=λx s=>by
  obtain ⟨j,b,rfl⟩:=acn s
  rw [abE] at b
  have f:=hz (k+1+j) om om
  rw [List.getElem_drop]
  rwa [abw,abv om] at f
 obtain ⟨v,g1⟩:=Wq (L.take k) 0 u
 obtain ⟨_,w⟩:=Wq (L.drop (k+1)) (0+k+1) f
 have t:abr (L.take k)=k:=by rw [abA];omega
 have g:dz c (L.getD k Pl.zero)≠0:=by rw [n.bad];decide
 refine ⟨?_,?_⟩
 ·rw [e,znq _ _ _ v,t,jQ,if_pos g,n.bad,ab9]
 ·unfold o7
  rw [e,zg2,g1,t,iI,if_neg g,w,abE,h.len,show abr q-1=k+(abr q- (k+1)) by omega,List.range_add,abW,aew]
  congr 1
  ·refine adQ λi hi=>?_
   rw [aei] at hi
   unfold rJ
   rw [if_pos hi,ab9]
  ·refine adQ λi _=>?_
   show 0+k+1+i=rJ k (k+i)
   unfold rJ
   rw [if_neg om]
   omega
def zg4 (h:iL q L bs) (e:Cc q L bs c k) (hk:k<abr q):lJ c 0=0/\lI c ((bT c).1.drop (0:Int).toNat)=(lK q 0).map ac2:=by
 obtain ⟨f,g⟩:=q0s (b:=c) h.len (λj n=>by rw [e.blk j n];exact q0r h n) (abr q) (abx _)
 rw [ad5] at f g
 refine ⟨(za7 (j:=0) e.idx rfl (by rw [h.len];omega)).trans f,?_⟩
 rw [e.idx]
 exact g
def zg5 (h:iL q L bs) (b:Cc q L bs c k) (hk:k<abr q):iY c (k:Int)=341:=by
 unfold iY
 rw [b.idx,if_neg (λn=>n rfl),if_neg (by show ¬((k:Int)<0\/(abr L:Int)<=(k:Int));rw [h.len];omega)]
 exact b.bad
def zbk (h:iL q L bs) (e:Cc q L bs c k) (f:j<abr q) (b:j≠k):iY c (j:Int)=0:=by
 unfold iY
 rw [e.idx,if_neg (λn=>n rfl),if_neg (by show ¬((j:Int)<0\/(abr L:Int)<=(j:Int));rw [h.len];omega)]
 exact (Wt h e f b).1
def mQ (q:List Pm) (j:Nat):Nat:=abr ((q.take j).flatMap λp=>p.q)
theorem znr (b:j<abr q):mQ q (j+1)=mQ q j+(q.getD j Pm.zero).q.length:=by grind [Pm.zero,mQ,yM]
def zbl:mQ q 0=0:=by unfold mQ;rw [ahg];rfl
theorem zns (p:Nat):(p|||1)%2=1:=by simp_all
def zg6:mQ q (abr q)=abr (lK q 0):=by unfold mQ lK;rw [adb,ags]
end
section
open Go.ChangeShapes Go.WideShapes Go.ChangeAt
section
variable {H:Type} {enc:ajj×ajh->H} {W:ajg} {b0:Nat} {v:ajh} {d:DataW H} {p:List MemPlace}
def za1:Tryz.prog.underlying 22=some (.slice 104):=by kernel_rfl
def q0m:Tryz.prog.cellsOf 104=16:=by kernel_rfl
def q33:Tryz.prog.cellsOf 101=1:=by kernel_rfl
def q34:Tryz.prog.cellsOf 102=1:=by kernel_rfl
def LC:fieldAt abt 104 0 0 100=true:=by kernel_rfl
def LD:fieldAt abt 104 1 13 101=true:=by kernel_rfl
def LG:fieldAt abt 104 2 14 61=true:=by kernel_rfl
def LH:fieldAt abt 104 3 15 102=true:=by kernel_rfl
def znd {r B:List ajh} {a b c:ajh} (e:abr r=16) (f:r.take 13=B) (h1:r[13]?=some a) (g:r[14]?=some b) (j:r[15]?=some c):r=B++[a,b,c]:=by
 subst f
 refine Gg (by rw [abu,abA,e];rfl) λi hi=>?_
 rw [abu,abA,e] at hi
 have hi:i<16:=hi
 rcases ab0 i 13 with h|h
 ·rw [adU (by rw [abA,e];omega),List.getElem?_take,if_pos h]
 ·rw [adR (by rw [abA,e];omega),abA,e]
  have hc:i=13\/i=14\/i=15:=by omega
  rcases hc with rfl|rfl|rfl
  ·exact h1
  ·exact g
  ·exact j
set_option maxRecDepth 100000 in
theorem zne {r:List ajh} {y:DataW H×List MemPlace} (a:DataW.trod enc Tryz.prog W 0 (λ_=>true) true m 104 r=some y):∃x:Ap,F4 x=r/\l7 W x:=by
 obtain ⟨b,_,I,g0⟩:=q9 LC a
 obtain ⟨_,_,J,g1⟩:=q9 LD a
 obtain ⟨_,_,K,g⟩:=q9 LG a
 obtain ⟨_,_,L,i⟩:=q9 LH a
 rw [q0m] at b
 obtain ⟨n,e,f⟩:=q9o g0
 obtain ⟨A,c,l,e1,j,k,o,s⟩:=Nv Ah jw.Ok zft q3p de Uo (λ_ _ _ h=>zfu h) g1
 obtain ⟨gp,e2,t⟩:=Z8 g
 obtain ⟨B,u,q,e3,w,z,C,D⟩:=Nv zO (qP W) zk2 qyu de qyt (λ_ _ _ h=>zd8 h) i
 rw [qo6,List.drop_zero] at e
 rw [q33] at e1
 rw [Z7] at e2
 rw [q34] at e3
 have E:=vT e1
 have F:=vT e2.symm
 have G:=vT e3
 unfold maxLen at k z
 refine ⟨⟨n,A,c,l,gp,B,u,q⟩,?_,⟨f,o,j,by show l.length<=_;omega,s,t,C,w,by show q.length<=_;omega,D⟩⟩
 rw [znd b e.symm E F G,<-zjh f]
 rfl
set_option maxRecDepth 100000 in
theorem znf (a:Value.okWide Tryz.prog W .any b0 22 v) (h:DataW.Trod enc Tryz.prog W 0 (λ_=>true) true 22 v d p):
  ∃(A:ajq) (c:Nat) (l:List Ap),v= .slice A l.length c/\l.length<=c/\c<=maxLen/\(∀x∈l,l7 W x)/\Rd W W.heap.size 16 A l.length (l.flatMap F4):=by
 obtain ⟨i,len,cap,rfl⟩:=okWide_slice za1 a
 obtain ⟨e,f⟩:=h
 obtain ⟨A,c,l,b,g⟩:=Nv F4 (l7 W) za1 q0m de zaz (λ_ _ _ h=>zne h) f
 simp only [Value.cells,List.cons.injEq,and_true,Value.slice.injEq] at b
 obtain ⟨rfl,rfl,rfl⟩:=b
 exact ⟨_,_,l,rfl,g⟩
end
end
def Ch {α:Type} (l:List α) (m:Nat):abT .i64 (if ((m:Int)<(abr l:Int)) then (m:Int) else (abr l:Int))=vI ((abr (l.take m):Nat):Int):=by
 rw [abA]
 split<;>congr 1<;>omega
def abn {a s t:List ajr} (h:Mem W w (a++(s++t))):Mem W w (a++(t++s)):=h.perm (adw a acG)
abbrev ai0:=λa b c d e f g h i=>(.blk a b 85::.blk c d 113::.row (.slice e f g) f h 85 5::i:List ajr)
def q4g (A:ajq) (c:Nat) (l:List Ap) (w:ajg) (hr:Rd w w.heap.size 16 A (abr l) (l.flatMap F4)) (hP:∀x∈l,l7 w x) (hc:abr l<=c) (hn:abr l<=9223372036854775807):
    Calls abt 14 #[abo A l c] w (LB w l):=by
 refine (fE Tryz.func14 67) ?_
 refine (aM 2∘bg 1∘Jq∘JC (h:=by exact λe=>e.nil 53 9)∘JC (h:=by exact λe=>(show Mem w _ (.row (vN) 0 [] 53 9::dH []) from e))∘JG∘cB 1∘bM 2∘Jl∘Jy (v:=vI (if (4:Int)<(abr l:Int) then 4 else (abr l:Int))) (h:=by exact Yl.min rfl rfl rfl)∘Jo (vI (abr (l.take 4))) (by exact Ch l 4)∘Jy (h:=by exact aah LA (j:=abr (l.take 4)) rfl rfl rfl (by rw [abA];omega))∘Jl∘bO 1∘JB) λa Z e=>?_
 refine qg (λmS aS wS=>∃(i:Nat) (sg:Nat) (g:List Pm) (J:ajq) (co:Nat),(i<=abr (l.take 4))/\(sg=jy l i)/\(mH l g i)/\(abr g<=co)/\mS=abr (l.take 4)-i/\Fr aS 67 [] [(19,vI i),(18,vI (abr (l.take 4):Nat)),(17,abo A (l.take 4) c),(5,vI sg),(4,abo J g co),(3,.bool false),(2,vN)]/\Mem w wS (abq J g co iJ 53 9::dH g)) (m:=abr (l.take 4)-0) ⟨0,0,[],none,0,abC _,Wd.symm,zgs,abx _,rfl,Z.sub kr,e.pt 1 [0]⟩ ?_
 clear Z e;rintro mS a w_ ⟨i,sg,g,J,co,hi,hsg,R,hco,rfl,Z,e⟩
 refine Jb Z e ((cB 1∘JQ) (Ji (λK=>?_) λK=>?_))
 ·
  have L:i<abr l:=by rw [abA] at K;omega
  have hql:=R.1
  have hgu:=za0 L
  have hgl:=znc (i:=i+1) (λy hy=>(hP y hy).gap)
  have hi4:i+1<=4:=by rw [abA] at K;omega
  have hgI:aX (jy l (i+1):Int):=by unfold aX;omega
  obtain ⟨x,hx⟩:∃x,(l.getD i Ap.zero)=x:=⟨_,rfl⟩
  have C:=hP x (by rw [<-hx];exact qf Ap.zero L)
  have G7:=C.qn
  have hxg:=C.gap
  rw [hx] at hgu
  refine (eP∘JP) ?_
  obtain ⟨gA,oA,rfl,_⟩:=hr.sat i
  refine (iF i 16∘qM Ap.cells zaz hr Ca i Ap.zero (hk:=L)∘Jo (.agg x.cells) (by rw [hx])∘JA #[vB 0,vB 0,vW 0,vB 0,vB 0,vB 0,vB 0,vB 0,.int .u16 0,.int .u16 0,.int .u16 0,.int .u16 0,.int .u16 0,vN,vW 0,vN]) λw7 M=>(JV Ca aN (h1:=by exact zql x)) λDh=>(bU∘bg 1∘Jg 14 O0∘Jw .i64∘Jp 1∘Jo (vI (jy l (i+1))) (by rw [hgu,<-hsg];exact q7 om om)∘Jp 1∘fK∘Jr∘Jf 0∘Jy (v:= .agg #[vB x.n.au,vB x.n.groups,vW x.n.aj,vB (x.n.ps.getD 0 0),vB (x.n.ps.getD 1 0),vB (x.n.ps.getD 2 0),vB (x.n.ps.getD 3 0),vB (x.n.ps.getD 4 0),.int .u16 (x.n.ws.getD 0 0),.int .u16 (x.n.ws.getD 1 0),.int .u16 (x.n.ws.getD 2 0),.int .u16 (x.n.ws.getD 3 0),.int .u16 (x.n.ws.getD 4 0)]) (h:=by exact Pe rfl rfl q9g rfl (λ_ h=>h.sub (i:=0) rfl 0 rfl))∘Jo (.agg x.n.cells) (by exact congrArg Value.agg (zjh C.n))∘Jg 13 O0∘Jp 1∘JL (h:=by exact λe=>q4f x.n C.n x.A x.c x.l C.l C.lc C.ln (jy l (i+1):Int) hgI _ (e.old C.lr))) ?_
  rintro e _ Rx ⟨z,rfl,hsz,hgz,hiz,hnz,hm⟩
  refine ⟨_,rfl,_,(show Mem w Rx (.blk M x.cells 104:: abq J g co iJ 53 9::(jV z.st++(dH g))) from e.xw (T:=dH g) 2 hm rfl),?_⟩
  refine (Jp 1∘Jx∘Jx∘JA #[vI 0,vI 0,vQ 0,vN,vN,vN,vN,vN]) λw8 Q=>(JV zr aN (h1:=by exact NQ z)) λafq=>(bO 1∘bM 2∘aL∘Jj∘aP∘JP∘eF zr O0∘fu #[vI z.next,vI z.st.au,vQ z.st.aj,abo z.st.gA z.st.gs z.st.gc,abo z.st.lA z.st.cl z.st.lc,abo z.st.uA z.st.cu z.st.uc,abo z.st.tA z.st.ts z.st.tc,abo z.st.sA z.st.rs z.st.sc,vN]∘JA #[vI 0,vI 0,vQ 0,vN,vN,vN,vN,vN,vN]) λsD D=>(JV dn aN) λafr=>(bU∘Jj∘JQ∘JP∘Jg 15 O2∘Jg 15 O2∘Jl∘Jy (v:=vI (if (5:Int)<(abr x.q:Int) then 5 else (abr x.q:Int))) (h:=by exact Yl.min rfl rfl rfl)∘Jo (vI (abr (x.q.take 5))) (by exact Ch x.q 5)∘Jy (h:=by exact aah zo8 (j:=abr (x.q.take 5)) rfl rfl rfl (by rw [abA];have:=C.qc;omega))∘Jl∘Jp 1∘Jq) λa Z e=>?_
  replace e:=e.nil 85 5
  replace e:Mem w _ (.row (vN) 0 [] 85 5:: .blk D #[vI z.next,vI z.st.au,vQ z.st.aj,abo z.st.gA z.st.gs z.st.gc,abo z.st.lA z.st.cl z.st.lc,abo z.st.uA z.st.cu z.st.uc,abo z.st.tA z.st.ts z.st.tc,abo z.st.sA z.st.rs z.st.sc,vN] 53:: .blk Q z.cells 50:: .blk M x.cells 104:: abq J g co iJ 53 9::(gH 73 []++(dH g++(jV z.st)))):=abn (a:=[.row (vN) 0 [] 85 5,.blk D #[vI z.next,vI z.st.au,vQ z.st.aj,abo z.st.gA z.st.gs z.st.gc,abo z.st.lA z.st.cl z.st.lc,abo z.st.uA z.st.cu z.st.uc,abo z.st.tA z.st.ts z.st.tc,abo z.st.sA z.st.rs z.st.sc,vN] 53,.blk Q z.cells 50,.blk M x.cells 104,abq J g co iJ 53 9]) e
  refine Jb Z e ((JG∘JB) λa Z e=>?_)
  refine qg (λmS aS wS=>∃(k:Nat) (o:List Hb) (u:ajq) (s:Nat),(k<=abr (x.q.take 5))/\(o.map ac2=sI (x.q.take k))/\(abr o=k)/\(abr o<=s)/\mS=abr (x.q.take 5)-k/\Fr aS 67 [] [(49,vI k),(48,vI (abr (x.q.take 5):Nat)),(47,abo x.B (x.q.take 5) x.d),(10,vP D 0),(38,.bool false),(9,.bool true),(8,vP Q 0),(5,vI (jy l (i+1))),(7,vP M 0),(20,.bool true),(19,vI i),(18,vI (abr (l.take 4):Nat)),(17,abo (some ⟨gA,oA,none⟩) (l.take 4) c),(4,abo J g co),(3,.bool false),(2,vN)]/\Mem w wS (abq u o s hbL 85 5:: .blk D #[vI z.next,vI z.st.au,vQ z.st.aj,abo z.st.gA z.st.gs z.st.gc,abo z.st.lA z.st.cl z.st.lc,abo z.st.uA z.st.cu z.st.uc,abo z.st.tA z.st.ts z.st.tc,abo z.st.sA z.st.rs z.st.sc,abo u o s] 53:: .blk Q z.cells 50:: .blk M x.cells 104:: abq J g co iJ 53 9::(gH 73 o++(dH g++(jV z.st))))) (m:=abr (x.q.take 5)-0) ⟨0,[],none,0,abC _,rfl,rfl,abx _,rfl,Z.sub kr,e.pt 5 [0,1,2,3,4]⟩ ?_
  clear Z e;rintro mS a w_ ⟨k,o,u,s,hk,hq2,hl2,hcb,rfl,Z,e⟩
  refine Jb Z e ((cB 1∘JQ) (Ji (λI=>?_) λI=>?_))
  ·
   have hk5:k<5:=by rw [abA] at I;omega
   have N:k<abr x.q:=by rw [abA] at I;omega
   have S:=C.q _ (qf gJ.zero N)
   have hts:=q14 N
   refine (eP∘JP) ?_
   obtain ⟨IG,II,X,_⟩:=Rd.sat C.qr k
   have U:=C.qr;rw [X] at U
   refine (Jk 47 (.slice (some ⟨IG,II,none⟩) (abr (x.q.take 5)) x.d) (h:=by rw [X];try rfl)∘iF k 6∘Jy (v:= .agg ((x.q.getD k gJ.zero).x.cells (x.q.getD k gJ.zero).A (x.q.getD k gJ.zero).c)) (h:=by exact Pe rfl rfl wH rfl (λ_ h=>(h.old U).vX qyt ((getD_at gJ.zero N))))∘JA #[.bool false,vB 0,vW 0,vI 0,vI 0,vN]) λyL Y=>(JV wH aN (h1:=by exact zo6 _ _ _)) λHe=>(bU∘Jj∘Vs (.t (.f .n)) [7]) λzK=>(Vf 0 8∘Vc 1 O1∘nR 2 wH O0∘VK 3 (.t (.f .n)) (h:=by exact λe=>zb1 (x.q.getD k gJ.zero).x S.ok (x.q.getD k gJ.zero).A (x.q.getD k gJ.zero).c _ (e.old S.rd) S.hc S.hm)) λp r w56 awk=>λa Z e HS=>?_
   refine s_on Z 4 rfl (jG Z e Fb [(0,.agg ((x.q.getD k gJ.zero).x.made.cells p r))] ((x.q.getD k gJ.zero).x.made.cells p r) ?_)
   clear Z e;intro a w57 WY Z e
   refine av (e.pt 8 [2,4,5,6,7]) (λHS=>?_)
   refine s_on Z 5 rfl (su Z e (i:=3) rfl Fb rfl rfl rfl (news:=(hbL (⟨(x.q.getD k gJ.zero).x.made,p,r⟩:Hb))) (e.bE (i:=0) (n:=1) (size:=5) rfl rfl) (uM _ _ _) om om rfl de ?_)
   clear Z e;intro a HZ E F Z e V
   refine av (e.pt 8 [2,4,5,6,7]) (λHS=>?_)
   refine Vb Z e HS ((Vf 6 8) λa Z e HS=>?_)
   refine s_on Z 7 rfl (eU Z e 4 λafs e=>?_)
   refine dR kr ?_
   refine qe kr ?_
   have G:abr o+1=abr (o++[(⟨(x.q.getD k gJ.zero).x.made,p,r⟩:Hb)]):=by rw [abu];rfl
   rw [G] at V
   replace e:=e.bq (i:=3) (ys:=(o++[(⟨(x.q.getD k gJ.zero).x.made,p,r⟩:Hb)]).flatMap hbL) rfl G (by rw [abZ,abO,ad7,abN])
   replace Z:=Z.sp 58 (.slice E (abr (o++[(⟨(x.q.getD k gJ.zero).x.made,p,r⟩:Hb)])) F) rfl (iZ G)
   replace e:=e.dX (i:=4) (ds:= #[vI z.next,vI z.st.au,vQ z.st.aj,abo z.st.gA z.st.gs z.st.gc,abo z.st.lA z.st.cl z.st.lc,abo z.st.uA z.st.cu z.st.uc,abo z.st.tA z.st.ts z.st.tc,abo z.st.sA z.st.rs z.st.sc,.slice E (abr (o++[(⟨(x.q.getD k gJ.zero).x.made,p,r⟩:Hb)])) F]) rfl (by rw [G];try rfl)
   replace e:=aaP (a:=(ai0 WY ((x.q.getD k gJ.zero).x.made.cells p r) Y ((x.q.getD k gJ.zero).x.cells (x.q.getD k gJ.zero).A (x.q.getD k gJ.zero).c) E (abr (o++[(⟨(x.q.getD k gJ.zero).x.made,p,r⟩:Hb)])) F ((o++[(⟨(x.q.getD k gJ.zero).x.made,p,r⟩:Hb)]).flatMap hbL) [.blk D #[vI z.next,vI z.st.au,vQ z.st.aj,abo z.st.gA z.st.gs z.st.gc,abo z.st.lA z.st.cl z.st.lc,abo z.st.uA z.st.cu z.st.uc,abo z.st.tA z.st.ts z.st.tc,abo z.st.sA z.st.rs z.st.sc,.slice E (abr (o++[(⟨(x.q.getD k gJ.zero).x.made,p,r⟩:Hb)])) F] 53,.blk Q z.cells 50,.blk M x.cells 104,abq J g co iJ 53 9])) (q:=o) (b:=dH g++(jV z.st)) (e.pt (fs':=(.row (.slice p ((x.q.getD k gJ.zero).x.made.evs.length) r) ((x.q.getD k gJ.zero).x.made.evs.length) ((x.q.getD k gJ.zero).x.made.evs.flatMap fD) 73 11::ai0 WY ((x.q.getD k gJ.zero).x.made.cells p r) Y ((x.q.getD k gJ.zero).x.cells (x.q.getD k gJ.zero).A (x.q.getD k gJ.zero).c) E (abr (o++[(⟨(x.q.getD k gJ.zero).x.made,p,r⟩:Hb)])) F ((o++[(⟨(x.q.getD k gJ.zero).x.made,p,r⟩:Hb)]).flatMap hbL) (.blk D #[vI z.next,vI z.st.au,vQ z.st.aj,abo z.st.gA z.st.gs z.st.gc,abo z.st.lA z.st.cl z.st.lc,abo z.st.uA z.st.cu z.st.uc,abo z.st.tA z.st.ts z.st.tc,abo z.st.sA z.st.rs z.st.sc,.slice E (abr (o++[(⟨(x.q.getD k gJ.zero).x.made,p,r⟩:Hb)])) F] 53::.blk Q z.cells 50::.blk M x.cells 104::abq J g co iJ 53 9::(gH 73 o++(dH g++(jV z.st)))))) 8 [1,0,2,3,4,5,6,7])
   replace e:Mem w _ (ai0 WY ((x.q.getD k gJ.zero).x.made.cells p r) Y ((x.q.getD k gJ.zero).x.cells (x.q.getD k gJ.zero).A (x.q.getD k gJ.zero).c) E (abr (o++[(⟨(x.q.getD k gJ.zero).x.made,p,r⟩:Hb)])) F ((o++[(⟨(x.q.getD k gJ.zero).x.made,p,r⟩:Hb)]).flatMap hbL) (.blk D #[vI z.next,vI z.st.au,vQ z.st.aj,abo z.st.gA z.st.gs z.st.gc,abo z.st.lA z.st.cl z.st.lc,abo z.st.uA z.st.cu z.st.uc,abo z.st.tA z.st.ts z.st.tc,abo z.st.sA z.st.rs z.st.sc,.slice E (abr (o++[(⟨(x.q.getD k gJ.zero).x.made,p,r⟩:Hb)])) F] 53::.blk Q z.cells 50::.blk M x.cells 104::abq J g co iJ 53 9::(gH 73 (o++[(⟨(x.q.getD k gJ.zero).x.made,p,r⟩:Hb)])++(dH g++(jV z.st))))):=e
   refine Jb Z e ((JG∘JR∘dx 1∘Jp 1∘aL∘Jq) λa Z e=>?_)
   replace Z:=Z.sp 47 (abo x.B (x.q.take 5) x.d) rfl (by rw [X])
   exact ⟨_,om,k+1,(o++[(⟨(x.q.getD k gJ.zero).x.made,p,r⟩:Hb)]),E,F,by omega,by rw [hts,abW,hq2];rfl,by rw [abu,hl2];rfl,V,rfl,Z.sub kr,e.pt 7 [2,3,4,5,6]⟩
  have hqq:o.map ac2=sI (x.q.take 5):=by rw [hq2,show k=min 5 (abr x.q) by rw [abA] at hk I;omega,<-List.take_eq_take_min]
  refine (JF∘JX∘JG∘JR∘Jp 1∘eF dn O1∘JU nJ #[vI z.next,vI z.st.au,vQ z.st.aj,abo z.st.gA z.st.gs z.st.gc,abo z.st.lA z.st.cl z.st.lc,abo z.st.uA z.st.cu z.st.uc,abo z.st.tA z.st.ts z.st.tc,abo z.st.sA z.st.rs z.st.sc,abo u o s]) λTS WZ=>(JD (iJ (⟨z,u,s,o⟩:Pm)) 5 (λ_ _=>rR) nJ (hr:=by exact λe=>e.bE (i:=0) (n:=1) (size:=9) rfl rfl) (h1:=by exact yZ _)) λw64 O P W=>(Jp 1∘fK∘Jq) ?_
  have H:abr g+1=abr (g++[(⟨z,u,s,o⟩:Pm)]):=by rw [abu];rfl
  rw [H] at W
  intro a Z e
  replace e:=e.bq (i:=5) (ys:=(g++[(⟨z,u,s,o⟩:Pm)]).flatMap iJ) rfl H (by rw [abZ,abO,ad7,abN])
  replace Z:=Z.sp 4 (abo O (g++[(⟨z,u,s,o⟩:Pm)]) P) rfl (iZ H)
  replace e:=aa3 (a:=[.blk WZ #[vI z.next,vI z.st.au,vQ z.st.aj,abo z.st.gA z.st.gs z.st.gc,abo z.st.lA z.st.cl z.st.lc,abo z.st.uA z.st.cu z.st.uc,abo z.st.tA z.st.ts z.st.tc,abo z.st.sA z.st.rs z.st.sc,abo u o s] 53,.blk D #[vI z.next,vI z.st.au,vQ z.st.aj,abo z.st.gA z.st.gs z.st.gc,abo z.st.lA z.st.cl z.st.lc,abo z.st.uA z.st.cu z.st.uc,abo z.st.tA z.st.ts z.st.tc,abo z.st.sA z.st.rs z.st.sc,abo u o s] 53,.blk Q z.cells 50,.blk M x.cells 104,abq O (g++[(⟨z,u,s,o⟩:Pm)]) P iJ 53 9]) (e.pt (fs':=(abq u o s hbL 85 5:: .blk WZ #[vI z.next,vI z.st.au,vQ z.st.aj,abo z.st.gA z.st.gs z.st.gc,abo z.st.lA z.st.cl z.st.lc,abo z.st.uA z.st.cu z.st.uc,abo z.st.tA z.st.ts z.st.tc,abo z.st.sA z.st.rs z.st.sc,abo u o s] 53:: .blk D #[vI z.next,vI z.st.au,vQ z.st.aj,abo z.st.gA z.st.gs z.st.gc,abo z.st.lA z.st.cl z.st.lc,abo z.st.uA z.st.cu z.st.uc,abo z.st.tA z.st.ts z.st.tc,abo z.st.sA z.st.rs z.st.sc,abo u o s] 53:: .blk Q z.cells 50:: .blk M x.cells 104:: abq O (g++[(⟨z,u,s,o⟩:Pm)]) P iJ 53 9::(gH 73 o++(dH g++(jV z.st))))) 6 [1,0,2,3,4,5])
  replace e:Mem w _ (.blk WZ #[vI z.next,vI z.st.au,vQ z.st.aj,abo z.st.gA z.st.gs z.st.gc,abo z.st.lA z.st.cl z.st.lc,abo z.st.uA z.st.cu z.st.uc,abo z.st.tA z.st.ts z.st.tc,abo z.st.sA z.st.rs z.st.sc,abo u o s] 53:: .blk D #[vI z.next,vI z.st.au,vQ z.st.aj,abo z.st.gA z.st.gs z.st.gc,abo z.st.lA z.st.cl z.st.lc,abo z.st.uA z.st.cu z.st.uc,abo z.st.tA z.st.ts z.st.tc,abo z.st.sA z.st.rs z.st.sc,abo u o s] 53:: .blk Q z.cells 50:: .blk M x.cells 104:: abq O (g++[(⟨z,u,s,o⟩:Pm)]) P iJ 53 9::dH (g++[(⟨z,u,s,o⟩:Pm)])):=e
  refine Jb Z e ((JG∘JR∘dx 1∘Jp 1∘aL∘Jq) λa Z e=>?_)
  exact ⟨_,om,i+1,jy l (i+1),(g++[(⟨z,u,s,o⟩:Pm)]),O,P,by omega,rfl,zqm R hx ⟨hsz,hgz,hiz,hnz ⟨by omega,by omega⟩,hqq,hcb⟩,W,rfl,Z.sub kr,e.pt 5 [4]⟩
 have hin:i=abr (l.take 4):=by omega
 exact (JF∘JX∘JG∘bB 3∘bW) λe=>by exact ⟨_,_,g,rfl,by rw [hin] at R;exact R,hco,e.pt (fs':=(abq J g co iJ 53 9::dH g)) 1 [0]⟩
def qxy (A:ajq) (c:Nat) (l:List Nat) (S:Nat) (w:ajg) (hL:aR S w) (hB:S<=w.heap.size) (hr:Rd w w.heap.size 1 A (abr l) (l.map B8)) (hc:abr l<=c) (hl:∀b∈l,b<256) (hn:abr l<=100000000):
    Calls abt 71 #[.slice A (abr l) c] w (Df 73 85 w (readAll l).2 (readAll l).1):=by
 refine Cz (vs:=[abo A l c]) Tryz.func71 rfl rfl kr (σ0:=[(0,abo A l c)]) rfl ?_
 intro a Z
 have d:=Mem.start w
 refine Jb Z d ((JP∘JA #[vN]) λw2 s=>(JA #[vI 0]) λw3 t=>(Jj∘bM 1∘Jl∘Jp 1∘bU∘Jj) (Ji (λT=>?_) λT=>?_))
 ·
  refine (JT∘JP∘JW gu aN) λQX=>(JW aN aN) λCQ=>(aQ) λa Z d=>?_
  refine CB ?_
  exact dS rfl Z (.cell1 (i:=1) Z d rfl rfl kr rfl) (.cell1 (i:=0) Z d rfl rfl kr rfl) (qs5 d (RQ om) rfl)
 refine (aP∘JP∘JA #[vN]) λw4 D=>(Jj∘bM 1∘JL (h:=by exact λd=>q39 A (abr l) c _)) ?_
 rintro d _ vD ⟨gp,rfl,hm⟩
 refine ⟨_,rfl,_,d.join hm,?_⟩
 refine (aL∘Jq∘JC (h:=by exact λd=>d.nil 85 5)∘JC (h:=by exact λd=>(show Mem w _ (.row (vN) 0 [] 85 5:: .blk gp #[abo A l c] 30:: .blk D #[vN] 51:: .blk t #[vI 0] 27:: .blk s #[vN] 51::gH 73 []) from d))∘JG∘JB) λa Z d=>?_
 refine Cy Z d (λF=>∃(q:List Hb) (f:Nat) (x:ajq) (co:Nat),(abr ([]:List Nat)<=f)/\(q.map ac2++(qx f ([]:List Nat)).1=(qx (abr l) l).1)/\((qx (abr l) l).2.2=(qx f ([]:List Nat)).2.2)/\(abr q<=co)/\(abr q+abr ([]:List Nat)<=abr l)/\F=(abq x q co hbL 85 5:: .blk D #[abo x q co] 51:: .blk t #[vI 0] 27:: .blk s #[vN] 51::gH 73 q)) (λc F=>c= .ret/\∃(q:List Hb) (e:Nat),(e≠0)/\((qx (abr l) l).2.2=e)/\F=(.blk t #[vI e] 27:: .blk s #[vN] 51::gH 73 q)) rfl kr ?_ ?_ ?_
 ·
  clear Z d;intro C B p w1 N d
  have hy:qoj w C (λu F=>∃(q:List Hb) (f:Nat) (x:ajq) (co:Nat),(abr u<=f)/\(q.map ac2++(qx f u).1=(qx (abr l) l).1)/\((qx (abr l) l).2.2=(qx f u).2.2)/\(abr q<=co)/\(abr q+abr u<=abr l)/\F=(.obj C (.loop (p .ready none)):: .obj B (.deferred (some []))::(abq x q co hbL 85 5:: .blk D #[abo x q co] 51:: .blk t #[vI 0] 27:: .blk s #[vN] 51::gH 73 q))) (λF=>∃(q:List Hb) (e:Nat),(e≠0)/\((qx (abr l) l).2.2=e)/\F=(.obj C (.loop (p .done (some .ret))):: .obj B (.deferred (some []))::(.blk t #[vI e] 27:: .blk s #[vN] 51::gH 73 q))):=by
   rintro u F fr w3 g j b m M ⟨q,f,x,co,U,E,y,G,I,rfl⟩ hq O hrl hcb d
   replace d:=d.pt (fs':=(ah5 C (p .ready none)::abq g b.evs j fD 73 11::ahY B::abq x q co hbL 85 5::.blk D #[abo x q co] 51::.blk t #[vI 0] 27::.blk s #[vN] 51::(gH 73 q++(fr)))) 7 [1,0,2,3,4,5,6]
   refine EO (v1:= .agg #[vB (b.kind:Int),vB (b.cpu:Int),vI b.lost,vI b.next,abo g b.evs j,vI m]) (v2:=vI M) N d de de λa Z=>?_
   refine wpIn_seq ?_
   refine qk ?_
   refine Jb Z d ((JA #[vB 0,vB 0,vI 0,vI 0,vN,vI 0]) λw5 P=>(JV zg7 aN) λWu=>(Jq) λa Z d=>?_)
   refine qk ?_
   refine Jb Z d ((Jp 1∘Jq) λa Z d=>?_)
   refine ⟨(.blk P #[vB (b.kind:Int),vB (b.cpu:Int),vI b.lost,vI b.next,abo g b.evs j,vI m] 255::abq g b.evs j fD 73 11::ahY B::abq x q co hbL 85 5::.blk D #[abo x q co] 51::.blk t #[vI 0] 27::.blk s #[vN] 51::(gH 73 q++(fr))),d.pt (fs':=(ah5 C (p .ready none)::.blk P #[vB (b.kind:Int),vB (b.cpu:Int),vI b.lost,vI b.next,abo g b.evs j,vI m] 255::abq g b.evs j fD 73 11::ahY B::abq x q co hbL 85 5::.blk D #[abo x q co] 51::.blk t #[vI 0] 27::.blk s #[vN] 51::(gH 73 q++(fr)))) 8 [1,0,2,3,4,5,6,7],λw4 d=>?_⟩
   refine wpIn_block ?_
   refine wpIn_seq ?_
   refine wpIn_seq ?_
   refine qk ?_
   refine Jb Z d ((Jp 2∘aL∘Jq) (Jh (λQ=>?_) λQ=>?_))
   ·
    intro a Z d
    have V:=qv7 (f:=f) om O hq om
    rw [V] at y
    refine Cw Z rfl ?_
    refine wpIn_seq ?_
    refine qk ?_
    refine Jb Z d ((Jp 1∘JW wo aN) λCV=>(JW vw aN) λauN=>(mW∘Jq) λa Z d=>?_)
    refine wpIn_ret ?_
    refine ⟨(ahY B::.blk t #[vI M] 27::.blk s #[vN] 51::(gH 73 q++(fr))),d.pt (fs':=(ah5 C (p .busy none)::ahY B::.blk t #[vI M] 27::.blk s #[vN] 51::(gH 73 q++(fr)))) 8 [0,3,6,7],λw5 d=>?_⟩
    exact ⟨(ah5 C (p .done (some .ret))::ahY B::.blk t #[vI M] 27::.blk s #[vN] 51::gH 73 q),d,.inr ⟨om,rfl,q,M,by omega,y,rfl⟩⟩
   intro a Z d
   have W:M=0:=by omega
   have J:=hq
   rw [W] at J
   have V:=qkm (f:=f) om O J
   obtain ⟨auO,hml,_⟩:=Rs J
   rw [V] at E y
   dsimp only at E y
   refine Cx Z rfl ?_
   refine wpIn_skip ?_
   refine qk ?_
   refine Jb Z d ((Jc O5∘Jf 0∘Jy (v:= .agg #[vB b.kind,vB b.cpu,vI b.lost,vI b.next,abo g b.evs j]) (h:=by exact Pe rfl rfl aG rfl (λ_ h=>h.sub (i:=1) rfl 0 rfl))∘JU Fb #[vB b.kind,vB b.cpu,vI b.lost,vI b.next,abo g b.evs j]) λEY K=>(JD (hbL (⟨b,g,j⟩:Hb)) 5 (λ_ _=>rR) Fb (hr:=by exact λd=>d.bE (i:=0) (n:=1) (size:=5) rfl rfl) (h1:=by exact uM _ _ _)) λTD k o H=>(JW vw aN) λKV=>(qL∘Jq) λa Z d=>?_)
   have z:abr q+1=abr (q++[(⟨b,g,j⟩:Hb)]):=by rw [abu];rfl
   rw [z] at H
   replace d:=d.bq (i:=5) (ys:=(q++[(⟨b,g,j⟩:Hb)]).flatMap hbL) rfl z (by rw [abZ,abO,ad7,abN])
   replace d:=d.dX (i:=6) (ds:= #[.slice k (abr (q++[(⟨b,g,j⟩:Hb)])) o]) rfl (by rw [z];try rfl)
   replace d:=aaP (a:=[.blk K #[vB b.kind,vB b.cpu,vI b.lost,vI b.next,abo g b.evs j] 85,ah5 C (p .busy none),.blk P #[vB (b.kind:Int),vB (b.cpu:Int),vI b.lost,vI b.next,abo g b.evs j,vI m] 255,ahY B,abq k (q++[(⟨b,g,j⟩:Hb)]) o hbL 85 5,.blk D #[abo k (q++[(⟨b,g,j⟩:Hb)]) o] 51,.blk t #[vI 0] 27,.blk s #[vN] 51]) (q:=q) (b:=fr) (d.pt (fs':=(abq g b.evs j fD 73 11::.blk K #[vB b.kind,vB b.cpu,vI b.lost,vI b.next,abo g b.evs j] 85::ah5 C (p .busy none)::.blk P #[vB (b.kind:Int),vB (b.cpu:Int),vI b.lost,vI b.next,abo g b.evs j,vI m] 255::ahY B::abq k (q++[(⟨b,g,j⟩:Hb)]) o hbL 85 5::.blk D #[abo k (q++[(⟨b,g,j⟩:Hb)]) o] 51::.blk t #[vI 0] 27::.blk s #[vN] 51::(gH 73 q++(fr)))) 9 [3,0,1,2,4,5,6,7,8])
   replace d:Mem w _ (.blk K #[vB b.kind,vB b.cpu,vI b.lost,vI b.next,abo g b.evs j] 85::ah5 C (p .busy none)::.blk P #[vB (b.kind:Int),vB (b.cpu:Int),vI b.lost,vI b.next,abo g b.evs j,vI m] 255::ahY B::abq k (q++[(⟨b,g,j⟩:Hb)]) o hbL 85 5::.blk D #[abo k (q++[(⟨b,g,j⟩:Hb)]) o] 51::.blk t #[vI 0] 27::.blk s #[vN] 51::(gH 73 (q++[(⟨b,g,j⟩:Hb)])++(fr))):=d
   refine ⟨(ahY B::abq k (q++[(⟨b,g,j⟩:Hb)]) o hbL 85 5::.blk D #[abo k (q++[(⟨b,g,j⟩:Hb)]) o] 51::.blk t #[vI 0] 27::.blk s #[vN] 51::(gH 73 (q++[(⟨b,g,j⟩:Hb)])++(fr))),d.pt (fs':=(ah5 C (p .busy none)::ahY B::abq k (q++[(⟨b,g,j⟩:Hb)]) o hbL 85 5::.blk D #[abo k (q++[(⟨b,g,j⟩:Hb)]) o] 51::.blk t #[vI 0] 27::.blk s #[vN] 51::(gH 73 (q++[(⟨b,g,j⟩:Hb)])++(fr)))) 8 [1,3,4,5,6,7],λw5 d=>?_⟩
   exact ⟨(ah5 C (p .ready none)::ahY B::abq k (q++[(⟨b,g,j⟩:Hb)]) o hbL 85 5::.blk D #[abo k (q++[(⟨b,g,j⟩:Hb)]) o] 51::.blk t #[vI 0] 27::.blk s #[vN] 51::gH 73 (q++[(⟨b,g,j⟩:Hb)])),d,.inl ⟨om,rfl,(q++[(⟨b,g,j⟩:Hb)]),(f-1),k,o,by rw [abE];omega,by rw [<-E,abW,aby];rfl,y,H,by rw [abu,abE,List.length_singleton];omega,rfl⟩⟩
  refine (qxx w w1 gp C S A c l _ _ _ hL hB hr hc hl om hy ⟨[],abr l,none,0,abx _,acX _,rfl,abx _,by simp,rfl⟩ (d.pt 7 [3,0,1,2,4,5,6])).mono ?_
  rintro r w2 ⟨v,rfl,F2,R,(⟨q,f,x,co,U,E,y,G,I,rfl⟩|⟨q,e,L,y,rfl⟩)⟩
  ·exact ⟨v,rfl,.inl ⟨_,⟨q,f,x,co,U,E,y,G,I,rfl⟩,R⟩⟩
  ·exact ⟨v,rfl,.inr ⟨.ret,_,⟨rfl,q,e,L,y,rfl⟩,R⟩⟩
 ·
  clear Z d;rintro B a w6 _ ⟨q,f,x,co,U,E,y,G,I,rfl⟩ Z d
  have hz:=Z9 (f:=f) (l:=[]) rfl
  rw [hz] at E y
  dsimp only at E y
  rw [abN] at E
  refine Jb Z d ((JG∘JP∘Jc O2∘JW qK aN) λX=>(JW oI aN) λY=>(mW∘aQ) λa Z d=>?_)
  refine yH Z d (i:=0) rfl λa w7 Z d=>?_
  exact dS rfl Z (.cell1 (i:=4) Z d rfl rfl kr rfl) (.cell1 (i:=3) Z d rfl rfl kr rfl) (by rw [RU om y,<-E];exact zkp (d.pt (fs':=(abq x q co hbL 85 5::gH 73 q)) 5 [1]) G)
 ·
  clear Z d;rintro _ B a w6 _ ⟨rfl,q,e,L,y,rfl⟩ Z d
  refine wp_ret ?_
  refine yH Z d (i:=0) rfl λa w7 Z d=>?_
  exact dS rfl Z (.cell1 (i:=2) Z d rfl rfl kr rfl) (.cell1 (i:=1) Z d rfl rfl kr rfl) (qs5 d (RS om y L) rfl)
end Go.Proofs.YtekiimhdnigmcaaGreatDoor
