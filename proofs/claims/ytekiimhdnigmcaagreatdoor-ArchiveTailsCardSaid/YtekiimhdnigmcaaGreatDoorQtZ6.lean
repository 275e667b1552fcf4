/- Parts. -/
import Derived.Test.YtekiimhdnigmcaaGreatDoorQtZ5
set_option linter.all false
set_option maxRecDepth 100000
set_option maxHeartbeats 4000000
namespace Go.Proofs.YtekiimhdnigmcaaGreatDoor
open Go.RowKit
open List renaming length→abn
open _root_.Go.Proofs.Tryz renaming prog→abo,func278→ahc
open _root_.List renaming length_append→abp,getElem?_eq_getElem→abq,getD_eq_getElem?_getD→abt,append_assoc→abu,length_take→abv,length_map→abx,getElem?_eq_some_iff→abB,length_drop→abC,take_of_length_le→abI,flatMap_cons→abK,mem_of_mem_drop→abL,append_nil→abP,mem_cons→abS,length_cons→abT,map_append→abU,flatMap_append→abX,mem_map→ab0,take_append_drop→ab1,mem_append→ab6,drop_of_length_le→ab9,mem_cons_of_mem→acd,drop_eq_getElem_cons→ace,mem_of_mem_take→acf,not_mem_nil→aci,range→acp,mem_flatMap→acw,mem_cons_self→acB,drop_drop→acQ,mem_append_right→acW,perm_append_comm→acY,getElem?_map→ac0,getElem?_set_self→ac9,getElem?_drop→ade,mem_append_left→adh,take_add_one→ado,mem_map_of_mem→adq,take_length→adr,drop_eq_nil_of_le→adx,take_left→adJ,getElem?_append_right→adK,getElem?_append_left→adO,flatMap_nil→adV,length→adZ,mem_range→aeA,drop_left→afj,map_map→afm,getElem?_take_of_lt→afC,drop_zero→afS,map_congr_left→af3,flatMap_map→agE,range_succ→agK,append_inj→agN
open Nat renaming le_refl→abr,zero_le→abA,lt_or_ge→ab5,eq_zero_or_pos→acr,le_of_ble_eq_true→acy,add_zero→acE,add_sub_cancel_left→ac3,le_trans→ada,lt_of_succ_lt_succ→adP,mod_lt→adW,le_add_right→ad6,sub_self→aeb,add_sub_cancel→aeI,sub_zero→aeO,add_assoc→aeW,succ_lt_succ→afh,mul_succ→afy,mul_le_mul_left→agd,succ_pos→ahi
open Bool renaming and_eq_true→abG,true_and→ab8,not_eq_true'→acF,or_eq_true→adM,not_eq_false'→ad7,and_assoc→ad9
open Value renaming int→abO,oneCell'→abR,pointer→ag1
open Hb renaming b→acZ
open Classical renaming not_not→adp
open List.Perm renaming append_left→adN
open Go.IntKind renaming wrap_i64→aeu
open Decidable renaming of_not_not→afA
open Eq renaming trans→agf
open List.Sublist renaming cons₂→ahm
variable {c hi er m e n B x i k j g:Nat} {l q xs b:List Nat} {w W w':World} {A E:Option Addr} {fs:List Fact} {s:dL} {r:Ending} {z:Value}
structure Pr where
 nx:Nat
 cp:Nat
 cr:Nat
 gp:Nat
 gs:List Nat
 cl:List Nat
 cu:List Nat
 tk:Nat
 ts:List Nat
 sp:List Nat
 e1:Nat
 e2:Nat
 e3:Nat
 e4:Nat
 e5:Nat
 e6:Nat
 e7:Nat
section
variable {α:Type} {b:List Nat} {a x n u:Nat} {xs:List Nat}
def nQ (b:List Nat) (a:Nat) (k:Nat->Nat->Except Nat α):Except Nat α:=if (aD (b.drop a)).2.2≠0 then .error 344 else k (aD (b.drop a)).1 (a+(aD (b.drop a)).2.1)
def mo (b:List Nat) (n a:Nat) (k:List Nat->Nat->Except Nat α):Except Nat α:=if (aV n (b.drop a)).2.2≠0 then .error 344 else k (aV n (b.drop a)).1 (a+(aV n (b.drop a)).2.1)
def cnt1 (b:List Nat) (a c hi:Nat) (k:Nat->Nat->Except Nat α):Except Nat α:=nQ b a λx e=>if x<c\/hi<x then .error 345 else k x e
theorem SF {k:Nat->Nat->Except Nat α} (h:aD (b.drop a)=(x,n,0)):nQ b a k=k x (a+n):=by unfold nQ;rw [h];rfl
def Nc {k:Nat->Nat->Except Nat α} (h:(aD (b.drop a)).2.2≠0):nQ b a k= .error 344:=if_pos h
def zjd {k:List Nat->Nat->Except Nat α} (h:aV n (b.drop a)=(xs,u,0)):mo b n a k=k xs (a+u):=by unfold mo;rw [h];rfl
def Er {k:List Nat->Nat->Except Nat α} (h:(aV n (b.drop a)).2.2≠0):mo b n a k= .error 344:=if_pos h
def zje {k:Nat->Nat->Except Nat α} (h:aD (b.drop a)=(x,n,0)) (d:¬(x<c\/hi<x)):cnt1 b a c hi k=k x (a+n):=by unfold cnt1;rw [SF h,if_neg d]
def zdg {k:Nat->Nat->Except Nat α} (h:aD (b.drop a)=(x,n,0)) (d:x<c\/hi<x):cnt1 b a c hi k= .error 345:=by unfold cnt1;rw [SF h,if_pos d]
def Nf {k:Nat->Nat->Except Nat α} {c hi:Nat} (h:(aD (b.drop a)).2.2≠0):cnt1 b a c hi k= .error 344:=Nc h
theorem zdh (b:List Nat) (a:Nat):(aD (b.drop a)).2.2≠0\/∃x n,aD (b.drop a)=(x,n,0):=by grind
theorem zdi (b:List Nat) (k a:Nat):(aV k (b.drop a)).2.2≠0\/∃xs u,aV k (b.drop a)=(xs,u,0):=by grind
theorem qyi (c:a<=abn b) (h:aD (b.drop a)=(x,n,0)):0<n/\a+n<=abn b:=by grind [xg,VR]
def zdj (d:a<=abn b) (h:aV n (b.drop a)=(xs,u,0)):abn xs=n/\n<=u/\a+u<=abn b:=by
 have c:=zdf _ _ _ _ h
 rw [abC] at c
 omega
def q7v (h:aD l=(x,n,er)) (c:(er:Int)≠0):(aD l).2.2≠0:=by rw [h];show er≠0;omega
theorem q7w (c:∀z∈b,z<256) (h:aD (b.drop a)=(x,n,0)):x<18446744073709551616:=by grind [qc6]
end
def bR (b:List Nat) (p x e:Nat):Prop:=aD (b.drop p)=(x,e-p,0)/\p<=e
def kZ (b:List Nat) (n p:Nat) (xs:List Nat) (e:Nat):Prop:=aV n (b.drop p)=(xs,e-p,0)/\p<=e
section
variable {α:Type} {b:List Nat} {p x e n:Nat} {xs:List Nat}
def bR.eq (h:bR b p x e):p+(e-p)=e:=by have:=h.2;omega
def kZ.eq (h:kZ b n p xs e):p+(e-p)=e:=by have:=h.2;omega
def bR.of (h:aD (b.drop p)=(x,m,0)):bR b p x (p+m):=⟨by rw [h,ac3],by omega⟩
def kZ.of (h:aV n (b.drop p)=(xs,m,0)):kZ b n p xs (p+m):=⟨by rw [h,ac3],by omega⟩
theorem Es (b:List Nat) (p:Nat):(aD (b.drop p)).2.2≠0\/∃x e,bR b p x e:=by
 rcases zdh b p with h|⟨x,n,h⟩
 ·exact .inl h
 ·exact .inr ⟨x,_,.of h⟩
def Et (b:List Nat) (n p:Nat):(aV n (b.drop p)).2.2≠0\/∃xs e,kZ b n p xs e:=by
 rcases zdi b n p with h|⟨xs,u,h⟩
 ·exact .inl h
 ·exact .inr ⟨xs,_,.of h⟩
def bR.go1 {k:Nat->Nat->Except Nat α} (h:bR b p x e):nQ b p k=k x e:=by rw [SF h.1,h.eq]
def kZ.goK {k:List Nat->Nat->Except Nat α} (h:kZ b n p xs e):mo b n p k=k xs e:=by rw [zjd h.1,h.eq]
def bR.goC {k:Nat->Nat->Except Nat α} (h:bR b p x e) (d:¬(x<c\/hi<x)):cnt1 b p c hi k=k x e:=by rw [zje h.1 d,h.eq]
def bR.bad {k:Nat->Nat->Except Nat α} (h:bR b p x e) (d:x<c\/hi<x):cnt1 b p c hi k= .error 345:=zdg h.1 d
def bR.in (h:bR b p x e) (c:p<=abn b):p<e/\e<=abn b:=by have:=qyi c h.1;have:=h.2;omega
def kZ.in (h:kZ b n p xs e) (c:p<=abn b):abn xs=n/\p+n<=e/\e<=abn b:=by have:=zdj c h.1;have:=h.2;omega
theorem bR.lt (h:bR b p x e) (c:∀z∈b,z<256):x<18446744073709551616:=q7w c h.1
def bR.one {e2:Nat} (h:bR b p x e) (f:bR b p c e2):c=x/\e2=e:=by
 have d:=h.1.symm.trans f.1
 injection d with d g
 injection g with g
 have:=h.2
 have:=f.2
 exact ⟨d.symm,by omega⟩
def kZ.one {e2:Nat} (h:kZ b n p xs e) (d:kZ b n p q e2):q=xs/\e2=e:=by
 have c:=h.1.symm.trans d.1
 injection c with c f
 injection f with f
 have:=h.2
 have:=d.2
 exact ⟨c.symm,by omega⟩
theorem kZ.nil (b:List Nat) (p:Nat):kZ b 0 p [] p:=⟨by rw [aeb];rfl,abr _⟩
def kZ.snoc {y f:Nat} (h:kZ b n p xs e) (c:bR b e y f):kZ b (n+1) p (xs++[y]) f:=by
 have d:=h.2
 have g:=c.2
 have:=qn0 n _ xs (e-p) y (f-e) h.1 (by rw [acQ,h.eq];exact c.1)
 exact ⟨by rw [this];congr 2;omega,by omega⟩
theorem kZ.stuck (h:kZ b n p xs e) (d:n<m) (c:(aD (b.drop e)).2.2≠0):(aV m (b.drop p)).2.2≠0:=by
 have:=qvq n (m- (n+1)) _ xs (e-p) h.1 (by rw [acQ,h.eq];exact c)
 grind
end
def qA {x p e:Nat} (h:abn q<=p) (c:p<e):abn (q++[x])<=e:=by rw [abp];show abn q+1<=e;omega
def qB {p:Nat} (h:abn q<=p) (c:abn xs=n) (d:p+n<=e):abn (q++xs)<=e:=by rw [abp];omega
theorem Ng (b:List Nat) (p c hi:Nat):(aD (b.drop p)).2.2≠0\/(∃x e,bR b p x e/\(x<c\/hi<x))\/∃x e,bR b p x e/\¬(x<c\/hi<x):=by grind [Es]
def qsx (h:m*n<=9223372036854775807):abO .i64 (Go.IntKind.i64.wrap ((m:Int)*(n:Int)))= .int .i64 ((m*n:Nat):Int):=by
 rw [<-Int.natCast_mul]
 exact za rfl h
def lH (l:List jK):Nat:=(l.getD (abn l-1) jK.zero).to
def zdk {l:List jK} (h:abn l=0):lH l=0:=by rw [List.length_eq_zero_iff] at h;subst h;rfl
def wC (b:List Nat) (nx:Nat) (e1:Nat) (cp:Nat) (c:Nat) (cr:Nat) (d:Nat) (gp:Nat) (e2:Nat) (gs:List Nat) (e3:Nat) (cl:List Nat) (e4:Nat) (cu:List Nat) (e5:Nat) (tk:Nat) (f:Nat) (ts:List Nat) (e6:Nat) (sp:List Nat) (e7:Nat):Except Nat Pr:=if e7≠abn b then .error 346 else .ok ⟨nx,cp,cr,gp,gs,cl,cu,tk,ts,sp,e1,e2,e3,e4,e5,e6,e7⟩
def SG (b:List Nat) (nx:Nat) (e1:Nat) (cp:Nat) (c:Nat) (cr:Nat) (d:Nat) (gp:Nat) (e2:Nat) (gs:List Nat) (e3:Nat) (cl:List Nat) (e4:Nat) (cu:List Nat) (e5:Nat) (tk:Nat) (f:Nat) (ts:List Nat) (e6:Nat):Except Nat Pr:=mo b (cp+3*cp*(gp-1)) e6 (wC b nx e1 cp c cr d gp e2 gs e3 cl e4 cu e5 tk f ts e6)
def SH (b:List Nat) (nx:Nat) (e1:Nat) (cp:Nat) (d:Nat) (cr:Nat) (f:Nat) (gp:Nat) (e2:Nat) (gs:List Nat) (e3:Nat) (cl:List Nat) (e4:Nat) (cu:List Nat) (e5:Nat) (tk:Nat) (c:Nat):Except Nat Pr:=mo b (8*tk) c (SG b nx e1 cp d cr f gp e2 gs e3 cl e4 cu e5 tk c)
def SK (b:List Nat) (nx:Nat) (e1:Nat) (cp:Nat) (c:Nat) (cr:Nat) (d:Nat) (gp:Nat) (e2:Nat) (gs:List Nat) (e3:Nat) (cl:List Nat) (e4:Nat) (cu:List Nat) (e5:Nat):Except Nat Pr:=cnt1 b e5 0 65535 (SH b nx e1 cp c cr d gp e2 gs e3 cl e4 cu e5)
def SL (b:List Nat) (nx:Nat) (e1:Nat) (cp:Nat) (c:Nat) (cr:Nat) (d:Nat) (gp:Nat) (e2:Nat) (gs:List Nat) (e3:Nat) (cl:List Nat) (e4:Nat):Except Nat Pr:=mo b cp e4 (SK b nx e1 cp c cr d gp e2 gs e3 cl e4)
def SN (b:List Nat) (nx:Nat) (e1:Nat) (cp:Nat) (c:Nat) (cr:Nat) (d:Nat) (gp:Nat) (e2:Nat) (gs:List Nat) (e3:Nat):Except Nat Pr:=mo b cp e3 (SL b nx e1 cp c cr d gp e2 gs e3)
def SQ (b:List Nat) (nx:Nat) (e1:Nat) (cp:Nat) (c:Nat) (cr:Nat) (d:Nat) (gp:Nat) (e2:Nat):Except Nat Pr:=mo b (2*(gp-1)) e2 (SN b nx e1 cp c cr d gp e2)
def SS (b:List Nat) (nx:Nat) (e1:Nat) (cp:Nat) (d:Nat) (cr:Nat) (c:Nat):Except Nat Pr:=cnt1 b c 1 256 (SQ b nx e1 cp d cr c)
def SV (b:List Nat) (nx:Nat) (e1:Nat) (cp:Nat) (c:Nat):Except Nat Pr:=nQ b c (SS b nx e1 cp c)
def SX (b:List Nat) (nx:Nat) (e1:Nat):Except Nat Pr:=cnt1 b e1 1 64 (SV b nx e1)
def uD (b:List Nat):Except Nat Pr:=nQ b 3 (SX b)
def Pr.nums (p:Pr):List Nat:=[p.nx,p.cp,p.cr,p.gp]++p.gs++p.cl++p.cu++[p.tk]++p.ts++p.sp
def Pr.secs (p:Pr):List jK:=[qh,⟨qb 0,3,p.e1⟩,⟨qb 1,p.e1,p.e2⟩,⟨qb 2,p.e2,p.e3⟩,⟨qb 3,p.e3,p.e4⟩,⟨qb 4,p.e4,p.e5⟩,⟨qb 5,p.e5,p.e6⟩,⟨qb 6,p.e6,p.e7⟩,⟨⟨#[115,117,109]⟩,p.e7,p.e7+4⟩]
section
variable {α:Type} {b:List Nat} {a n:Nat} {er:Nat}
theorem SY {k:Nat->Nat->Except Nat α} (h:nQ b a k= .error er):er=344\/∃x e,k x e= .error er:=by grind [nQ]
theorem IB {k:List Nat->Nat->Except Nat α} (h:mo b n a k= .error er):er=344\/∃x e,k x e= .error er:=by grind [mo]
theorem S9 {k:Nat->Nat->Except Nat α} (h:cnt1 b a c hi k= .error er):(er=344\/er=345)\/∃x e,k x e= .error er:=by grind [cnt1,SY]
end
theorem q7x (h:uD b= .error er):344<=er/\er<=346:=by
 rcases SY h with h|⟨_,_,h⟩; · omega
 rcases S9 h with h|⟨_,_,h⟩; · omega
 rcases SY h with h|⟨_,_,h⟩; · omega
 rcases S9 h with h|⟨_,_,h⟩; · omega
 rcases IB h with h|⟨_,_,h⟩; · omega
 rcases IB h with h|⟨_,_,h⟩; · omega
 rcases IB h with h|⟨_,_,h⟩; · omega
 rcases S9 h with h|⟨_,_,h⟩; · omega
 rcases IB h with h|⟨_,_,h⟩; · omega
 rcases IB h with h|⟨_,_,h⟩; · omega
 grind [wC]
def fK (l:List Nat):Except Nat Pr:=
 if abn l<15 then .error 340 else if 16777216<abn l then .error 3 else if zj l=false then .error 341 else
 if ¬(l.getD 0 0=113/\l.getD 1 0=115) then .error 342 else if l.getD 2 0≠1 then .error 343 else uD (l.take (abn l-4))
section
variable {l:List Nat}
def q7y (h:abn l<15):fK l= .error 340:=if_pos h
def zdl (h:¬abn l<15) (c:16777216<abn l):fK l= .error 3:=by unfold fK;rw [if_neg h,if_pos c]
def zjf (h:¬abn l<15) (c:¬16777216<abn l) (d:zj l=false):fK l= .error 341:=by unfold fK;rw [if_neg h,if_neg c,if_pos d]
theorem qsy (h:¬abn l<15) (c:¬16777216<abn l) (d:zj l=true) (f:¬(l.getD 0 0=113/\l.getD 1 0=115)):fK l= .error 342:=by grind [fK]
theorem qvt (h:¬abn l<15) (c:¬16777216<abn l) (d:zj l=true) (f:l.getD 0 0=113/\l.getD 1 0=115) (g:l.getD 2 0≠1):fK l= .error 343:=by grind [fK]
theorem zjg (h:¬abn l<15) (c:¬16777216<abn l) (d:zj l=true) (f:l.getD 0 0=113/\l.getD 1 0=115) (g:l.getD 2 0=1):fK l=uD (l.take (abn l-4)):=by grind [fK]
def Ta (h:fK l= .error er):1<=er/\er<=346:=by
 unfold fK at h
 split at h
 ·injection h with h;omega
 ·split at h
  ·injection h with h;omega
  ·split at h
   ·injection h with h;omega
   ·split at h
    ·injection h with h;omega
    ·split at h
     ·injection h with h;omega
     ·have:=q7x h;omega
end
section
variable {l:List Nat} {p:Pr} {k:Nat}
end
theorem IC {a:Nat} (h:Rd w B 1 A (abn b) (b.map B8)) (d:a<=abn b) (hc:abn b<=c):Rd w B 1 (if c=a then A else A.map (·.add (a*1))) (abn (b.drop a)) ((b.drop a).map B8):=by
 have f:=h.xC (i:=a) (j:=abn b) d (abr _) hc
 grind
def zdm {c:Nat} (h:aD l=(x,n,er)) (hr:Rd w w.heap.size 1 A (abn l) (l.map B8)) (d:∀b∈l,b<256) (f:abn l<=200000000000000):
  Calls abo 52 #[.slice A (abn l) c] w (Is w (.tuple #[.int .u64 (x:Int),.int .i64 (n:Int),.int .i64 (er:Int)])):=by
 have:=K3 A (abn l) c l w hr d f
 rw [h] at this
 exact this
def gK:TypeId:=27
def Nh (k:Int) (w:World) (c:Mem W w fs):Calls abo 283 #[.int .i64 k] w (kQ W fs (qO gK k)):=by
 refine yh (vs:=[.int .i64 k]) Tryz.func283 rfl rfl kr (σ0:=[(0,.int .i64 k)]) rfl ?_
 intro a Z
 refine zn ?_
 refine fp Z 1 0 [(2,.int .i64 k)] λa Z=>fy Z c 1 rfl rfl rfl (Yl.makeInterface rfl rfl) λa Z=>?_
 refine fo Z 2 rfl rfl ?_
 refine zja Z rfl rfl ?_
 exact Ep Z ⟨rfl,c⟩
def q7z {gs:List Fact} {i g:Nat} (k x:Int) (w:World) (c:Mem W w fs) (hi:fs[i]?=some (.blk g #[.int .i64 x] gK)) (f:fs.set i (.blk g #[.int .i64 k] gK)=gs):CallsD abo 278 [ag1 (some ⟨g,0,none⟩)].toArray (.panicking (qO gK k)) w (oM W gs):=by
 subst f
 refine qjy ahc rfl rfl kr (σ0:=[(0,.pointer (some ⟨g,0,none⟩))]) rfl λc₀ h a d Z=>?_
 refine wpS_seq (wpS_region ?_)
 refine qjx (i:=0) (v:= .iface gK (.int .i64 k)) (cs':={c₀ with mode:= .panicking [{v:= .iface gK (.int .i64 k),recovered:=true}]}::h) Z rfl rfl rfl rfl de (.inl (by unfold qO at d;simp [recoverD,d])) λa Z=>?_
 refine qsv (i:=1) Z rfl rfl rfl rfl de λa Z=>?_
 refine wpS_of_wp (wp_seq ?_)
 refine zn ?_
 refine fp Z 1 0 [(6,.iface gK (.int .i64 k))] λa Z=>fy Z c 1 rfl rfl rfl (aaU rfl rfl) λa Z=>?_
 refine fp Z 5 2 [(2,.int .i64 k),(3,.bool true)] λa Z=>xZ rfl ?_
 refine wp_seq (wp_seq ?_)
 refine zn ?_
 refine fp Z 1 0 [(10,.iface gK (.int .i64 k))] λa Z=>fy Z c 1 rfl rfl rfl (aa9 rfl rfl rfl) λa Z=>?_
 refine fp Z 4 2 [(15,.bool false)] λa Z=>xZ rfl ?_
 refine Ot Z rfl (wp_skip ?_)
 refine zn ?_
 refine fp Z 1 0 [(17,.int .i64 k)] λa Z=>fo Z 1 rfl rfl ?_
 refine qG Z c (i:=i) rfl rfl rfl rfl kr rfl hi (by simp) λj c=>?_
 refine xZ rfl ?_
 exact qsw rfl Z ⟨rfl,rfl,c⟩
def q13 {gs:List Fact} {i g:Nat} (x:Int) (w:World) (c:Mem W w fs) (hi:fs[i]?=some (.blk g #[.int .i64 x] gK)) (f:fs.set i (.blk g #[.int .i64 0] gK)=gs):CallsD abo 278 [ag1 (some ⟨g,0,none⟩)].toArray .returning w (oM W gs):=by
 subst f
 refine qjy ahc rfl rfl kr (σ0:=[(0,.pointer (some ⟨g,0,none⟩))]) rfl λc₀ h a d Z=>?_
 refine wpS_seq (wpS_region ?_)
 refine qjx (i:=0) (v:= .nilIface) (cs':=c₀::h) Z rfl rfl rfl rfl de (.inr ⟨by simp [recoverD,d],rfl,rfl⟩) λa Z=>?_
 refine qsv (i:=1) Z rfl rfl rfl rfl de λa Z=>?_
 refine wpS_of_wp (wp_seq ?_)
 refine zn ?_
 refine fp Z 1 0 [(6,.nilIface)] λa Z=>fy Z c 1 rfl rfl rfl (abh (z:= .int .i64 0) rfl rfl kr) λa Z=>?_
 refine fp Z 5 2 [(2,.int .i64 0),(3,.bool false)] λa Z=>xZ rfl ?_
 refine wp_seq (wp_seq ?_)
 refine zn ?_
 refine fp Z 1 0 [(10,.nilIface)] λa Z=>fy Z c 1 rfl rfl rfl (aaZ rfl rfl) λa Z=>?_
 refine fp Z 4 2 [(15,.bool false)] λa Z=>xZ rfl ?_
 refine Ot Z rfl (wp_skip ?_)
 refine zn ?_
 refine fp Z 1 0 [(17,.int .i64 0)] λa Z=>fo Z 1 rfl rfl ?_
 refine qG Z c (i:=i) rfl rfl rfl rfl kr rfl hi (by simp) λj c=>?_
 refine xZ rfl ?_
 have hc:c₀={c₀ with mode:=FrameMode.returning}:=by cases c₀;simp at d;rw [d]
 rw [hc]
 exact qsw rfl Z ⟨rfl,rfl,c⟩
section
variable {α:Type} {b:List Nat} {a n:Nat} {p:α}
def qyk {k:Nat->Nat->Except Nat α} (h:nQ b a k= .ok p):∃x e,bR b a x e/\k x e= .ok p:=by
 rcases Es b a with c|⟨x,e,c⟩
 ·rw [Nc c] at h;cases h
 ·rw [c.go1] at h;exact ⟨x,e,c,h⟩
def IE {k:List Nat->Nat->Except Nat α} (h:mo b n a k= .ok p):∃xs e,kZ b n a xs e/\k xs e= .ok p:=by
 rcases Et b n a with c|⟨x,e,c⟩
 ·rw [Er c] at h;cases h
 ·rw [c.goK] at h;exact ⟨x,e,c,h⟩
def Tc {k:Nat->Nat->Except Nat α} (h:cnt1 b a c hi k= .ok p):∃x e,bR b a x e/\(c<=x/\x<=hi)/\k x e= .ok p:=by
 rcases Ng b a c hi with d|⟨x,e,d,f⟩|⟨x,e,d,f⟩
 ·rw [Nf d] at h;cases h
 ·rw [d.bad f] at h;cases h
 ·rw [d.goC f] at h;exact ⟨x,e,d,by omega,h⟩
end
section
variable {b:List Nat} {p x e n:Nat} {xs:List Nat}
def bR.bytes (h:bR b p x e) (c:∀z∈b,z<256):b.drop p=ak x++b.drop e:=by
 rw [Pq (λz hz=>c z (abL hz)) h.1]
 have:=ab1 (e-p) (b.drop p)
 rw [acQ,h.eq] at this
 exact this.symm
def kZ.bytes (h:kZ b n p xs e) (c:∀z∈b,z<256):b.drop p=xs.flatMap ak++b.drop e/\∀x∈xs,x<18446744073709551616:=by
 obtain ⟨d,_,f,_⟩:=XL n _ xs _ (λz hz=>c z (abL hz)) h.1
 refine ⟨?_,f⟩
 rw [d]
 have:=ab1 (e-p) (b.drop p)
 rw [acQ,h.eq] at this
 exact this.symm
end
structure Pr.Fit (p:Pr):Prop where
 cp1:1<=p.cp
 cp2:p.cp<=64
 gp1:1<=p.gp
 IG:p.gp<=256
 tk:p.tk<=65535
 gs:abn p.gs=2*(p.gp-1)
 cl:abn p.cl=p.cp
 cu:abn p.cu=p.cp
 ts:abn p.ts=8*p.tk
 sp:abn p.sp=p.cp+3*p.cp*(p.gp-1)
 lt:∀x∈p.nums,x<18446744073709551616
variable {p:Pr}
def zjh (hb:3<=abn b) (c:∀z∈b,z<256) (h:uD b= .ok p):p.Fit/\b.drop 3=p.nums.flatMap ak:=by
 obtain ⟨nx,e1,j,h⟩:=qyk h
 obtain ⟨cp,M,k,r,h⟩:=Tc h
 obtain ⟨cr,N,l,h⟩:=qyk h
 obtain ⟨gp,e2,m,s,h⟩:=Tc h
 obtain ⟨gs,e3,t,h⟩:=IE h
 obtain ⟨cl,e4,u,h⟩:=IE h
 obtain ⟨cu,e5,v,h⟩:=IE h
 obtain ⟨tk,O,o,H,h⟩:=Tc h
 obtain ⟨ts,e6,w,h⟩:=IE h
 obtain ⟨sp,e7,f,h⟩:=IE h
 unfold wC at h
 split at h
 ·cases h
 rename_i P
 injection h with h
 subst h
 have I:=j.in hb
 have J:=k.in I.2
 have K:=l.in J.2
 have L:=m.in K.2
 have y:=t.in L.2
 have A:=u.in y.2.2
 have B:=v.in A.2.2
 have i8:=o.in B.2.2
 have C:=w.in i8.2
 have q:=f.in C.2.2
 have D:=t.bytes c
 have E:=u.bytes c
 have F:=v.bytes c
 have G:=w.bytes c
 have g:=f.bytes c
 have i:b.drop e7=[]:=adx om
 refine ⟨⟨r.1,r.2,s.1,s.2,H.2,y.1,A.1,B.1,C.1,q.1,λx d=>?_⟩,?_⟩
 ·simp only [Pr.nums,ab6,abS,aci,or_false] at d
  rcases d with (((((((rfl|rfl|rfl|rfl)|d)|d)|d)|rfl)|d)|d)
  ·exact j.lt c
  ·exact k.lt c
  ·exact l.lt c
  ·exact m.lt c
  ·exact D.2 x d
  ·exact E.2 x d
  ·exact F.2 x d
  ·exact o.lt c
  ·exact G.2 x d
  ·exact g.2 x d
 ·rw [j.bytes c,k.bytes c,l.bytes c,m.bytes c,D.1,E.1,F.1,o.bytes c,G.1,g.1,i]
  simp [Pr.nums]
def bL (x:Nat):Int:=Go.IntKind.i64.wrap (x:Int)
def aC:Nat:=4611686018427387904
def bZ {α:Type} (n:Nat) (f:Nat->α):List α:=(acp n).map f
theorem rG {α:Type} (n:Nat) (f:Nat->α):abn (bZ n f)=n:=by simp [bZ]
def y7 {α:Type} (n:Nat) (f:Nat->α):bZ (n+1) f=bZ n f++[f n]:=by unfold bZ;rw [agK,abU];rfl
theorem Dg {α:Type} {f:Nat->α} {d:α} (h:i<n):(bZ n f).getD i d=f i:=by grind [bZ]
def zdn {α β:Type} (n:Nat) (f:Nat->α) (g:α->β):(bZ n f).map g=bZ n λi=>g (f i):=by unfold bZ;rw [afm];rfl
theorem qsz (h:abn l=n) (f:Nat->Int):(bZ n λi=>f (l.getD i 0))=l.map f:=by
 subst h
 refine List.ext_getElem (by simp [bZ]) λi a b=>?_
 grind [bZ]
def Pr.iL (p:Pr) (g:Nat):Gr:=if g=0 then ⟨0,1⟩ else ⟨bL (p.gs.getD (2*(g-1)) 0),bL (p.gs.getD (2*(g-1)+1) 0)⟩
def Pr.tn (p:Pr) (i j:Nat):Nat:=p.ts.getD (8*i+j) 0
def Pr.sj (p:Pr):Nat->Int
 |0=>0
 |i+1=>if 65535<Go.IntKind.i64.wrap (p.sj i+bL (p.tn i 0)) then 65535 else Go.IntKind.i64.wrap (p.sj i+bL (p.tn i 0))
def Pr.lY (p:Pr) (i:Nat):Int:=Go.IntKind.i64.wrap (p.sj i+bL (p.tn i 0))
def Pr.tQ (p:Pr) (i:Nat):Tk:=⟨p.lY i,bL (p.tn i 1),bL (p.tn i 2),bL (p.tn i 3),p.tn i 4,decide (p.tn i 5=1),p.tn i 6,p.tn i 7%4294967296⟩
def Pr.so (p:Pr) (g c:Nat):Nat:=if g=0 then c else p.cp+3*p.cp*(g-1)+3*c
def Pr.sn (p:Pr) (g c j:Nat):Nat:=p.sp.getD (p.so g c+j) 0
def Pr.rH (p:Pr) (g c:Nat):Sp:=if g=0 then ⟨0,0,p.sn g c 0⟩ else ⟨p.sn g c 0,p.sn g c 1%4294967296,p.sn g c 2⟩
def Pr.row (p:Pr) (g:Nat):List Sp:=bZ p.cp (p.rH g)
def Pr.qP (p:Pr):dL:=⟨bL p.nx,⟨(p.cp:Int),p.cr,none,0,bZ p.gp p.iL,none,0,p.cl.map bL,none,0,p.cu.map bL,none,0,bZ p.tk p.tQ,none,0,bZ p.gp λg=>⟨none,0,p.row g⟩⟩⟩
def dle (x m:Nat):Bool:=decide (x<=m)
def Pr.ok0 (p:Pr):Bool:=(((true&&dle p.nx aC)&&dle p.cp aC)&&dle p.cr 18446744073709551615)&&dle p.gp aC
def Pr.o8 (p:Pr):Nat->Bool
 |0=>p.ok0
 |g+1=>if g=0 then p.ok0 else (p.o8 g&&dle (p.gs.getD (2*(g-1)) 0) aC)&&dle (p.gs.getD (2*(g-1)+1) 0) aC
def Pr.y8 (p:Pr):Nat->Bool
 |0=>p.o8 p.gp
 |k+1=>p.y8 k&&dle (p.cl.getD k 0) aC
def Pr.wD (p:Pr):Nat->Bool
 |0=>p.y8 p.cp
 |k+1=>p.wD k&&dle (p.cu.getD k 0) aC
def Pr.jI (p:Pr):Nat->Bool
 |0=>p.wD p.cp&&dle p.tk aC
 |i+1=>((((((((p.jI i&&dle (p.tn i 0) aC)&&dle (p.tn i 1) aC)&&dle (p.tn i 2) aC)&&dle (p.tn i 3) aC)&&dle (p.tn i 4) 18446744073709551615)&&dle (p.tn i 5) 1)&&dle (p.tn i 6) 18446744073709551615)&&dle (p.tn i 7) 4294967295)&&decide (p.lY i<=65535)
def Pr.lZ (p:Pr) (base:Bool) (g:Nat):Nat->Bool
 |0=>base
 |c+1=>if g=0 then p.lZ base g c&&dle (p.sn g c 0) 18446744073709551615 else ((p.lZ base g c&&dle (p.sn g c 0) 18446744073709551615)&&dle (p.sn g c 1) 4294967295)&&dle (p.sn g c 2) 18446744073709551615
def Pr.mW (p:Pr):Nat->Bool
 |0=>p.jI p.tk
 |g+1=>p.lZ (p.mW g) g p.cp
def Pr.okB (p:Pr):Bool:=p.mW p.gp
section
variable {p:Pr} (h:p.Fit)
def Pr.oC (p:Pr):Nat:=4+2*(p.gp-1)
def Pr.oT (p:Pr):Nat:=p.oC+2*p.cp
def Pr.oS (p:Pr):Nat:=p.oT+1+8*p.tk
theorem Ni {l m:List Nat} (hk:k<abn l):(l++m).getD k 0=l.getD k 0:=by grind
theorem Eu {l m:List Nat} (hk:k=abn l+j):(l++m).getD k 0=m.getD j 0:=by grind
def zdo (p:Pr):p.nums.getD 0 0=p.nx/\p.nums.getD 1 0=p.cp/\p.nums.getD 2 0=p.cr/\p.nums.getD 3 0=p.gp:=by
 unfold Pr.nums
 simp [abu]
include h in
theorem zdp:p.nums.length=p.oS+p.sp.length/\p.sp.length=p.cp+3*p.cp*(p.gp-1):=by
 unfold Pr.nums Pr.oS Pr.oT Pr.oC
 simp only [List.length_append,List.length_cons,List.length_nil,h.gs,h.cl,h.cu,h.ts]
 exact ⟨by omega,h.sp⟩
include h in
theorem q70 {j:Nat} (a:j<2*(p.gp-1)):p.nums.getD (4+j) 0=p.gs.getD j 0:=by
 have:=h.gs
 unfold Pr.nums
 rw [List.append_assoc,List.append_assoc,List.append_assoc,List.append_assoc,List.append_assoc,Eu (l:=[p.nx,p.cp,p.cr,p.gp]) (k:=4+j) (j:=j) rfl,Ni om]
include h in
theorem zji {j:Nat} (a:j<p.cp):p.nums.getD (p.oC+j) 0=p.cl.getD j 0:=by
 have:=h.gs
 have:=h.cl
 unfold Pr.nums Pr.oC
 rw [List.append_assoc,List.append_assoc,List.append_assoc,List.append_assoc,Eu (j:=j) (by simp only [List.length_append,List.length_cons,List.length_nil];omega),Ni om]
include h in
theorem zjj {j:Nat} (a:j<p.cp):p.nums.getD (p.oC+p.cp+j) 0=p.cu.getD j 0:=by
 have:=h.gs
 have:=h.cl
 have:=h.cu
 unfold Pr.nums Pr.oC
 rw [List.append_assoc,List.append_assoc,List.append_assoc,Eu (j:=j) (by simp only [List.length_append,List.length_cons,List.length_nil];omega),Ni om]
include h in
theorem zjk:p.nums.getD p.oT 0=p.tk:=by
 have:=h.gs
 have:=h.cl
 have:=h.cu
 unfold Pr.nums Pr.oT Pr.oC
 rw [List.append_assoc,List.append_assoc,Eu (j:=0) (by simp only [List.length_append,List.length_cons,List.length_nil];omega)]
 rfl
include h in
theorem AO {j:Nat} (a:j<8*p.tk):p.nums.getD (p.oT+1+j) 0=p.ts.getD j 0:=by
 have:=h.gs
 have:=h.cl
 have:=h.cu
 have:=h.ts
 unfold Pr.nums Pr.oT Pr.oC
 rw [List.append_assoc,Eu (j:=j) (by simp only [List.length_append,List.length_cons,List.length_nil];omega),Ni om]
include h in
theorem Nj (j:Nat):p.nums.getD (p.oS+j) 0=p.sp.getD j 0:=by
 have:=h.gs
 have:=h.cl
 have:=h.cu
 have:=h.ts
 unfold Pr.nums Pr.oS Pr.oT Pr.oC
 rw [Eu (j:=j) (by simp only [List.length_append,List.length_cons,List.length_nil];omega)]
def y9 (p:Pr) (c:Nat):p.so 0 c=c:=if_pos rfl
def tT (a:0<g) (c:Nat):p.so g c=p.cp+3*p.cp*(g-1)+3*c:=if_neg om
def Nk {g:Nat}:p.so (g+1) 0=p.so g p.cp:=by
 rw [tT om]
 rcases acr g with a|a
 ·subst a;rw [y9];omega
 ·rw [tT a,show g+1-1=(g-1)+1 by omega,afy];omega
include h in
theorem II (b:g<p.gp) (hc:c<p.cp):p.so g c+(if g=0 then 1 else 3)<=p.sp.length:=by
 rw [h.sp]
 rcases Nat.eq_zero_or_pos g with a|a
 ·subst a;rw [y9,if_pos rfl];omega
 ·rw [tT a,if_neg om]
  have:3*p.cp*(g-1)+3*p.cp<=3*p.cp*(p.gp-1):=by
   rw [<-Nat.mul_succ]
   exact Nat.mul_le_mul_left _ om
  omega
end
def dR (A:Option Addr) (c:Nat):Nat->Option Addr
 |0=>A
 |k+1=>if c-k=1 then dR A c k else (dR A c k).map (·.add (1*1))
def Td {w:World} {B c:Nat} {A:Option Addr} {q:List Nat} (h:Rd w B 1 A (abn q) (q.map bD)) (hc:abn q<=c):∀k,k<=abn q->Rd w B 1 (dR A c k) (abn q-k) ((q.drop k).map bD)
 |0,_=>h
 |k+1,d=>by
  have b:=Td h hc k om
  have a:=b.mid (i:=1) (j:=abn q-k) (c:=c-k) om (abr _) om
  simp only [Nat.mul_one] at a
  rw [<-List.map_take,<-List.map_drop,abI (by rw [abC];omega),acQ] at a
  rw [show abn q- (k+1)=abn q-k-1 by omega]
  exact a
def zmo {B c k m oS:Nat} (h:Rd w B 1 A (abn q) (q.map bD)) (hc:abn q<=c) (hk:k<abn q) (b:dR A c k=some ⟨m,oS,none⟩):w.cell? ⟨m,oS,none⟩=some (.int .u64 (q.getD k 0:Int)):=by
 have a:=Td h hc k om
 rw [b] at a
 have d:=a.Bu (k:=0) (uM (F:=bD) (x:=q.getD k 0) (by rw [ade,abt,acE,abq hk];rfl))
 rwa [Nat.zero_mul,acE] at d
def Nl (x:Nat):bL x=((x:Int)+9223372036854775808)%18446744073709551616-9223372036854775808:=by unfold bL;rw [aeu]
theorem Ew (h:x<18446744073709551616):aL (bL x)=x:=by rw [Nl];unfold aL;omega
def zjl (h:x<18446744073709551616) (a:0<=bL x):bL x=x:=by rw [Nl] at*;omega
def Te (h:x<=4611686018427387904):bL x=x:=by rw [Nl];omega
def qyl {a:Int} (h:x<18446744073709551616):aL (Go.IntKind.i64.wrap (a+bL x)-a)=x:=by rw [aeu,Nl];unfold aL;omega
def Pr.nE (p:Pr):Nat->Int
 |0=>0
 |i+1=>Go.IntKind.i64.wrap (p.nE i+bL (p.tn i 0))
def Pr.mX (p:Pr) (i:Nat):Tk:=⟨p.nE (i+1),bL (p.tn i 1),bL (p.tn i 2),bL (p.tn i 3),p.tn i 4,decide (0<p.tn i 5),p.tn i 6,p.tn i 7%4294967296⟩
def Pr.jR (p:Pr):dL:=⟨bL p.nx,⟨(p.cp:Int),p.cr,none,0,bZ p.gp p.iL,none,0,p.cl.map bL,none,0,p.cu.map bL,none,0,bZ p.tk p.mX,none,0,bZ p.gp λg=>⟨none,0,p.row g⟩⟩⟩
def zft (p:Pr) (i:Nat):p.sj (i+1)=if 65535<p.lY i then 65535 else p.lY i:=rfl
theorem IJ {p:Pr}:∀i,(∀j,j<i->p.lY j<=65535)->p.sj i=p.nE i
 |0,_=>rfl
 |i+1,h=>by
  have a:=IJ i λj b=>h j om
  have c:=h i om
  rw [zft,if_neg om]
  unfold Pr.lY
  rw [a]
  rfl
def IK {p:Pr}:∀i,(∀j,j<i->p.nE (j+1)<=65535)->p.sj i=p.nE i
 |0,_=>rfl
 |i+1,h=>by
  have a:=IK i λj c=>h j om
  have d:=h i om
  have b:p.lY i=p.nE (i+1):=by unfold Pr.lY;rw [a];rfl
  rw [zft,if_neg om,b]
def AP (h:p.sj i=p.nE i):p.lY i=p.nE (i+1):=by unfold Pr.lY;rw [h];rfl
def Tf {α:Type} (l:List α) (o:Nat->Nat) (a:o 0=0) (b:∀i,o i<=o (i+1)):∀k,(gI k λi=>(l.drop (o i)).take (o (i+1)-o i))=l.take (o k)
 |0=>by rw [GI,a,List.take_zero]
 |k+1=>by
  rw [zp,Tf l o a b k,<-List.take_add]
  congr 1
  have:=b k
  omega
theorem zjm (l:List Nat):∀(m a:Nat),a+m<=abn l->(l.drop a).take m=(acp m).map λj=>l.getD (a+j) 0:=by intro x;induction x<;>grind [abq,agK,ado]
theorem uE {α:Type} {f g:Nat->List α} (h:∀i,i<k->f i=g i):gI k f=gI k g:=MH k h
theorem Nn (h:abn l=m*k):l=gI k λi=>(acp m).map λj=>l.getD (m*i+j) 0:=by
 have a:=Tf l (λi=>m*i) rfl (λi=>by show m*i<=m*(i+1);rw [afy];omega) k
 rw [abI (show abn l<=m*k by omega)] at a
 refine a.symm.trans (uE λi hi=>?_)
 show (l.drop (m*i)).take (m*(i+1)-m*i)=_
 have b:m*(i+1)<=m*k:=agd _ hi
 grind [zjm]
theorem Np {α:Type} {f g:Nat->List α}:∀k,(∀i,i<k->abn (f i)=abn (g i))->gI k f=gI k g->∀i,i<k->f i=g i:=by intro x;induction x<;>grind [gI,zp,agN,adZ,abp,ab5]
def Ey {α:Type} {f g:Nat->List α}:∀k,(∀i,i<k->abn (f i)=abn (g i))->abn (gI k f)=abn (gI k g)
 |0,_=>rfl
 |k+1,h=>by rw [zp,zp,abp,abp,Ey k (λi hi=>h i om),h k om]
def Pr.sec (p:Pr):Nat->List Nat
 |0=>[p.nx]
 |1=>[p.cp,p.cr,p.gp]
 |2=>p.gs
 |3=>p.cl
 |4=>p.cu
 |5=>p.tk::p.ts
 |6=>p.sp
 |_=>[]
theorem qym (p:Pr):p.nums=gI 7 p.sec:=by simp_all [Pr.nums,Pr.sec,zp,GI]
structure Pr.Low (p:Pr):Prop where
 t5:∀i,i<p.tk->p.tn i 5<=1
 t7:∀i,i<p.tk->p.tn i 7<=4294967295
 s1:∀g,g<p.gp->0<g->∀c,c<p.cp->p.sn g c 1<=4294967295
section
variable {p:Pr}
def zmp (x:Nat) (h:x∈p.gs):x∈p.nums:=by simp [Pr.nums,h]
def zfu (x:Nat) (h:x∈p.cl):x∈p.nums:=by simp [Pr.nums,h]
def zfv (x:Nat) (h:x∈p.cu):x∈p.nums:=by simp [Pr.nums,h]
def zmq (x:Nat) (h:x∈p.ts):x∈p.nums:=by simp [Pr.nums,h]
def zmr (x:Nat) (h:x∈p.sp):x∈p.nums:=by simp [Pr.nums,h]
theorem IL (h:∀x∈l,x<n) (a:0<n) (k:Nat):l.getD k 0<n:=by grind [abq,List.getElem?_eq_none,List.getElem_mem,ab5]
variable (h:p.Fit)
include h
theorem wE (k:Nat):p.gs.getD k 0<18446744073709551616:=IL (λx a=>h.lt x (zmp x a)) de k
theorem IQ (k:Nat):p.cl.getD k 0<18446744073709551616:=IL (λx a=>h.lt x (zfu x a)) de k
theorem AQ (k:Nat):p.cu.getD k 0<18446744073709551616:=IL (λx a=>h.lt x (zfv x a)) de k
theorem iT (i j:Nat):p.tn i j<18446744073709551616:=IL (λx a=>h.lt x (zmq x a)) de _
theorem wF (g c j:Nat):p.sn g c j<18446744073709551616:=IL (λx a=>h.lt x (zmr x a)) de _
theorem AU:p.nx<18446744073709551616:=h.lt _ (by simp [Pr.nums])
theorem wG:p.cr<18446744073709551616:=h.lt _ (by simp [Pr.nums])
theorem zdq:p.gs=gI (p.gp-1) λi=>[p.gs.getD (2*i) 0,p.gs.getD (2*i+1) 0]:=Nn h.gs
theorem Tg:p.ts=gI p.tk λi=>[p.tn i 0,p.tn i 1,p.tn i 2,p.tn i 3,p.tn i 4,p.tn i 5,p.tn i 6,p.tn i 7]:=Nn h.ts
theorem zms (e:g<p.gp):(p.sp.drop (p.so g 0)).take (p.so (g+1) 0-p.so g 0)=gI p.cp λc=>if g=0 then [p.sn g c 0] else [p.sn g c 0,p.sn g c 1,p.sn g c 2]:=by
 have hs:=h.sp
 rcases acr g with a|a
 ·subst a
  have e1:p.so (0+1) 0=p.cp:=by rw [Nk,y9]
  rw [e1,y9,aeO,afS]
  have b:abn (p.sp.take p.cp)=1*p.cp:=by rw [abv];omega
  refine (Nn b).trans (uE λc hc=>?_)
  rw [if_pos rfl]
  show [(p.sp.take p.cp).getD (1*c+0) 0]=[p.sp.getD (p.so 0 c+0) 0]
  rw [y9,abt,abt,afC om,Nat.one_mul]
 ·have e1:p.so (g+1) 0=p.so g 0+3*p.cp:=by rw [Nk,tT a,tT a,Nat.mul_zero,acE]
  have d:p.so g 0+3*p.cp<=abn p.sp:=by
   rw [tT a,hs]
   have:3*p.cp*(g-1)+3*p.cp<=3*p.cp*(p.gp-1):=by
    rw [<-afy]
    exact agd _ om
   omega
  rw [e1,ac3]
  have b:abn ((p.sp.drop (p.so g 0)).take (3*p.cp))=3*p.cp:=by rw [abv,abC];omega
  refine (Nn b).trans (uE λc hc=>?_)
  rw [if_neg om]
  have e2:∀j,j<3->((p.sp.drop (p.so g 0)).take (3*p.cp)).getD (3*c+j) 0=p.sn g c j:=λj f=>by
   unfold Pr.sn
   rw [abt,abt,afC om,ade,tT a,tT a]
   congr 2
   omega
  show [((p.sp.drop (p.so g 0)).take (3*p.cp)).getD (3*c+0) 0,((p.sp.drop (p.so g 0)).take (3*p.cp)).getD (3*c+1) 0,((p.sp.drop (p.so g 0)).take (3*p.cp)).getD (3*c+2) 0]=_
  rw [e2 0 om,e2 1 om,e2 2 om]
theorem Ti:p.sp=gI p.gp λg=>gI p.cp λc=>if g=0 then [p.sn g c 0] else [p.sn g c 0,p.sn g c 1,p.sn g c 2]:=by
 have b:=Tf p.sp (λg=>p.so g 0) (y9 p 0) (λg=>by
  show p.so g 0<=p.so (g+1) 0
  rw [Nk]
  rcases acr g with a|a
  ·subst a;rw [y9];omega
  ·rw [tT a,tT a];omega) p.gp
 have d:p.so p.gp 0=abn p.sp:=by rw [tT h.gp1,h.sp];omega
 rw [d,adr] at b
 exact b.symm.trans (uE λg e=>zms h e)
end
def IU (p:Pr) {i:Nat} (hi:i<=p.tk):qx (bZ p.tk p.mX) i=p.nE i:=by
 cases i with
 |zero=>rfl
 |succ i=>rw [GK,Dg om];rfl
theorem zA (h:p.Fit):(∀i,i<7->abn (aN p.jR i)=abn (p.sec i))/\((∀i,i<7->aN p.jR i=p.sec i)↔p.Low):=by
 have k:aN p.jR 2=p.gs:=by
  show gI (abn (bZ p.gp p.iL)-1) (yP (bZ p.gp p.iL))=p.gs
  grind [Pr.iL,yP,wE,zdq,Dg,rG,Ew,uE]
 have hm:∀l:List Nat,(∀x∈l,x<18446744073709551616)->(l.map bL).map aL=l:=λl a=>by
  rw [afm]
  exact (af3 λx b=>Ew (a x b)).trans (List.map_id l)
 have f:aN p.jR 5=p.tk::gI p.tk λi=>[p.tn i 0,p.tn i 1,p.tn i 2,p.tn i 3,p.tn i 4,if decide (0<p.tn i 5)=true then 1 else 0,p.tn i 6,p.tn i 7%4294967296]:=by
  show (abn (bZ p.tk p.mX)::gI (abn (bZ p.tk p.mX)) λi=>rD (qx (bZ p.tk p.mX) i) ((bZ p.tk p.mX).getD i Tk.zero))=_
  rw [rG]
  congr 1
  refine uE λi hi=>?_
  rw [IU p om,Dg hi]
  show [aL (Go.IntKind.i64.wrap (p.nE i+bL (p.tn i 0))-p.nE i),aL (bL (p.tn i 1)),aL (bL (p.tn i 2)),aL (bL (p.tn i 3)),_,_,_,_]=_
  rw [qyl (iT h i 0),Ew (iT h i 1),Ew (iT h i 2),Ew (iT h i 3)]
  rfl
 have j:aN p.jR 6=gI p.gp λg=>gI p.cp λc=>if g=0 then [p.sn g c 0] else [p.sn g c 0,p.sn g c 1%4294967296,p.sn g c 2]:=by
  show (gI (abn (bZ p.gp λg=>(⟨none,0,p.row g⟩:Rw))) λg=>yQ g ((bZ p.gp λg=>(⟨none,0,p.row g⟩:Rw)).getD g Rw.zero).l)=_
  rw [rG]
  refine uE λg e=>?_
  rw [Dg e]
  show gI (abn (p.row g)) (λc=>vL g ((p.row g).getD c Sp.zero))=_
  grind [Pr.row,Pr.rH,Dg,rG,Zp,Zq,uE]
 have m:aN p.jR 0=p.sec 0:=by show [aL (bL p.nx)]=[p.nx];rw [Ew (AU h)]
 have n:aN p.jR 1=p.sec 1:=by
  show [aL (p.cp:Int),p.cr,abn (bZ p.gp p.iL)]=[p.cp,p.cr,p.gp]
  have:=h.cp2
  rw [rG,Zo om]
 have o:aN p.jR 3=p.sec 3:=hm p.cl λx b=>h.lt x (zfu x b)
 have q:aN p.jR 4=p.sec 4:=hm p.cu λx b=>h.lt x (zfv x b)
 constructor
 ·intro i hi
  match i,hi with
  |0,_=>rw [m]
  |1,_=>rw [n]
  |2,_=>rw [k];rfl
  |3,_=>rw [o]
  |4,_=>rw [q]
  |5,_=>
   rw [f]
   refine congrArg (· +1) (agf ?_ (congrArg adZ (Tg h).symm))
   exact Ey p.tk λi _=>rfl
  |6,_=>
   rw [j]
   refine agf ?_ (congrArg adZ (Ti h).symm)
   exact Ey p.gp λg _=>Ey p.cp λc _=>by split<;>rfl
 ·constructor
  ·intro r
   have e5:=r 5 om
   have e6:=r 6 om
   rw [f] at e5
   rw [j] at e6
   replace e5:=(List.cons.inj e5).2
   rw [Tg h] at e5
   replace e6:_=p.sp:=e6
   rw [Ti h] at e6
   have s:=Np p.tk (λi _=>by rfl) e5
   have t:=Np p.gp (λg _=>Ey p.cp λc _=>by split<;>rfl) e6
   refine ⟨λi hi=>?_,λi hi=>?_,λg e d c hc=>?_⟩
   ·grind
   ·grind
   ·grind [Np]
  ·intro a i hi
   match i,hi with
   |0,_=>exact m
   |1,_=>exact n
   |2,_=>exact k
   |3,_=>exact o
   |4,_=>exact q
   |5,_=>
    rw [f]
    show _=p.tk::p.ts
    congr 1
    refine agf (uE λi hi=>?_) (Tg h).symm
    have u:=a.t5 i hi
    have v:=a.t7 i hi
    grind
   | 6, _ =>
    rw [j]
    refine agf (uE λg e=>uE λc hc=>?_) (Ti h).symm
    rcases acr g with d|d
    ·rw [if_pos d,if_pos d]
    ·have:=a.s1 g e d c hc
     grind
theorem AV (h:p.Fit):iJ p.jR=p.nums↔p.Low:=by
 rw [qym]
 exact ⟨λe=>(zA h).2.1 (Np 7 (zA h).1 e),λe=>uE ((zA h).2.2 e)⟩
theorem o9 (h:x<=m):dle x m=true:=decide_eq_true h
theorem zfw (h:dle x m=true):x<=m:=of_decide_eq_true h
section
variable {p:Pr}
theorem zmt {b:Bool} {g:Nat}:∀k,p.lZ b g k=true->b=true/\(0<g->∀c,c<k->p.sn g c 1<=4294967295):=by intro x;induction x<;>grind [Pr.lZ,zfw]
theorem zfx:∀k,p.mW k=true->p.jI p.tk=true/\∀g,g<k->0<g->∀c,c<p.cp->p.sn g c 1<=4294967295
 |0,h=>⟨h,λg b=>by omega⟩
 |k+1,h=>by
  obtain ⟨a,d⟩:=zmt p.cp h
  obtain ⟨e,f⟩:=zfx k a
  grind
theorem zmu:∀k,p.jI k=true->∀i,i<k->p.tn i 5<=1/\p.tn i 7<=4294967295/\p.lY i<=65535:=by intro x;induction x<;>grind [Pr.jI,zfw]
theorem q72 (h:p.okB=true):p.Low/\∀i,i<p.tk->p.lY i<=65535:=by
 obtain ⟨b,c⟩:=zfx p.gp h
 have a:=zmu p.tk b
 exact ⟨⟨λi hi=>(a i hi).1,λi hi=>(a i hi).2.1,c⟩,λi hi=>(a i hi).2.2⟩
theorem AX (h:p.Low) (a:∀i,i<=p.tk->p.sj i=p.nE i):p.qP=p.jR:=by
 have e:bZ p.tk p.tQ=bZ p.tk p.mX:=by
  unfold bZ
  refine af3 λi hi=>?_
  rw [aeA] at hi
  unfold Pr.tQ Pr.mX
  rw [AP (a i om),show decide (p.tn i 5=1)=decide (0<p.tn i 5) from decide_eq_decide.2 (by have:=h.t5 i hi;omega)]
 unfold Pr.qP Pr.jR
 rw [e]
end
section
variable {p:Pr} (h:p.Fit)
include h
theorem zfy (a:p.nx<=aC):p.ok0=true:=by
 unfold Pr.ok0
 have b:=h.cp2
 have c:=h.IG
 have d:=wG h
 unfold aC at*
 rw [o9 a,o9 (show p.cp<=4611686018427387904 by omega),o9 (show p.cr<=18446744073709551615 by omega),o9 (show p.gp<=4611686018427387904 by omega)]
 rfl
theorem zfz (a:p.nx<=aC) (b:∀i,i<2*(p.gp-1)->p.gs.getD i 0<=aC):∀k,k<=p.gp->p.o8 k=true
 |0,_=>zfy h a
 | k + 1, c => by
  rw [Pr.o8]
  split
  ·exact zfy h a
  ·rw [zfz a b k om,o9 (b _ om),o9 (b _ om)]
   rfl
end
section
variable {p:Pr}
theorem zmv (a:p.o8 p.gp=true) (hc:∀i,i<p.cp->p.cl.getD i 0<=aC):∀k,k<=p.cp->p.y8 k=true:=by intro x;induction x<;>grind [Pr.y8,o9]
theorem zmw (a:p.y8 p.cp=true) (hc:∀i,i<p.cp->p.cu.getD i 0<=aC):∀k,k<=p.cp->p.wD k=true:=by intro x;induction x<;>grind [Pr.wD,o9]
def zf0 (h:p.Fit) (b:p.wD p.cp=true) (a:p.Low) (ht:∀i,i<p.tk->p.tn i 0<=aC/\p.tn i 1<=aC/\p.tn i 2<=aC/\p.tn i 3<=aC) (hi:∀i,i<p.tk->p.lY i<=65535):∀k,k<=p.tk->p.jI k=true
 |0,_=>by
  rw [Pr.jI,b,o9 (by have:=h.tk;unfold aC;omega)];rfl
 |k+1,g=>by
  obtain ⟨c,d,e,f⟩:=ht k om
  have j:=iT h k 4
  have m:=iT h k 6
  rw [Pr.jI,zf0 h b a ht hi k om,o9 c,o9 d,o9 e,o9 f,o9 (show p.tn k 4<=18446744073709551615 by omega),o9 (a.t5 k om),o9 (show p.tn k 6<=18446744073709551615 by omega),o9 (a.t7 k om),decide_eq_true (hi k om)]
  rfl
theorem zmx (h:p.Fit) {b:Bool} (hb:b=true) {g:Nat} (a:0<g->∀c,c<p.cp->p.sn g c 1<=4294967295):∀k,k<=p.cp->p.lZ b g k=true:=by intro x;induction x<;>grind [Pr.lZ,o9,wF]
def zf1 (h:p.Fit) (a:p.jI p.tk=true) (b:p.Low):∀k,k<=p.gp->p.mW k=true
 |0,_=>a
 |k+1,e=>zmx h (zf1 h a b k om) (λd c hc=>b.s1 k om d c hc) p.cp (abr _)
end
def Tj (x:Int):aW (Go.IntKind.i64.wrap x):=by rw [aeu];unfold aW;omega
def zB (x:Nat):aW (bL x):=Tj _
def Ez {α:Type} {f:Nat->α} {q:α->Prop} (h:∀i,i<n->q (f i)):∀x∈bZ n f,q x:=by
 intro x a
 obtain ⟨i,hi,rfl⟩:=ab0.1 a
 exact h i (aeA.1 hi)
section
variable {p:Pr} (h:p.Fit)
include h
theorem zf2 (g:Nat):(p.iL g).Ok:=by
 unfold Pr.iL
 split
 ·exact ⟨by unfold aW;decide,by unfold aW;decide⟩
 ·exact ⟨zB _,zB _⟩
theorem zmy (g c:Nat):(p.rH g c).Ok:=by
 have a:=wF h g c 0
 have b:=wF h g c 2
 unfold Pr.rH
 split
 ·exact ⟨show 0<18446744073709551616 by decide,show 0<4294967296 by decide,a⟩
 ·exact ⟨a,adW _ de,b⟩
theorem AY:aW (p.cp:Int):=by have:=h.cp2;unfold aW;omega
theorem Nq (l:List Nat):∀x∈l.map bL,aW x:=by
 intro x a
 obtain ⟨y,_,rfl⟩:=ab0.1 a
 exact zB y
theorem rows_ok:∀l∈(bZ p.gp λg=>(⟨none,0,p.row g⟩:Rw)).map Rw.l,∀x∈l,Sp.Ok x:=by
 intro l a
 obtain ⟨y,b,rfl⟩:=ab0.1 a
 obtain ⟨g,_,rfl⟩:=ab0.1 b
 exact Ez λc _=>zmy h g c
theorem zjn (i:Nat):(p.tQ i).Ok:=⟨Tj _,zB _,zB _,zB _,iT h i 4,iT h i 6,adW _ de⟩
theorem zjo (i:Nat):(p.mX i).Ok:=⟨Tj _,zB _,zB _,zB _,iT h i 4,iT h i 6,adW _ de⟩
theorem zf3:p.qP.st.av.Ok:=⟨AY h,wG h,Ez λg _=>zf2 h g,Nq h _,Nq h _,Ez λi _=>zjn h i,rows_ok h⟩
theorem zmz:p.jR.st.av.Ok:=⟨AY h,wG h,Ez λg _=>zf2 h g,Nq h _,Nq h _,Ez λi _=>zjo h i,rows_ok h⟩
theorem Nr (a:abn l=n) (b:n<=1000000):abn (l.map bL)<=1000000:=by rw [abx];omega
theorem qyn:∀y∈bZ p.gp λg=>(⟨none,0,p.row g⟩:Rw),abn y.l<=1000000:=Ez λg _=>by
 have:=h.cp2
 show abn (p.row g)<=1000000
 unfold Pr.row
 rw [rG]
 omega
theorem Tn (s:dL) (hs:s=p.qP\/s=p.jR):bY s.st:=by
 have a:=h.cp2
 have b:=h.IG
 have c:=h.tk
 rcases hs with rfl|rfl
 ·exact ⟨by show abn (bZ _ _)<=_;rw [rG];omega,Nr h h.cl om,Nr h h.cu om,by show abn (bZ _ _)<=_;rw [rG];omega,by show abn (bZ _ _)<=_;rw [rG];omega,qyn h⟩
 ·exact ⟨by show abn (bZ _ _)<=_;rw [rG];omega,Nr h h.cl om,Nr h h.cu om,by show abn (bZ _ _)<=_;rw [rG];omega,by show abn (bZ _ _)<=_;rw [rG];omega,qyn h⟩
end
theorem q74 (h:p.Fit) (hk:dG p.jR=0) (v:p.Low):p.okB=true/\p.qP=p.jR:=by
 have D:=(Ea hk).1
 have w:=(Ea hk).2
 have o:=G7 hk
 have e:aC=4611686018427387904:=rfl
 have big:∀{x:Nat} {n:Int},x<18446744073709551616->0<=bL x->bL x<=n->n<=4611686018427387904->x<=aC:=λ{x n} b c d q=>by
  rw [zjl b c] at d;omega
 have I:abn p.jR.st.gs=p.gp:=rG _ _
 have J:abn p.jR.st.ts=p.tk:=rG _ _
 have y:abn p.jR.st.rs=p.gp:=rG _ _
 have z:∀g,g<p.gp->p.jR.st.gs.getD g Gr.zero=p.iL g:=λg A=>Dg A
 have f:∀i,i<p.tk->p.jR.st.ts.getD i Tk.zero=p.mX i:=λi hi=>Dg hi
 obtain ⟨K,L,_,s⟩:=mI o.cfg
 have B:p.nx<=aC:=big (AU h) (by have:=D.1;show (0:Int)<=p.jR.next;omega) D.2 om
 have M:∀i,i<2*(p.gp-1)->p.gs.getD i 0<=aC:=λi hi=>by
  have A:i/2+1<p.gp:=by omega
  have b:=(qw s).2.2.2 (i/2+1) om
  have c:=Mk b om
  have d:=pQ s (g:=i/2+1) om
  unfold d9 at c
  rw [z _ A] at c d
  unfold Pr.iL at c d
  rw [if_neg om] at c d
  rw [aeI] at c d
  dsimp only at c d
  rcases Nat.mod_two_eq_zero_or_one i with q|q
  ·rw [show i=2*(i/2) by omega]
   exact big (n:=256) (wE h _) c.1 (by have:=c.2;have:=h.IG;show bL _<=256;omega) om
  ·rw [show i=2*(i/2)+1 by omega]
   exact big (wE h _) (by have:=d.1;show 0<=bL _;omega) d.2 om
 have m:∀(l:List Nat) (k:Nat),k<abn l->(l.map bL).getD k 0=bL (l.getD k 0):=λl k hk=>by
  grind
 have N:∀i,i<p.cp->p.cl.getD i 0<=aC:=λi hi=>by
  have t:=h.cl
  have b:=o.cls i (by show i<abn (p.cl.map bL);rw [abx];omega)
  rw [show p.jR.st.cl.getD i 0=bL (p.cl.getD i 0) from m p.cl i om] at b
  unfold iG at b
  rw [decide_eq_true_eq] at b
  exact big (IQ h _) b.1 b.2 om
 have u:∀i,i<p.tk->_:=λi hi=>D8 (o.tk i om)
 have r:∀i,i<p.tk->(1<=p.nE (i+1)/\p.nE (i+1)<=65535)/\p.tn i 1<=aC/\p.tn i 2<=aC/\p.tn i 3<=aC:=λi hi=>by
  have b:=(u i hi).2
  rw [f i hi] at b
  unfold dX l9 at b
  simp only [abG,decide_eq_true_eq] at b
  obtain ⟨⟨O,P,Q,C,R,E⟩,⟨F,S⟩,_⟩:=b
  rw [lG,y] at C
  have:=h.IG
  have:=h.cp2
  refine ⟨⟨O,P⟩,big (n:=256) (iT h i 1) Q (by show bL _<=256;have C:bL (p.tn i 1)<p.gp:=C;omega) om,big (iT h i 2) (by have F:1<=bL (p.tn i 2):=F;omega) S om,big (n:=64) (iT h i 3) R (by have E:bL (p.tn i 3)<(p.cp:Int):=E;omega) om⟩
 have G:∀i,i<=p.tk->p.sj i=p.nE i:=λi hi=>IK i λj H=>(r j om).1.2
 have T:∀i,i<p.tk->p.lY i<=65535:=λi hi=>by rw [AP (G i om)];exact (r i hi).1.2
 have U:∀i,i<p.tk->p.tn i 0<=aC:=λi hi=>by
  have b:=(u i hi).1
  have c:0<=p.nE i/\p.nE i<p.nE (i+1):=by
   rcases i with _|i
   ·have:=(r 0 hi).1.1
    exact ⟨Int.le_refl _,by show (0:Int)<_;omega⟩
   ·have d:=(r i om).1.1
    rw [aeI,f i om,f (i+1) hi] at b
    rcases b with b|b
    ·omega
    ·exact ⟨by omega,b⟩
  have d:=qyl (a:=p.nE i) (iT h i 0)
  have q:Go.IntKind.i64.wrap (p.nE i+bL (p.tn i 0))=p.nE (i+1):=rfl
  grind [aL]
 have V:∀i,i<p.cp->p.cu.getD i 0<=aC:=λi hi=>by
  have W:=h.cu
  have t:i<abn p.jR.st.cu:=by show i<abn (p.cu.map bL);rw [abx];omega
  unfold lT at w
  rw [abG] at w
  have b:=xK w.2 (i:=i) t
  rw [abG] at b
  have c:=b.1
  unfold eB at c
  have hz:p.jR.st.av.cu.getD i 0=bL (p.cu.getD i 0):=m p.cu i om
  rw [hz] at c
  rw [adM,decide_eq_true_eq] at c
  rcases c with c|c
  ·exact big (AQ h _) om (Int.le_of_eq c) om
  ·split at c
   ·rename_i j H
    obtain ⟨d,q⟩:=Qy H
    have d:j<p.tk:=by have:j<abn p.jR.st.ts:=d;omega
    rw [show p.jR.st.av.ts.getD j Tk.zero=p.mX j from f j d] at q
    have X:=(r j d).1
    have q:p.nE (j+1)=bL (p.cu.getD i 0):=q
    exact big (n:=65535) (AQ h _) om om om
   ·cases c
 refine ⟨zf1 h (zf0 h (zmw (zmv (zfz h B M p.gp (abr _)) N p.cp (abr _)) V p.cp (abr _)) v (λi hi=>⟨U i hi,(r i hi).2⟩) T p.tk (abr _)) v p.gp (abr _),AX v G⟩
theorem q75 (hb:p.okB=true):p.qP=p.jR:=by grind [IJ,q72,AX]
theorem zdr {ys:List Nat} (a:∀x∈xs,x<18446744073709551616) (hy:∀x∈ys,x<18446744073709551616) (b:abn xs=abn ys) (h:xs.flatMap ak=ys.flatMap ak):xs=ys:=by
 have c:=Pw xs [] a
 grind [Pw]
theorem Tp (i:∀z∈l,z<256) (h:fK l= .ok p):15<=abn l/\abn l<=16777216/\p.Fit/\l=bI ([113,115,1]++p.nums.flatMap ak):=by
 unfold fK at h
 split at h
 ·cases h
 rename_i d
 split at h
 ·cases h
 rename_i q
 split at h
 ·cases h
 rename_i m
 split at h
 ·cases h
 rename_i f
 split at h
 ·cases h
 rename_i g
 have f:l.getD 0 0=113/\l.getD 1 0=115:=afA f
 have g:l.getD 2 0=1:=afA g
 have hs:zj l=true:=by cases hq:zj l with|true=>rfl|false=>exact absurd hq m
 have j:abn (l.take (abn l-4))=abn l-4:=by rw [abv];omega
 obtain ⟨n,o⟩:=zjh om (λz hz=>i z (acf hz)) h
 refine ⟨by omega,by omega,n,?_⟩
 rw [<-o]
 have e:([113,115,1]:List Nat)=(l.take (abn l-4)).take 3:=by
  rw [List.take_take,show min 3 (abn l-4)=3 by omega]
  match l,d,f,g with
  |a::b::c::r,_,f,g=>
   grind
  |[],d,_,_=>exact absurd de d
  |[_],d,_,_=>exact absurd (by simp) d
  |[_,_],d,_,_=>exact absurd (by simp) d
 rw [e,ab1,WQ i hs]
def zds {a:List Nat} (h:bI a=bI b):a=b:=by
 have c:=congrArg adZ h
 rw [uQ,uQ] at c
 exact (agN h om).1
theorem q76 (d:∀z∈l,z<256) (h:fK l= .ok p):(p.okB=true/\dG p.qP=0)↔(dG p.jR=0/\cZ p.jR=l):=by
 obtain ⟨_,_,a,e⟩:=Tp d h
 constructor
 ·grind [fV,AV,q72,q75,Ec]
 ·rintro ⟨f,b⟩
  rw [Ec f] at b
  have c:=zds (b.trans e)
  unfold fV at c
  have g:=zdr (ZH (zmz a) (Tn a _ (.inr rfl))) a.lt (by rw [qym];exact Ey 7 (zA a).1) (List.append_cancel_left c)
  grind [AV,q74]
def oN (l:List Nat):Nat:=match fK l with
 | .ok p=>if p.okB=true/\dG p.qP=0 then 0 else 347
 | .error k=>k
def wH:dL:=⟨0,⟨0,0,none,0,[],none,0,[],none,0,[],none,0,[],none,0,[]⟩⟩
def mq (l:List Nat):dL:=match fK l with
 | .ok p=>if p.okB=true/\dG p.qP=0 then p.qP else wH
 | .error _=>wH
section
variable {l:List Nat} {p:Pr} {k:Nat}
def wI (h:fK l= .error k):oN l=k/\mq l=wH:=by unfold oN mq;rw [h];exact ⟨rfl,rfl⟩
def Ns (h:fK l= .ok p) (a:¬(p.okB=true/\dG p.qP=0)):oN l=347/\mq l=wH:=by unfold oN mq;rw [h];exact ⟨if_neg a,if_neg a⟩
def Tq (h:fK l= .ok p) (a:p.okB=true/\dG p.qP=0):oN l=0/\mq l=p.qP:=by unfold oN mq;rw [h];exact ⟨if_pos a,if_pos a⟩
theorem zjp (b:∀z∈l,z<256) (h:fK l= .ok p) (c:dG p.jR=0/\cZ p.jR=l):oN l=0/\mq l=p.jR:=by
 have a:=(q76 b h).2 c
 rw [<-q75 a.1]
 exact Tq h a
end
section
variable {a b:List Nat} {p q:Pr} {k:Nat} {X Y:List jK} {i:Nat}
end
theorem Mem.Dh (h:Mem W w []):Mem W w (jF wH.st):=((((h.nil 176 1).nil 232 8).nil 3 1).nil 3 1).nil 198 2
def qyo:fD wH.st:=⟨abr _,abr _,abr _,abr _,abr _,λy c=>by cases c⟩
def qs0 (s:dL):gP s s:=vT rfl (q00 _)
def Nt (w:World) (er:Nat) (s:dL) (r:Ending) (c:World):Prop:=∃z:dL,r= .returned (.tuple #[.agg z.cells,.int .i64 (er:Int)])/\gP s z/\fD z.st/\Mem w c (jF z.st)
def Tt (h:er=k/\s=wH) (hr:r= .returned (.tuple #[.agg wH.cells,.int .i64 (k:Int)])) (c:Mem w W []):Nt w er s r W:=by
 obtain ⟨rfl,rfl⟩:=h
 exact ⟨wH,hr,qs0 _,qyo,c.Dh⟩
def q78 {t z:dL} (h:er=0/\s=t) (hr:r= .returned (.tuple #[.agg z.cells,.int .i64 0])) (hz:gP t z) (hc:fD z.st) (c:Mem w W (jF z.st)):Nt w er s r W:=by
 obtain ⟨rfl,rfl⟩:=h
 exact ⟨z,hr,hz,hc,c⟩
def zf4 {z:dL} (h:gP s z) (c:s.st.av.Ok):z.st.av.Ok:=by rw [MF (MG h)];exact c
structure Pl where
 nx:Nat
 sn:Nat
 st:Nat
 en:Nat
deriving DecidableEq
def Pl.zero:Pl:=⟨0,0,0,0⟩
def Pl.cells (p:Pl):Array Value:= #[.int .i64 (p.nx:Int),.int .i64 (p.sn:Int),.int .i64 (p.st:Int),.int .i64 (p.en:Int)]
def jA (p:Pl):List Value:=[.int .i64 (p.nx:Int),.int .i64 (p.sn:Int),.int .i64 (p.st:Int),.int .i64 (p.en:Int)]
def tV (p:Pl):abn (jA p)=4:=rfl
def dS (b:List Nat) (p m:Nat):Nat:=aA m (b.drop p)
def bG (b:List Nat) (p:Nat):Nat:=p+(aD (b.drop p)).2.1
def eZ (b:List Nat) (p m:Nat):Bool:=aZ m (b.drop p)
section
variable {b:List Nat} {p m k last sum q s a:Nat} {l:List Pl}
def Tv:dS b p m<=m:=qJ _ _
def Tw:p<=bG b p:=ad6 _ _
theorem wJ (h:p<=abn b):bG b p<=abn b:=by grind [bG,xg]
theorem Nu (hb:∀x∈b,x<256) (c:p<=abn b) (h:eZ b p m=true):b.take (bG b p)=b.take p++ak (dS b p m):=by
 obtain ⟨d,e⟩:=of_decide_eq_true h
 grind [bG,dS,aA,aD,Pq]
def tX (b:List Nat) (p:Nat):Bool:=eZ b p 4611686018427387904&& (eZ b (bG b p) 16777216&&eZ b (bG b (bG b p)) 16777216)
def rowP (b:List Nat) (p:Nat):Nat:=bG b (bG b (bG b p))
def lI (b:List Nat) (p:Nat):Nat:=dS b p 4611686018427387904
def lJ (b:List Nat) (p:Nat):Nat:=dS b (bG b p) 16777216
def mY (b:List Nat) (p:Nat):Nat:=dS b (bG b (bG b p)) 16777216
def zjq (h:p<=abn b):rowP b p<=abn b:=wJ (wJ (wJ h))
def jY (b:List Nat):Nat->Nat->Nat->Nat->Option (List Pl×Nat×Nat)
 |0,p,_,sum=>some ([],p,sum)
 | k + 1, p, last, sum => if tX b p = true /\ last <= lI b p then
   (jY b k (rowP b p) (lI b p) (sum+lJ b p+mY b p)).map λr=>(⟨lI b p,sum,sum+lJ b p,sum+lJ b p+mY b p⟩::r.1,r.2)
  else none
def kR (b:List Nat) (ok:Bool) (k p last sum:Nat):Option (List Pl×Nat×Nat):=if ok=true then jY b k p last sum else none
theorem q79:kR b false k p last sum=none:=rfl
theorem IV:kR b true k p last sum=jY b k p last sum:=rfl
def Pl.up (a:Nat) (x:Pl):Pl:=⟨x.nx,x.sn+a,x.st+a,x.en+a⟩
def dn (b:List Nat):List Pl×Nat:=
 if 16777216<abn b then ([],3)
 else if ¬(b.take 3=[113,97,1]) then ([],410)
 else match kR b (eZ b 3 1024) (dS b 3 1024) (bG b 3) 0 0 with
  |none=>([],410)
  |some (l,p,s)=>if p+4<=abn b/\zj (b.take (p+4))=true/\p+4+s=abn b then (l.map (Pl.up (p+4)),0) else ([],410)
def zdt (h:16777216<abn b):dn b=([],3):=by unfold dn;rw [if_pos h]
def qyq (h:¬16777216<abn b) (c:¬(b.take 3=[113,97,1])):dn b=([],410):=by unfold dn;rw [if_neg h,if_pos c]
def Tx (h:¬16777216<abn b) (c:b.take 3=[113,97,1]) (d:kR b (eZ b 3 1024) (dS b 3 1024) (bG b 3) 0 0=none):dn b=([],410):=by unfold dn;rw [if_neg h,if_neg (λx=>x c),d]
theorem Tz (h:¬16777216<abn b) (c:b.take 3=[113,97,1]) (d:kR b (eZ b 3 1024) (dS b 3 1024) (bG b 3) 0 0=some (l,p,s)) (e:¬(p+4<=abn b/\zj (b.take (p+4))=true/\p+4+s=abn b)):dn b=([],410):=by grind [dn]
theorem zf5 (h:¬16777216<abn b) (c:b.take 3=[113,97,1]) (d:kR b (eZ b 3 1024) (dS b 3 1024) (bG b 3) 0 0=some (l,p,s)) (e:p+4<=abn b/\zj (b.take (p+4))=true/\p+4+s=abn b):dn b=(l.map (Pl.up (p+4)),0):=by grind [dn]
def jS:Nat->Nat->List Pl->Nat->Prop
 |_,sum,[],s=>sum=s
 |last,sum,x::t,s=>(x.sn=sum/\x.sn<=x.st/\x.st<=x.en/\last<=x.nx/\x.nx<=4611686018427387904)/\jS x.nx x.en t s
theorem jS.le:∀{l:List Pl} {last sum s:Nat},jS last sum l s->sum<=s
 |[],_,_,_,h=>Nat.le_of_eq h
 |x::t,_,_,_,h=>by have:=jS.le h.2;have:=h.1;omega
theorem jS.mem:∀{l:List Pl} {last sum s:Nat},jS last sum l s->∀x∈l,sum<=x.sn/\x.sn<=x.st/\x.st<=x.en/\x.en<=s/\x.nx<=4611686018427387904
 |[],_,_,_,_=>λx c=>by cases c
 |y::t,_,_,_,h=>λx c=>by
  have d:=h.1
  have e:=jS.le h.2
  rcases abS.1 c with rfl|c
  ·omega
  ·have:=jS.mem h.2 x c;omega
def zC (x:Pl):List Nat:=[x.nx,x.st-x.sn,x.en-x.st]
theorem qn4 (hb:∀x∈b,x<256):∀(k p last sum:Nat) {l:List Pl} {q s:Nat},p<=abn b->jY b k p last sum=some (l,q,s)->abn l=k/\jS last sum l s/\p<=q/\q<=abn b/\b.take q=b.take p++(l.flatMap zC).flatMap ak
 |0,p,last,sum,l,q,s,c,h=>by
  have h:some (([]:List Pl),p,sum)=some (l,q,s):=h
  injection h with h;injection h with g h;injection h with d e
  subst g d e
  exact ⟨rfl,rfl,abr _,c,by simp⟩
 | k + 1, p, last, sum, l, q, s, c, h => by
  rw [jY] at h
  split at h
  ·rename_i hc
   obtain ⟨f,j⟩:=hc
   obtain ⟨⟨z,A,B⟩,g,d⟩:=Option.map_eq_some_iff.1 h
   injection d with d e;injection e with e i
   dsimp only at d e i
   subst d e i
   obtain ⟨n,o,r,t,u⟩:=qn4 hb k _ _ _ (zjq c) g
   unfold tX at f
   rw [abG,abG] at f
   have v:=Nu hb c f.1
   have w:=Nu hb (wJ c) f.2.1
   have y:=Nu hb (wJ (wJ c)) f.2.2
   refine ⟨by rw [abT,n],⟨⟨rfl,ad6 _ _,ad6 _ _,j,Tv⟩,o⟩,?_,t,?_⟩
   ·exact ada (ada Tw (ada Tw Tw)) r
   ·rw [u]
    show b.take (bG b (bG b (bG b p)))++_=_
    rw [y,w,v,abK]
    unfold zC lI lJ mY
    simp_all
  ·cases h
structure wK (b:List Nat) (L:List Pl):Prop where
 form:∃(l:List Pl) (p s:Nat),L=l.map (Pl.up (p+4))/\jS 0 0 l s/\p+4+s=abn b/\abn l<=1024/\b.take (p+4)=bI ([113,97,1]++(abn l::l.flatMap zC).flatMap ak)
 few:abn b<=16777216
theorem qyr (hb:∀x∈b,x<256) {L:List Pl} (h:dn b=(L,0)):wK b L:=by
 unfold dn at h
 split at h
 ·injection h with _ h;cases h
 ·rename_i d
  split at h
  ·injection h with _ h;cases h
  ·rename_i c
   have c:b.take 3=[113,97,1]:=adp.1 c
   split at h
   ·injection h with _ h;cases h
   ·rename_i l p s hi
    split at h
    ·rename_i hc
     obtain ⟨r,g,i⟩:=hc
     injection h with h _
     have e:3<=abn b:=by
      grind
     have f:eZ b 3 1024=true:=by
      grind [q79,eZ]
     rw [f,IV] at hi
     obtain ⟨j,n,u,v,w⟩:=qn4 hb _ _ _ _ (wJ e) hi
     have t:=Nu hb e f
     refine ⟨⟨l,p,s,h.symm,n,i,by rw [j];exact Tv,?_⟩,by omega⟩
     have y:=WQ (l:=b.take (p+4)) (λx o=>hb x (acf o)) g
     grind
    ·injection h with _ h;cases h
end
def bW (b:List Nat) (i j:Nat):List Nat:=(b.take j).drop i
theorem IW {i j:Nat} (h:j<=abn b):abn (bW b i j)=j-i:=by grind [bW]
def Nv (h:∀x∈b,x<256) (i j:Nat):∀x∈bW b i j,x<256:=λx c=>h x (acf (abL c))
def ko (b:List Nat) (x:Pl):Nat:=
 if oN (bW b x.sn x.st)≠0 then oN (bW b x.sn x.st)
 else if (mq (bW b x.sn x.st)).next≠(x.nx:Int) then 412
 else (readAll (bW b x.st x.en)).2
def zjr {x:Pl} (h:oN (bW b x.sn x.st)≠0):ko b x=oN (bW b x.sn x.st):=by unfold ko;rw [if_pos h]
def zjs {x:Pl} (h:oN (bW b x.sn x.st)=0) (c:(mq (bW b x.sn x.st)).next≠(x.nx:Int)):ko b x=412:=by unfold ko;rw [if_neg (λn=>n h),if_pos c]
def q8a {x:Pl} (h:oN (bW b x.sn x.st)=0) (c:(mq (bW b x.sn x.st)).next=(x.nx:Int)):ko b x=(readAll (bW b x.st x.en)).2:=by unfold ko;rw [if_neg (λn=>n h),if_neg (λn=>n c)]
structure Pv where
 s:dL
 bs:List Bk
def Pv.zero:Pv:=⟨wH,[]⟩
def lK:List Pv->Int->Nat->Int×Nat
 |[],_,_=>(-1,0)
 |x::t,last,i=>if dG x.s≠0 then ((i:Int),dG x.s) else if fA x.bs≠0 then ((i:Int),fA x.bs) else if x.s.next<last then ((i:Int),411) else lK t x.s.next (i+1)
def pq (l:List Pv):Int×Nat:=if 1024<abn l then (-1,5) else lK l 0 0
def jB (x:Pv):List Nat:=[aL x.s.next,abn (cZ x.s),(q8 x.bs).1.length]
def l5 (l:List Pv) (i:Nat):List Nat:=abn l::(l.take i).flatMap jB
def qC (d:List Nat×Bool) (x:Pv):List Nat×Bool:=
 if (d.2||decide ((q8 x.bs).2≠0)||decide (16777216<abn d.1+abn (cZ x.s)+(q8 x.bs).1.length))=true then (d.1,true) else (d.1++cZ x.s++(q8 x.bs).1,false)
def stA (l:List Pv):Nat->List Nat×Bool
 |0=>([],false)
 |i+1=>qC (stA l i) (l.getD i Pv.zero)
def headA (l:List Pv):List Nat:=bI ([113,97,1]++(l5 l (abn l)).flatMap ak)
def nR (l:List Pv):List Nat×Nat:=
 if (pq l).2≠0 then ([],(pq l).2)
 else if (stA l (abn l)).2=true\/16777216<abn (headA l)+(stA l (abn l)).1.length then ([],3)
 else (headA l++(stA l (abn l)).1,0)
theorem zm0 (d:∀z∈l,z<256) (h:oN l=0):dG (mq l)=0/\cZ (mq l)=l:=by
 cases ho:fK l with
 |error k=>
  rw [(wI ho).1] at h
  have:=Ta ho
  omega
 | ok p =>
  by_cases c:p.okB=true/\dG p.qP=0
  ·grind [q76,zjp]
  ·rw [(Ns ho c).1] at h
   cases h
section
variable {b:List Nat} {L:List Pl} {l:List Pv} {a:Nat}
def tY (a:Nat) (L:List Pl) (i:Nat):Nat:=match i with
 |0=>a
 |i+1=>(L.getD i Pl.zero).en
theorem jS.at:∀{l:List Pl} {last c s i:Nat},jS last c l s->i<abn l->(l.getD i Pl.zero).sn=tY c l i/\(0<i->(l.getD (i-1) Pl.zero).nx<=(l.getD i Pl.zero).nx)/\(i=0->last<=(l.getD i Pl.zero).nx)
 |x::t,last,c,s,0,h,_=>⟨h.1.1,λh=>absurd h (Nat.lt_irrefl 0),λ_=>h.1.2.2.2.1⟩
 | x :: t, last, c, s, i + 1, h, hi => by
  have hi:i<abn t:=adP hi
  obtain ⟨d,e,f⟩:=jS.at h.2 hi
  refine ⟨?_,λ_=>?_,λh=>absurd h (Nat.succ_ne_zero i)⟩
  ·show (t.getD i Pl.zero).sn=_
   rw [d]
   cases i with
   |zero=>rfl
   |succ i=>rfl
  ·grind
def jS.last:∀{l:List Pl} {last c s:Nat},jS last c l s->tY c l (abn l)=s
 |[],_,_,_,h=>h
 |x::t,last,c,s,h=>by
  have d:=jS.last h.2
  rw [<-d]
  cases t with
  |nil=>rfl
  |cons y t=>rfl
theorem EA (h:i<abn L):(L.map (Pl.up a)).getD i Pl.zero=(L.getD i Pl.zero).up a:=by grind
def q8b {s i:Nat} (h:i<=abn L):tY (s+a) (L.map (Pl.up a)) i=tY s L i+a:=by
 cases i with
 |zero=>rfl
 |succ i=>show ((L.map (Pl.up a)).getD i Pl.zero).en=_;rw [EA om];rfl
theorem zm1 (x:Pl):zC (x.up a)=zC x:=by grind [Pl.up,zC]
structure TA (b:List Nat) (L:List Pl) (a:Nat):Prop where
 sn:∀i,i<abn L->(L.getD i Pl.zero).sn=tY a L i/\(L.getD i Pl.zero).sn<=(L.getD i Pl.zero).st/\(L.getD i Pl.zero).st<=(L.getD i Pl.zero).en/\(L.getD i Pl.zero).en<=abn b/\(L.getD i Pl.zero).nx<=4611686018427387904
 nx:∀i,0<i->i<abn L->(L.getD (i-1) Pl.zero).nx<=(L.getD i Pl.zero).nx
 low:a<=abn b
 last:tY a L (abn L)=abn b
 few:abn L<=1024
 head:b.take a=bI ([113,97,1]++(abn L::L.flatMap zC).flatMap ak)
theorem wK.at (h:wK b L):∃a,TA b L a:=by
 obtain ⟨l,p,s,rfl,hc,m,e,g⟩:=h.form
 have c:abn (l.map (Pl.up (p+4)))=abn l:=abx ..
 refine ⟨p+4,λi hi=>?_,λi j hi=>?_,by omega,?_,by rw [c];exact e,?_⟩
 ·rw [c] at hi
  have n:=hc.at hi
  have o:=hc.mem _ (qf Pl.zero hi)
  have d:=q8b (a:=p+4) (s:=0) (L:=l) (i:=i) om
  grind [Pl.up,EA]
 ·rw [c] at hi
  rw [EA hi,EA om]
  exact (hc.at hi).2.1 j
 ·have d:=q8b (a:=p+4) (s:=0) (L:=l) (i:=abn l) (abr _)
  rw [Nat.zero_add] at d
  rw [c,d,hc.last]
  omega
 ·rw [c,g]
  have k:(l.map (Pl.up (p+4))).flatMap zC=l.flatMap zC:=by
   rw [agE]
   exact congrArg (λf=>l.flatMap f) (funext λx=>zm1 x)
  rw [k]
end
structure Pm where
 z:dL
 A:Option Addr
 c:Nat
 q:List Hb
def Pm.zero:Pm:=⟨wH,none,0,[]⟩
def Pm.v (p:Pm):Pv:=⟨p.z,p.q.map acZ⟩
def Pm.cells (p:Pm):Array Value:= #[.int .i64 p.z.next,.int .i64 p.z.st.au,.int .u64 (p.z.st.aj:Int),.slice p.z.st.gA (abn p.z.st.gs) p.z.st.gc,.slice p.z.st.lA (abn p.z.st.cl) p.z.st.lc,.slice p.z.st.uA (abn p.z.st.cu) p.z.st.uc,.slice p.z.st.tA (abn p.z.st.ts) p.z.st.tc,.slice p.z.st.sA (abn p.z.st.rs) p.z.st.sc,.slice p.A (abn p.q) p.c]
def kF (p:Pm):List Value:=p.cells.toList
def TB (p:Pm):abn (kF p)=9:=rfl
structure gu (w:World) (p:Pm):Prop where
 st:eU w p.z.st
 bl:Rd w w.heap.size 5 p.A (abn p.q) (p.q.flatMap hbL)
 ev:lC w p.q
theorem gu.old {p:Pm} (h:gu W p) (a:Mem W w fs):gu w p:=⟨h.st.old a,a.old h.bl,h.ev.old a⟩
structure iy (p:Pm):Prop where
 ok:p.z.st.av.Ok
 few:bY p.z.st
 cap:fD p.z.st
 nx:aW p.z.next
 Nw:∀h∈p.q,h.b.Ok
 TD:∀h∈p.q,abn h.b.evs<=1000000
 len:abn p.q<=1000000
 pc:abn p.q<=p.c
def kG (p:Pm):List Fact:=jF p.z.st++(.row (.slice p.A (abn p.q) p.c) (abn p.q) (p.q.flatMap hbL) 85 5::eX 73 p.q)
def gB (l:List Pm):List Fact:=l.flatMap kG
section
variable {W w w':World} {F T:List Fact} {p:Pm} {l:List Pm}
theorem Mem.zD (h:Mem W w F) (hs:∀f∈kG p,f∈F):gu w p:=
 ⟨h.Cz λf a=>hs f (adh _ a),h.jT (hs _ (acW _ (acB ..))),h.F8 λf a=>hs f (acW _ (acd _ a))⟩
theorem Mem.znn (h:Mem W w F) (hs:∀f∈gB l,f∈F):∀p∈l,gu w p:=λp a=>h.zD λf b=>hs f (acw.2 ⟨p,a,b⟩)
def q8c:gB (l++[p])=gB l++kG p:=by unfold gB;rw [abX];simp
end
def dP:SI abo 53 9:=⟨by kernel_rfl,by kernel_rfl⟩
def qD:EI abo 24 53 (.agg #[.int .i64 0,.int .i64 0,.int .u64 0,.slice none 0 0,.slice none 0 0,.slice none 0 0,.slice none 0 0,.slice none 0 0,.slice none 0 0]) 9 168:=⟨by kernel_rfl,by kernel_rfl,rfl,by omega⟩
def mZ:SI abo 57 4:=⟨by kernel_rfl,by kernel_rfl⟩
def wL:EI abo 35 57 (.agg #[.int .i64 0,.int .i64 0,.int .i64 0,.int .i64 0]) 4 32:=⟨by kernel_rfl,by kernel_rfl,rfl,by omega⟩
def zjt:SI abo 131 5:=⟨by kernel_rfl,by kernel_rfl⟩
def IX (p:Pm):∀v∈p.cells.toList,v.oneCell'=true:=by
 intro v a
 simp only [Pm.cells,abS,aci,or_false] at a
 rcases a with rfl|rfl|rfl|rfl|rfl|rfl|rfl|rfl|rfl<;>rfl
def zf6 (p:Pl):∀v∈p.cells.toList,v.oneCell'=true:=by
 intro v a
 simp only [Pl.cells,abS,aci,or_false] at a
 rcases a with rfl|rfl|rfl|rfl<;>rfl
section
variable {l:List Pm} {i:Nat} {last:Int}
def zju (h:i<abn l):lK ((l.map Pm.v).drop i) last i=if dG (l.getD i Pm.zero).z≠0 then ((i:Int),dG (l.getD i Pm.zero).z) else if fA ((l.getD i Pm.zero).q.map acZ)≠0 then ((i:Int),fA ((l.getD i Pm.zero).q.map acZ)) else if (l.getD i Pm.zero).z.next<last then ((i:Int),411) else lK ((l.map Pm.v).drop (i+1)) (l.getD i Pm.zero).z.next (i+1):=by
 rw [ace (by rw [abx];exact h),lK,List.getElem_map,abt,abq h]
 rfl
def q8d:lK ((l.map Pm.v).drop (abn l)) last i=(-1,0):=by
 rw [adx (by rw [abx];exact abr _)]
 rfl
def AZ {R:Int×Nat} {v n:Int} (h:R=(v,m)) (a:n=(m:Int)) (hb:Below w.heap.size w w'):Is w (.tuple #[.int .i64 R.1,.int .i64 (R.2:Int)]) (.returned (.tuple #[.int .i64 v,.int .i64 n])) w':=by
 subst h a
 exact ⟨rfl,hb⟩
end
theorem qys (s:dL):abn (cZ s)<=6000007:=by grind [dG,G7,ZM,q5z,Ec]
section
variable {l:List Pm} {lv:List Pv} {i:Nat} {x:Pm} {d wb:List Nat} {lg:Bool} {we ce:Nat} {ci:Int}
theorem TF (hi:i<abn l) (c:l.getD i Pm.zero=x) (a:stA (l.map Pm.v) i=(d,lg)) (e:q8 (x.q.map acZ)=(wb,we)) (h:lg=true\/we≠0\/16777216<abn d+abn (cZ x.z)+abn wb):stA (l.map Pm.v) (i+1)=(d,true):=by grind [Pm.v,Pm.zero,Pv.zero,getD_at,stA,qC]
theorem zm2 (hi:i<abn l) (c:l.getD i Pm.zero=x) (a:stA (l.map Pm.v) i=(d,lg)) (e:q8 (x.q.map acZ)=(wb,we)) (h:¬(lg=true\/we≠0\/16777216<abn d+abn (cZ x.z)+abn wb)):stA (l.map Pm.v) (i+1)=(d++cZ x.z++wb,false):=by grind [Pm.v,Pm.zero,Pv.zero,getD_at,stA,qC]
def dh (l:List Pm) (i:Nat):List Nat:=abn l::(l.take i).flatMap λp=>jB p.v
theorem q14 (hi:i<abn l) (a:l.getD i Pm.zero=x) (c:q8 (x.q.map acZ)=(wb,we)):dh l (i+1)=dh l i++[aL x.z.next,abn (cZ x.z),abn wb]:=by grind [Pm.v,Pm.zero,dh,cZ,jB,yF,aL]
theorem q8e:dh l (abn l)=l5 (l.map Pm.v) (abn (l.map Pm.v)):=by grind [dh,l5,agE,abx,adr]
theorem IY:∀i,i<=abn l->abn (dh l i)=1+3*i:=λi h=>by
 unfold dh
 rw [abT]
 have key:∀m:List Pm,abn (m.flatMap λp=>jB p.v)=3*abn m:=λm=>by
  induction m with
  |nil=>rfl
  |cons a t b=>rw [abK,abp,b,abT];show 3+_=_;omega
 grind
theorem q8f:0<abn ((dh l i).flatMap ak):=by grind [dh,PW]
theorem zdu (h:abn l<=1000000):∀i,∀x∈dh l i,x<18446744073709551616:=λi x c=>by
 rcases abS.1 c with rfl|c
 ·omega
 ·obtain ⟨p,_,a⟩:=acw.1 c
  have e:=qys p.z
  have f:=Mg (p.q.map acZ)
  rcases abS.1 a with rfl|a
  ·exact Cr _
  ·rcases abS.1 a with rfl|a
   ·show abn (cZ p.z)<_;omega
   ·grind [q8]
def q15 (h:pq lv=(ci,ce)) (a:ce≠0):nR lv=([],ce):=by unfold nR;rw [h];exact if_pos a
theorem ql2 (h:pq lv=(ci,ce)) (b:ce=0) (a:stA lv (abn lv)=(d,lg)) (c:lg=true\/16777216<abn (headA lv)+abn d):nR lv=([],3):=by grind [nR]
theorem q8g (h:pq lv=(ci,ce)) (b:ce=0) (a:stA lv (abn lv)=(d,lg)) (c:¬(lg=true\/16777216<abn (headA lv)+abn d)):nR lv=(headA lv++d,0):=by grind [nR]
end
def Bc (W:World) (d e f:Nat) (b:List Nat) (A:Option Addr) (c p:Nat) (a:Bool) (most:Nat) (fr:List Fact) (r:Ending) (g:World):Prop:=
 r= .returned (.int .i64 (dS b p most:Int))/\Mem W g (ahF d A (abn b) c::.blk e #[.int .i64 (bG b p:Int)] 3::aii f (a&&eZ b p most)::fr)
def Uo {p most:Nat} {a d:Bool} {fr:List Fact} {q:Nat} (h1:bG b p=q) (e:(a&&eZ b p most)=d)
  (f:Mem W w (.blk m #[.slice A (abn b) c] 30:: .blk g #[.int .i64 (q:Int)] 3:: .blk n #[.bool d] 4::fr)):Bc W m g n b A c p a most fr (.returned (.int .i64 (dS b p most:Int))) w:=by
 subst h1 e
 exact ⟨rfl,f⟩
section
variable {b:List Nat} {p k last sum i K p0:Nat} {ok ok0 o1 o2 o3:Bool} {out:List Pl}
def gW (b:List Nat) (ok0:Bool) (K p0:Nat) (ok:Bool) (k p last sum:Nat) (out:List Pl):Prop:=kR b ok0 K p0 0 0=(kR b ok k p last sum).map λr=>(out++r.1,r.2)
def zj1:gW b ok0 K p0 ok0 K p0 0 0 []:=by
 unfold gW
 cases kR b ok0 K p0 0 0<;>rfl
def l6 (b:List Nat) (p sum:Nat):Pl:=⟨lI b p,sum,sum+lJ b p,sum+lJ b p+mY b p⟩
theorem gW.step (h:gW b ok0 K p0 ok (k+1) p last sum out) (a:(((ok&&eZ b p 4611686018427387904)&&eZ b (bG b p) 16777216)&&eZ b (bG b (bG b p)) 16777216)=true) (c:last<=lI b p):gW b ok0 K p0 true k (rowP b p) (lI b p) (sum+lJ b p+mY b p) (out++[l6 b p sum]):=by
 rw [ad9,ad9,abG] at a
 unfold gW at h⊢
 rw [h,a.1,IV,IV,jY,if_pos ⟨by unfold tX;rw [<-ad9];rw [<-ad9] at a;exact a.2,c⟩,Option.map_map]
 congr 1
 funext r
 show (out++(_::r.1),r.2)=((out++[_])++r.1,r.2)
 rw [abu]
 rfl
theorem gW.stop (h:gW b ok0 K p0 ok (k+1) p last sum out) (c:¬((((ok&&eZ b p 4611686018427387904)&&eZ b (bG b p) 16777216)&&eZ b (bG b (bG b p)) 16777216)=true/\last<=lI b p)):kR b ok0 K p0 0 0=none:=by
 unfold gW at h
 rw [h]
 cases ok with
 |false=>rfl
 | true =>
  rw [IV,jY,if_neg]
  ·rfl
  ·rintro ⟨a,d⟩
   refine c ⟨?_,d⟩
   unfold tX at a
   rw [ab8,ad9]
   exact a
theorem gW.fin (h:gW b ok0 K p0 true 0 p last sum out):kR b ok0 K p0 0 0=some (out,p,sum):=by grind [gW,IV,jY]
theorem gW.bad (h:gW b ok0 K p0 false k p last sum out):kR b ok0 K p0 0 0=none:=by
 unfold gW at h
 rw [h,q79]
 rfl
def zj2:lI b p<=4611686018427387904:=qJ _ _
def zj3:lJ b p<=16777216:=qJ _ _
def zj4:mY b p<=16777216:=qJ _ _
end
def ED (w:World) (R:List Pl×Nat) (r:Ending) (a:World):Prop:=
 (∃A c,r= .returned (.tuple #[.slice A (abn R.1) c,.int .i64 (R.2:Int)])/\a.ownsRow w.heap.size 57 4 (.slice A (abn R.1) c) (abn R.1) (R.1.flatMap jA)/\abn R.1<=c)/\Below w.heap.size w a
def zJ {R:List Pl×Nat} {n:Int} (hb:Below w.heap.size w W) (a:R=([],er)) (c:n=er):ED w R (.returned (.tuple #[.slice none 0 0,.int .i64 n])) W:=by
 subst a c
 exact ⟨⟨none,0,rfl,World.ownsRow_nil _ _ _ _,abr _⟩,hb⟩
def q8t {R:List Pl×Nat} {L:List Pl} (a:R=(L,0)) (d:n=abn L) (e:W.ownsRow w.heap.size 57 4 (.slice A n c) n (L.flatMap jA)) (hc:n<=c) (hb:Below w.heap.size w W):ED w R (.returned (.tuple #[.slice A n c,.int .i64 0])) W:=by
 subst a d
 exact ⟨⟨A,c,rfl,e,hc⟩,hb⟩
def Pl.zK (a:Nat) (x:Pl):Pl:={x with sn:=x.sn+a}
def Pl.Dt (a:Nat) (x:Pl):Pl:={x with sn:=x.sn+a,st:=x.st+a}
theorem q8u {f:Pl->Pl} {l:List Pl} (h:abn l<=k):fZ f l k=l.map f:=by grind [fZ,adx,abI]
abbrev ah9 {α β:Type}:=λa b (c:List α) d e f (g:List β) h i j k l=>(.blk a #[.slice b (abn c) d,vI e,.slice f (abn (g++[h])) i,j] 300::.row (.slice f (abn (g++[h])) i) (abn (g++[h])) k 41 1::l:List Fact)
def wQ (W:World) (g p:Nat) (A:Option Addr) (c:Nat) (b q:List Nat) (h:Value) (fs:List Fact) (r:Ending) (d:World):Prop:=
 (∃x e f a,bR b p x e/\r= .returned (vQ x)/\abn (q++[x])<=a/\Mem W d (ah9 g A b c e f q x a h ((q++[x]).map bD) fs))\/((aD (b.drop p)).2.2≠0/\kQ W fs (qO gK 344) r d)
def zdy {g p:Nat} {A:Option Addr} {c:Nat} {b q:List Nat} {z:Value} (h:(aD (b.drop p)).2.2≠0) (a:kQ W fs (qO gK 344) r w):wQ W g p A c b q z fs r w:= .inr ⟨h,a⟩
def zdz {p:Nat} (h:bR b p x e) (hr:r= .returned (vQ x)) (hc:abn (q++[x])<=m) (hm:Mem W w (.blk g #[.slice A (abn b) c,vI e,.slice E (abn (q++[x])) m,z] 300:: .row (.slice E (abn (q++[x])) m) (abn (q++[x])) ((q++[x]).map bD) 41 1::fs)):wQ W g p A c b q z fs r w:= .inl ⟨x,e,E,m,h,hr,hc,hm⟩
def qn6 (W w:World) (g p:Nat) (A D:Option Addr) (c E:Nat) (b q:List Nat) (m:Value) (fs:List Fact) (I:Mem W w (.blk g #[.slice A (abn b) c,vI p,.slice D (abn q) E,m] 300:: .row (.slice D (abn q) E) (abn q) (q.map bD) 41 1::fs)) (o:Rd W W.heap.size 1 A (abn b) (b.map B8)) (r:abn b<=c) (J:∀z∈b,z<256) (hb:abn b<=16777216) (F:p<=abn b) (R:abn q<=p):
    Calls abo 280 #[vP g 0] w (wQ W g p A c b q m fs):=by
 refine (eF Tryz.func280 42) ?_
 refine (JC (h:=by exact λd=>I)) ?_
 have l:∃x n s,aD (b.drop p)=(x,n,s):=⟨_,_,_,rfl⟩
 obtain ⟨x,n,s,l⟩:=l
 have t:∀z∈b.drop p,z<256:=λz hz=>J z (abL hz)
 have K:abn (b.drop p)=abn b-p:=abC
 refine (cO 1) λa Z d=>?_
 refine wp_seq ?_
 refine Jb Z d ((Vs .n []) λL=>(Vp [0,4]∘Vn 1∘Vf 2 0∘Vc 3 O0∘Vn 5∘Vf 6 1∘Vc 7 O0∘Vy 8 (v:= .slice (if c=p then A else A.map (·.add (p*1))) (abn b-p) (c-p)) (h:=by exact aae bn (j:=p) rfl rfl rfl om)∘Vo (.slice (if c=p then A else A.map (·.add (p*1))) (abn (b.drop p)) (c-p)) (by rw [abC])∘VI 9 .n (h:=by exact λd=>zdm l (IC (d.old o) F r) t om)) λM N=>(Vp [10]∘Vx 11∘Vx 12∘Vx 13∘Vp [14,15,16]∘Vd∘bN 2∘bQ∘Jj) (Jh (λf=>?_) λf=>?_))
 ·
  refine (JT∘JR) λa Z d=>?_
  refine fo Z 0 rfl rfl ?_
  exact oL Z [vI 344] rfl (Nh 344 _ (d.pt 2 [])) λS d=>Ep Z (zdy (q7v l f) ⟨rfl,d⟩)
 have u:s=0:=by omega
 subst u
 have G:=qyi F l
 refine (aU∘aJ 1∘Jn∘Jg 1 O0∘Jp 1∘Ja∘Jn∘Jf 1∘JW aO fJ) λH=>(iQ∘bA 2∘Jn∘Jg 2 O0∘Jp 1∘JU kD #[vQ x]) λO P=>(JD [bD x] 2 (λ_ _=>iq) kD (hr:=by exact λd=>d.bB (i:=0) (n:=1) (size:=1) rfl rfl) (h1:=by simp [abR,bD,B8])) λQ y B k=>(Jn∘Jf 2∘JW fJ iq) λC=>(iQ∘Jq) ?_
 have e:abn q+1=abn (q++[x]):=nK rfl
 rw [e] at k
 exact (JC (h:=by exact λd=>d.aY (i:=2) (ys:=(q++[x]).map bD) rfl e (by simp))∘JC (h:=by exact λd=>d.dW (i:=1) (ds:= #[abk A b c,vI (p+n:Nat),abk y (q++[x]) B,m]) rfl (by rw [e];try rfl))∘JG∘aJ 2∘kW∘aP∘bC) λd=>zdz (.of l) rfl k (d.pt 3 [1,2])
def ND (W w:World) (g p:Nat) (A d:Option Addr) (c a:Nat) (b q:List Nat) (i:Value) (fs:List Fact) (m:Mem W w (.blk g #[.slice A (abn b) c,vI p,.slice d (abn q) a,i] 300:: .row (.slice d (abn q) a) (abn q) (q.map bD) 41 1::fs)) (j:Rd W W.heap.size 1 A (abn b) (b.map B8)) (k:abn b<=c) (n:∀z∈b,z<256) (hb:abn b<=16777216) (o:p<=abn b) (s:abn q<=p) {x e:Nat} (h:bR b p x e):
  Calls abo 280 #[vP g 0] w (λr l=>r= .returned (vQ x)/\∃d a,abn (q++[x])<=a/\Mem W l (ah9 g A b c e d q x a i ((q++[x]).map bD) fs)):=
 (qn6 W w g p A d c a b q i fs m j k n hb o s).mono λr l t => by
  rcases t with ⟨B,e2,d,a,f,u,v,y⟩|⟨f,_⟩
  ·obtain ⟨rfl,rfl⟩:=bR.one h f
   exact ⟨u,d,a,v,y⟩
  ·rw [h.1] at f;exact absurd rfl f
def NG (W w:World) (g p:Nat) (A a:Option Addr) (c d:Nat) (b q:List Nat) (j:Value) (fs:List Fact) (k:Mem W w (.blk g #[.slice A (abn b) c,vI p,.slice a (abn q) d,j] 300:: .row (.slice a (abn q) d) (abn q) (q.map bD) 41 1::fs)) (e:Rd W W.heap.size 1 A (abn b) (b.map B8)) (f:abn b<=c) (l:∀z∈b,z<256) (hb:abn b<=16777216) (m:p<=abn b) (n:abn q<=p) (h:(aD (b.drop p)).2.2≠0):
  Calls abo 280 #[vP g 0] w (kQ W fs (qO gK 344)):=
 (qn6 W w g p A a c d b q j fs k e f l hb m n).mono λr s o => by
  rcases o with ⟨t,e2,a,d,i,u,v,x⟩|⟨_,i⟩
  ·rw [i.1] at h;exact absurd rfl h
  ·exact i
def sw (W:World) (g p:Nat) (A:Option Addr) (c:Nat) (b q:List Nat) (i:Value) (f hi:Nat) (fs:List Fact) (r:Ending) (a:World):Prop:=
 (∃x e h d,bR b p x e/\¬(x<f\/hi<x)/\r= .returned (vI x)/\abn (q++[x])<=d/\Mem W a (ah9 g A b c e h q x d i ((q++[x]).map bD) fs))\/((∃x e,bR b p x e/\(x<f\/hi<x))/\kQ W fs (qO gK 345) r a)\/((aD (b.drop p)).2.2≠0/\kQ W fs (qO gK 344) r a)
def zd0 {g p:Nat} {A:Option Addr} {c:Nat} {b q:List Nat} {z:Value} {m hi:Nat} (h:(aD (b.drop p)).2.2≠0) (a:kQ W fs (qO gK 344) r w):sw W g p A c b q z m hi fs r w:= .inr (.inr ⟨h,a⟩)
def qs6 {g p:Nat} {A:Option Addr} {c:Nat} {b q:List Nat} {z:Value} (h:bR b p x e) (a:x<m\/hi<x) (d:kQ W fs (qO gK 345) r w):sw W g p A c b q z m hi fs r w:= .inr (.inl ⟨⟨x,e,h,a⟩,d⟩)
def zd1 {p:Nat} (h:bR b p x e) (a:¬(x<m\/hi<x)) (hr:r= .returned (vI x)) (hc:abn (q++[x])<=n) (hm:Mem W w (.blk g #[.slice A (abn b) c,vI e,.slice E (abn (q++[x])) n,z] 300:: .row (.slice E (abn (q++[x])) n) (abn (q++[x])) ((q++[x]).map bD) 41 1::fs)):sw W g p A c b q z m hi fs r w:= .inl ⟨x,e,E,n,h,a,hr,hc,hm⟩
def Uc (W w:World) (g p:Nat) (A m:Option Addr) (c n:Nat) (b q:List Nat) (o:Value) (fs:List Fact) (u hi:Nat) (C:hi<9223372036854775808) (D:Mem W w (.blk g #[.slice A (abn b) c,vI p,.slice m (abn q) n,o] 300:: .row (.slice m (abn q) n) (abn q) (q.map bD) 41 1::fs)) (i:Rd W W.heap.size 1 A (abn b) (b.map B8)) (j:abn b<=c) (r:∀z∈b,z<256) (hb:abn b<=16777216) (v:p<=abn b) (y:abn q<=p):
    Calls abo 281 #[vP g 0,vQ u,vQ hi] w (sw W g p A c b q o u hi fs):=by
 refine (uU Tryz.func281 21) ?_
 refine (JC (h:=by exact λd=>D)∘cO 1∘JQ) λa Z d=>?_
 rcases Es b p with f|⟨x,e,f⟩
 ·
  refine Jb Z d ((JR∘Jp 1) λa Z d=>?_)
  refine fo Z 1 rfl rfl ?_
  exact oL Z [vP g 0] rfl (NG W _ g p A m c n b q o _ (d.pt 2 [0,1]) i j r hb v y f) λB d=>Ep Z (zd0 f ⟨rfl,(d)⟩)
 ·
  have E:=f.lt r
  refine Jb Z d ((JR∘Jp 1∘JL (h:=by exact λd=>ND W _ g p A m c n b q o _ (d.pt 2 [0,1]) i j r hb v y f)) ?_)
  rintro d _ F ⟨rfl,G,H,s,t⟩
  refine ⟨_,rfl,_,t,?_⟩
  refine (Jp 1∘bQ∘Jj∘bN 4) (Ji (λk=>?_) λk=>?_)
  ·
   refine (Jp 4∘aH∘Jj∘JT∘JR) λa Z d=>?_
   refine fo Z 0 rfl rfl ?_
   exact oL Z [vI 345] rfl (Nh 345 _ (d.pt 2 [])) λB d=>Ep Z (qs6 f (.inl om) ⟨rfl,d⟩)
  refine (Jp 4∘aH∘Jj) (Ji (λl=>?_) λl=>?_)
  ·
   refine (JT∘JR) λa Z d=>?_
   refine fo Z 0 rfl rfl ?_
   exact oL Z [vI 345] rfl (Nh 345 _ (d.pt 2 [])) λB d=>Ep Z (qs6 f (.inr om) ⟨rfl,d⟩)
  exact (aU∘aJ 1∘Jw .i64∘Jp 1∘bQ∘aP∘bC) λd=>zd1 f om rfl s (d.pt 2 [0,1])
def NH (W w:World) (g p:Nat) (A d:Option Addr) (c a:Nat) (b q:List Nat) (i:Value) (fs:List Fact) (j hi:Nat) (k:hi<9223372036854775808) (s:Mem W w (.blk g #[.slice A (abn b) c,vI p,.slice d (abn q) a,i] 300:: .row (.slice d (abn q) a) (abn q) (q.map bD) 41 1::fs)) (l:Rd W W.heap.size 1 A (abn b) (b.map B8)) (m:abn b<=c) (t:∀z∈b,z<256) (hb:abn b<=16777216) (u:p<=abn b) (v:abn q<=p) {x e:Nat} (h:bR b p x e) (y:¬(x<j\/hi<x)):
  Calls abo 281 #[vP g 0,vQ j,vQ hi] w (λr o=>r= .returned (vI x)/\∃d a,abn (q++[x])<=a/\Mem W o (ah9 g A b c e d q x a i ((q++[x]).map bD) fs)):=
 (Uc W w g p A d c a b q i fs j hi k s l m t hb u v).mono λr o B => by
  rcases B with ⟨C,e2,d,a,f,_,n,D,E⟩|⟨⟨C,e2,f,n⟩,_⟩|⟨f,_⟩
  ·obtain ⟨rfl,rfl⟩:=bR.one h f
   exact ⟨n,d,a,D,E⟩
  ·obtain ⟨rfl,rfl⟩:=bR.one h f
   exact absurd n y
  ·rw [h.1] at f;exact absurd rfl f
def Ud (W w:World) (g p:Nat) (A d:Option Addr) (c f:Nat) (b q:List Nat) (m:Value) (fs:List Fact) (i hi:Nat) (j:hi<9223372036854775808) (n:Mem W w (.blk g #[.slice A (abn b) c,vI p,.slice d (abn q) f,m] 300:: .row (.slice d (abn q) f) (abn q) (q.map bD) 41 1::fs)) (k:Rd W W.heap.size 1 A (abn b) (b.map B8)) (l:abn b<=c) (o:∀z∈b,z<256) (hb:abn b<=16777216) (s:p<=abn b) (t:abn q<=p) {x e:Nat} (h:bR b p x e) (u:x<i\/hi<x):
  Calls abo 281 #[vP g 0,vQ i,vQ hi] w (kQ W fs (qO gK 345)):=
 (Uc W w g p A d c f b q m fs i hi j n k l o hb s t).mono λr B v => by
  rcases v with ⟨C,e2,d,f,a,y,_⟩|⟨_,a⟩|⟨a,_⟩
  ·obtain ⟨rfl,rfl⟩:=bR.one h a
   exact absurd u y
  ·exact a
  ·rw [h.1] at a;exact absurd rfl a
def Ue (W w:World) (g p:Nat) (A d:Option Addr) (c e:Nat) (b q:List Nat) (k:Value) (fs:List Fact) (l hi:Nat) (f:hi<9223372036854775808) (m:Mem W w (.blk g #[.slice A (abn b) c,vI p,.slice d (abn q) e,k] 300:: .row (.slice d (abn q) e) (abn q) (q.map bD) 41 1::fs)) (i:Rd W W.heap.size 1 A (abn b) (b.map B8)) (j:abn b<=c) (n:∀z∈b,z<256) (hb:abn b<=16777216) (o:p<=abn b) (s:abn q<=p) (h:(aD (b.drop p)).2.2≠0):
  Calls abo 281 #[vP g 0,vQ l,vQ hi] w (kQ W fs (qO gK 344)):=
 (Uc W w g p A d c e b q k fs l hi f m i j n hb o s).mono λr v t => by
  rcases t with ⟨u,e2,d,e,a,_⟩|⟨⟨u,e2,a,_⟩,_⟩|⟨_,a⟩
  ·rw [a.1] at h;exact absurd rfl h
  ·rw [a.1] at h;exact absurd rfl h
  ·exact a
def Uf (W:World) (g p:Nat) (A:Option Addr) (c:Nat) (b q:List Nat) (h:Value) (n:Nat) (fs:List Fact) (r:Ending) (d:World):Prop:=
 (∃xs e f a,kZ b n p xs e/\r= .returned (.tuple #[])/\abn (q++xs)<=a/\Mem W d (.blk g #[.slice A (abn b) c,vI e,.slice f (abn (q++xs)) a,h] 300:: .row (.slice f (abn (q++xs)) a) (abn (q++xs)) ((q++xs).map bD) 41 1::fs))\/((aV n (b.drop p)).2.2≠0/\kQ W fs (qO gK 344) r d)
def q8n {g p:Nat} {A:Option Addr} {c:Nat} {b q:List Nat} {z:Value} (h:(aV n (b.drop p)).2.2≠0) (a:kQ W fs (qO gK 344) r w):Uf W g p A c b q z n fs r w:= .inr ⟨h,a⟩
def q8o {p:Nat} (h:kZ b n p xs e) (hr:r= .returned (.tuple #[])) (hc:abn (q++xs)<=m) (hm:Mem W w (.blk g #[.slice A (abn b) c,vI e,.slice E (abn (q++xs)) m,z] 300:: .row (.slice E (abn (q++xs)) m) (abn (q++xs)) ((q++xs).map bD) 41 1::fs)):Uf W g p A c b q z n fs r w:= .inl ⟨xs,e,E,m,h,hr,hc,hm⟩
def qyx (W w:World) (g p:Nat) (A i:Option Addr) (c f:Nat) (b q:List Nat) (o:Value) (fs:List Fact) (n:Nat) (F:n<=1000000) (l:abn q<=f) (G:Mem W w (.blk g #[.slice A (abn b) c,vI p,.slice i (abn q) f,o] 300:: .row (.slice i (abn q) f) (abn q) (q.map bD) 41 1::fs)) (r:Rd W W.heap.size 1 A (abn b) (b.map B8)) (s:abn b<=c) (C:∀z∈b,z<256) (hb:abn b<=16777216) (H:p<=abn b) (N:abn q<=p):
    Calls abo 282 #[vP g 0,vI n] w (Uf W g p A c b q o n fs):=by
 refine (jf Tryz.func282 10) ?_
 refine (JC (h:=by exact λd=>G)∘aJ 2∘Jq) λa Z d=>?_
 rw [<-abP q] at d
 refine Jb Z d ((JG∘JB) λa Z d=>?_)
 refine qg (λD I J=>∃(k:Nat) (xs:List Nat) (e:Nat) (i:Option Addr) (f:Nat),(kZ b k p xs e)/\(k<=n)/\(abn (q++xs)<=f)/\D=n-k/\Fr I 10 [] ((0,vP g 0)::ahK 4 n 5 k [])/\Mem W J (.blk g #[abk A b c,vI e,abk i (q++xs) f,o] 300:: abl i (q++xs) f bD 41 1::fs)) (m:=n-0) ⟨0,[],p,i,f,kZ.nil b p,abA _,(by rw [abP];exact l),rfl,Z.sub kr,d.pt 2 [0,1]⟩ ?_
 clear Z d;rintro D a O ⟨k,xs,e,i,f,j,K,l,rfl,Z,d⟩
 have E:=j.in H
 refine Jb Z d ((cO 1∘JQ) (Ji (λv=>?_) λv=>?_))
 ·
  refine (eO) ?_
  have t:k<n:=by omega
  intro a Z d
  rcases Es b e with u|⟨x,e2,u⟩
  ·
   refine Jb Z d ((JR∘Jp 1) λa Z d=>?_)
   refine fo Z 1 rfl rfl ?_
   exact oL Z [vP g 0] rfl (NG W _ g e A i c f b (q++xs) o _ (d.pt 2 [0,1]) r s C hb om (by rw [abp];omega) u) λP d=>Ep Z (q8n (j.stuck t u) ⟨rfl,d⟩)
  ·
   refine Jb Z d ((JR∘Jp 1∘JL (h:=by exact λd=>ND W _ g e A i c f b (q++xs) o _ (d.pt 2 [0,1]) r s C hb om (by rw [abp];omega) u)) ?_)
   rintro d _ Q ⟨rfl,L,M,y,B⟩
   refine ⟨_,rfl,_,B,?_⟩
   refine (nA∘Jq) λa Z d=>?_
   unfold ah9 at d;rw [abu] at d
   refine Jb Z d ((JG∘JR∘dx 1∘Jp 1∘aK∘Jq) λa Z d=>?_)
   exact ⟨_,om,k+1,(xs++[x]),e2,L,M,j.snoc u,t,(by rwa [abu] at y),rfl,Z.sub kr,d.pt 2 [0,1]⟩
 refine (JF∘JX) ?_
 obtain rfl:k=n:=by omega
 intro a Z d
 exact iF rfl Z (q8o j rfl l d)
def Jz (W w:World) (g p:Nat) (A d:Option Addr) (c a:Nat) (b q:List Nat) (i:Value) (fs:List Fact) (n:Nat) (j:n<=1000000) (k:abn q<=a) (s:Mem W w (.blk g #[.slice A (abn b) c,vI p,.slice d (abn q) a,i] 300:: .row (.slice d (abn q) a) (abn q) (q.map bD) 41 1::fs)) (l:Rd W W.heap.size 1 A (abn b) (b.map B8)) (m:abn b<=c) (t:∀z∈b,z<256) (hb:abn b<=16777216) (u:p<=abn b) (v:abn q<=p) {xs:List Nat} {e:Nat} (h:kZ b n p xs e):
  Calls abo 282 #[vP g 0,vI n] w (λr o=>r= .returned (.tuple #[])/\∃d a,abn (q++xs)<=a/\Mem W o (.blk g #[.slice A (abn b) c,vI e,.slice d (abn (q++xs)) a,i] 300:: .row (.slice d (abn (q++xs)) a) (abn (q++xs)) ((q++xs).map bD) 41 1::fs)):=
 (qyx W w g p A d c a b q i fs n j k s l m t hb u v).mono λr o x => by
  rcases x with ⟨D,e2,d,a,f,y,B,C⟩|⟨f,_⟩
  ·obtain ⟨rfl,rfl⟩:=kZ.one h f
   exact ⟨y,d,a,B,C⟩
  ·rw [h.1] at f;exact absurd rfl f
def JN (W w:World) (g p:Nat) (A d:Option Addr) (c a:Nat) (b q:List Nat) (l:Value) (fs:List Fact) (n:Nat) (e:n<=1000000) (f:abn q<=a) (m:Mem W w (.blk g #[.slice A (abn b) c,vI p,.slice d (abn q) a,l] 300:: .row (.slice d (abn q) a) (abn q) (q.map bD) 41 1::fs)) (i:Rd W W.heap.size 1 A (abn b) (b.map B8)) (j:abn b<=c) (o:∀z∈b,z<256) (hb:abn b<=16777216) (s:p<=abn b) (t:abn q<=p) (h:(aV n (b.drop p)).2.2≠0):
  Calls abo 282 #[vP g 0,vI n] w (kQ W fs (qO gK 344)):=
 (qyx W w g p A d c a b q l fs n e f m i j o hb s t).mono λr v u => by
  rcases u with ⟨x,e2,d,a,k,y,B,C⟩|⟨_,k⟩
  ·rw [k.1] at h;exact absurd rfl h
  ·exact k
def zm5 (W w:World) (g p:Nat) (u y:Value) (q:Option Addr) (sc:Nat) (l:List jK) (nm:ByteArray) (fs:List Fact) (D:Mem W w (.blk g #[u,vI p,y,abk q l sc] 300:: abm q l sc gQ 435 3::fs)) (E:abn l<=1000):
    Calls abo 279 #[vP g 0,.string nm] w (λr F=>r= .returned (.tuple #[])/\∃q sc,abn (l++[(⟨nm,lH l,p⟩:jK)])<=sc/\Mem W F (.blk g #[u,vI p,y,.slice q (abn (l++[(⟨nm,lH l,p⟩:jK)])) sc] 300:: .row (.slice q (abn (l++[(⟨nm,lH l,p⟩:jK)])) sc) (abn (l++[(⟨nm,lH l,p⟩:jK)])) ((l++[(⟨nm,lH l,p⟩:jK)]).flatMap gQ) 435 3::fs)):=by
 refine (jf Tryz.func279 38) ?_
 refine (JC (h:=by exact λb=>D)∘cO 1∘bN 1∘Jn∘Jg 3 O0∘Jl∘Jp 1∘gq∘bA 2∘aK∘Jj) (Ji (λs=>?_) λs=>?_)
 ·
  refine (JT∘JR∘Jp 1∘Jn∘Jg 3 O0∘Jp 1∘zZ 1) ?_
  repeat (first|clear Z|clear b)
  intro a Z b
  obtain ⟨G,rfl⟩:=b.rat 1 (abn l-1)
  refine Jb Z b ((nU (abn l-1) 3∘Jf 2∘Jy (v:=vI ((l.getD (abn l-1) jK.zero).to)) (h:=by exact Pd rfl rfl kr (λ_ h=>h.qu zb3 (i:=1) rfl (k:=(abn l-1)) (off:=2) (x:=(l.getD (abn l-1) jK.zero)) ((getD_at jK.zero om)) rfl))∘Jo (vI (lH l)) (by exact rfl)∘Jp 1∘aH∘Jj∘Vs (.t (.f .n)) [16]) λz=>(Vp [0,1,5,6,7]∘Vn 2∘Vf 3 3∘Vc 4 O0∘Vn 8∘Vf 9 1∘Vc 10 O0∘Vy 11 (v:= .agg #[.string nm,vI (lH l),vI p]) (h:=by exact Yl.build (vs:=((0,.string nm)::ahK 1 (lH l) 2 p [])) rfl kr kr)) λa Z b m=>?_)
  refine s_on Z 12 rfl (jl Z b NC [(0,.agg #[.string nm,vI (lH l),vI p])] #[.string nm,vI (lH l),vI p] ?_)
  clear Z b;intro a A B Z b
  refine ay (b.pt 3 [1]) (λm=>?_)
  refine s_on Z 13 rfl (qV Z b (i:=2) rfl NC rfl rfl rfl (news:=([(⟨nm,lH l,p⟩:jK)].flatMap gQ)) (b.bB (i:=0) (n:=1) (size:=3) rfl rfl) (ZN _) om om rfl de ?_)
  clear Z b;intro a C e j Z b d
  refine ay (b.pt 3 [1]) (λm=>?_)
  refine Vb Z b m ((Vn 14∘Vf 15 3) λa Z b m=>?_)
  refine s_on Z 16 rfl (eG Z b 1 λo b=>?_)
  refine dN kr ?_
  refine qe kr ?_
  have c:abn l+1=abn (l++[(⟨nm,lH l,p⟩:jK)]):=nK rfl
  rw [c] at d
  replace b:=b.aY (i:=2) (ys:=(l++[(⟨nm,lH l,p⟩:jK)]).flatMap gQ) rfl c (List.flatMap_append.symm)
  replace Z:=Z.sp 35 (abk e (l++[(⟨nm,lH l,p⟩:jK)]) j) rfl (iB c)
  replace b:=b.dW (i:=1) (ds:= #[u,vI p,y,abk e (l++[(⟨nm,lH l,p⟩:jK)]) j]) rfl (by rw [c];try rfl)
  exact iF rfl Z ⟨rfl,e,j,d,b.pt 3 [1,2]⟩
 intro a Z b
 replace Z:=Z.sp 4 (vI (lH l)) rfl (by rw [zdk (l:=l) om];rfl)
 refine Jb Z b ((aU∘Vs (.t (.f .n)) [16]) λz=>(Vp [0,1,5,6,7]∘Vn 2∘Vf 3 3∘Vc 4 O0∘Vn 8∘Vf 9 1∘Vc 10 O0∘Vy 11 (v:= .agg #[.string nm,vI (lH l),vI p]) (h:=by exact Yl.build (vs:=((0,.string nm)::ahK 1 (lH l) 2 p [])) rfl kr kr)) λa Z b m=>?_)
 refine s_on Z 12 rfl (jl Z b NC [(0,.agg #[.string nm,vI (lH l),vI p])] #[.string nm,vI (lH l),vI p] ?_)
 clear Z b;intro a A B Z b
 refine ay (b.pt 3 [1]) (λm=>?_)
 refine s_on Z 13 rfl (qV Z b (i:=2) rfl NC rfl rfl rfl (news:=([(⟨nm,lH l,p⟩:jK)].flatMap gQ)) (b.bB (i:=0) (n:=1) (size:=3) rfl rfl) (ZN _) om om rfl de ?_)
 clear Z b;intro a C e j Z b d
 refine ay (b.pt 3 [1]) (λm=>?_)
 refine Vb Z b m ((Vn 14∘Vf 15 3) λa Z b m=>?_)
 refine s_on Z 16 rfl (eG Z b 1 λo b=>?_)
 refine dN kr ?_
 refine qe kr ?_
 have c:abn l+1=abn (l++[(⟨nm,lH l,p⟩:jK)]):=nK rfl
 rw [c] at d
 replace b:=b.aY (i:=2) (ys:=(l++[(⟨nm,lH l,p⟩:jK)]).flatMap gQ) rfl c (List.flatMap_append.symm)
 replace Z:=Z.sp 35 (abk e (l++[(⟨nm,lH l,p⟩:jK)]) j) rfl (iB c)
 replace b:=b.dW (i:=1) (ds:= #[u,vI p,y,abk e (l++[(⟨nm,lH l,p⟩:jK)]) j]) rfl (by rw [c];try rfl)
 exact iF rfl Z ⟨rfl,e,j,d,b.pt 3 [1,2]⟩
def zI (W w:World) (g p:Nat) (e f:Value) (d:Option Addr) (sc:Nat) (l:List jK) (nm:ByteArray) (fs:List Fact) (m:Mem W w (.blk g #[e,vI p,f,.slice d (abn l) sc] 300:: .row (.slice d (abn l) sc) (abn l) (l.flatMap gQ) 435 3::fs)) (j:abn l<=1000) {l2:List jK} (h:l++[(⟨nm,lH l,p⟩:jK)]=l2):
  Calls abo 279 #[vP g 0,.string nm] w (λr o=>r= .returned (.tuple #[])/\∃d sc,abn l2<=sc/\Mem W o (.blk g #[e,vI p,f,.slice d (abn l2) sc] 300:: .row (.slice d (abn l2) sc) (abn l2) (l2.flatMap gQ) 435 3::fs)):=by
 subst h
 exact zm5 W w g p e f d sc l nm fs m j
abbrev aib {α β:Type}:=λa (b:List α) c d e (f:List β) g h i=>(.row (.slice a (abn b) c) (abn b) d 41 1::.row (.slice e (abn f) g) (abn f) h 435 3::i:List Fact)
def NI (W:World) (g:Nat) (A:Option Addr) (c:Nat) (b:List Nat) (fs:List Fact) (r:Ending) (e:World):Prop:=
 (∃p f d h sc,uD b= .ok p/\r= .returned (vI 0)/\abn p.nums<=d/\abn p.secs<=sc/\Mem W e (.blk g #[.slice A (abn b) c,vI ((abn b+4:Nat):Int),.slice f (abn p.nums) d,.slice h (abn p.secs) sc] 300::aib f p.nums d (p.nums.map bD) h p.secs sc (p.secs.flatMap gQ) fs))\/(∃k:Nat,uD b= .error k/\r= .returned (vI k)/\Mem W e fs)
section
variable {W w:World} {g g2 c k i n:Nat} {A:Option Addr} {b:List Nat} {fs ks:List Fact} {σ:List (Nat×Value)} {a:Act}
def sD (Z:Fr a n [{target:= .fn (.func 278) [Value.pointer (some ⟨g2,0,none⟩)].toArray,args:= #[]}] σ) (d:σ.lookup 2=some (vP g2 0)) (e:Mem W w ks) (hi:ks[i]?=some (.blk g2 #[vI 0] gK)) (f:uD b= .error k) (j:List Nat) (h:j.Nodup) (l:picks (ks.set i (.blk g2 #[vI k] gK)) j=fs):
  Leaves abo Tryz.f240 a.tmps (NI W g A c b fs) a.defers (.panicking (qO gK k)) w:=by
 refine q12 (v:=vI k) Z kr (q7z k 0 w e hi rfl) rfl λo hm=>⟨?_,.inr ⟨k,f,rfl,hm.picks j h l⟩⟩
 have m:=(abB.1 hi).1
 exact mE.cell1 (i:=i) Z hm d (ac9 m) kr rfl
def zd2 (Z:Fr a n [{target:= .fn (.func 278) [Value.pointer (some ⟨g2,0,none⟩)].toArray,args:= #[]}] σ) (e:σ.lookup 2=some (vP g2 0)) (f:Mem W w ks) (hi:ks[i]?=some (.blk g2 #[vI 0] gK)) (hk:∀d,Mem W d (ks.set i (.blk g2 #[vI 0] gK))->NI W g A c b fs (.returned (vI 0)) d):
  Leaves abo Tryz.f240 a.tmps (NI W g A c b fs) a.defers .returning w:=by
 refine q7u (v:=vI 0) Z kr (q13 0 w f hi rfl) rfl λd hm=>⟨?_,hk d hm⟩
 have h:=(abB.1 hi).1
 exact mE.cell1 (i:=i) Z hm e (ac9 h) kr rfl
end
def qyz (nx cp cr gp:Nat) (gs cl cu:List Nat) (tk:Nat) (ts sp:List Nat) (e1 e2 e3 e4 e5 e6 e7:Nat):(⟨nx,cp,cr,gp,gs,cl,cu,tk,ts,sp,e1,e2,e3,e4,e5,e6,e7⟩:Pr).nums=((((((((((([]:List Nat)++[nx])++[cp])++[cr])++[gp])++gs)++cl)++cu)++[tk])++ts)++sp):=by simp [Pr.nums]
abbrev ahx:=λa b c d e f g h i j k l m n o=>(.blk a #[.slice b c d,vI e,.slice f g h,.slice i j k] 300::.row (.slice i j k) j l 435 3::.row (.slice f g h) g m 41 1::.blk n #[vI 0] 27::o:List Fact)
abbrev ahV {α:Type}:=λa b (c:List α) d e f g h i j k l m n=>(.blk a #[abk b c d,vI e,.slice f g h,.slice i j k] 300::.row (.slice i j k) j l 435 3::.row (.slice f g h) g m 41 1::n:List Fact)
abbrev ah2 {α:Type}:=λa b c d e f (g:List α) h i j k l m=>(.blk a #[.slice b c d,vI e,abk f g h,.slice i j k] 300::.row (.slice i j k) j l 435 3::m:List Fact)
def qy0 (W w : World) (g : Nat) (A : Option Addr) (c : Nat) (b : List Nat) (HW : Mem W w [.blk g #[.slice A (abn b) c, vI 0, vN, vN] 300]) (j : Rd W W.heap.size 1 A (abn b) (b.map B8)) (l : abn b <= c) (F : ∀ z ∈ b, z < 256) (hb : abn b <= 16777216) (hb3 : 3 <= abn b) :
    Calls abo 240 #[vP g 0] w (NI W g A c b []):=by
 refine qsu (vs:=[vP g 0]) Tryz.func240 rfl rfl kr (σ0:=[(0,vP g 0)]) rfl ?_
 intro a Z
 have d:=Mem.start w
 replace d:=(HW.nil 435 3).nil 41 1
 have hc0:abn ([]:List Nat)<=0:=abr _
 have r:uD b=uD b:=rfl
 have hq0:abn ([]:List Nat)<=3:=abA _
 refine Jb Z d ((JP∘JA #[vI 0]) λw2 g2=>(Jr∘Jy (h:=by exact Yl.makeFunc (fst:=[]) (caps:=[vP g2 0]) rfl rfl rfl)) λa Z d=>?_)
 refine fo Z 1 rfl rfl ?_
 refine zjc Z (f:=278) (caps:=[vP g2 0]) rfl rfl rfl ?_
 clear Z;intro a Z
 refine Jb Z d ((ny∘bA 1∘Jn∘Jf 1∘JW oV fJ) λaq4=>(nT∘bA 1∘JL (h:=by exact λd=>zI (l2:=[qh]) W _ g 3 _ _ none 0 ([]:List jK) _ _ (d.pk [3,2,0,1]) (acy rfl) rfl)) ?_)
 rintro d _ qY ⟨rfl,JY,k10,hk10,e⟩
 refine ⟨_,rfl,_,e,?_⟩
 refine (nA∘Jq∘JC (h:=by exact λd=>(show Mem W _ [.blk g #[.slice A (abn b) c,vI 3,abk none ([]:List Nat) 0,.slice JY ([qh].length) k10] 300,.row (.slice JY ([qh].length) k10) ([qh].length) ([qh].flatMap gQ) 435 3,.blk g2 #[vI 0] 27,abl none ([]:List Nat) 0 bD 41 1] from d))∘JG∘JQ) λa Z d=>?_
 rcases Es b 3 with t|⟨nx,e1,t⟩
 ·
  refine Jb Z d ((JR∘Jp 1) λa Z d=>?_)
  refine fo Z 1 rfl rfl ?_
  exact oL Z [vP g 0] rfl (NG W _ g 3 A none c 0 b ([]:List Nat) (.slice JY ([qh].length) k10) _ (d.pk [0,3,1,2]) j l F hb hb3 hq0 t) λw2 d=>sD Z rfl d (i:=1) rfl (r.trans (Nc t)) [] de rfl
 ·
  have r:=r.trans t.go1
  have G:=t.in hb3
  have Q:=qA (x:=nx) hq0 G.1
  refine Jb Z d ((JR∘Jp 1∘JL (h:=by exact λd=>ND W _ g 3 A none c 0 b ([]:List Nat) (.slice JY ([qh].length) k10) _ (d.pk [0,3,1,2]) j l F hb hb3 hq0 t)) ?_)
  rintro d _ yB ⟨rfl,J2,c12,aq5,e⟩
  refine ⟨_,rfl,_,e,?_⟩
  refine (nA∘bA 1∘JL (h:=by exact λd=>zI (l2:=[qh,⟨qb 0,3,e1⟩]) W _ g e1 _ _ JY k10 ([qh]) _ _ (d.pk [0,2,1,3]) (acy rfl) rfl)) ?_
  rintro d _ FV ⟨rfl,H,I,aq6,e⟩
  refine ⟨_,rfl,_,e,?_⟩
  refine (nA∘Jq∘JC (h:=by exact λd=>(show Mem W _ [.blk g #[.slice A (abn b) c,vI e1,abk J2 (([]:List Nat)++[nx]) c12,.slice H ([qh,⟨qb 0,3,e1⟩].length) I] 300,.row (.slice H ([qh,⟨qb 0,3,e1⟩].length) I) ([qh,⟨qb 0,3,e1⟩].length) ([qh,⟨qb 0,3,e1⟩].flatMap gQ) 435 3,abl J2 (([]:List Nat)++[nx]) c12 bD 41 1,.blk g2 #[vI 0] 27] from d))∘JG∘JQ) λa Z d=>?_
  rcases Ng b e1 1 64 with p|⟨cp,a1,p,J⟩|⟨cp,a1,p,J⟩
  ·
   refine Jb Z d ((JR∘Jp 1) λa Z d=>?_)
   refine fo Z 1 rfl rfl ?_
   exact oL Z [vP g 0,vQ 1,vQ 64] rfl (Ue W _ g e1 A J2 c c12 b (([]:List Nat)++[nx]) (.slice H ([qh,⟨qb 0,3,e1⟩].length) I) _ 1 64 de (d.pk [0,2,1,3]) j l F hb G.2 Q p) λw2 d=>sD Z rfl d (i:=1) rfl (r.trans (Nf p)) [] de rfl
  ·
   refine Jb Z d ((JR∘Jp 1) λa Z d=>?_)
   refine fo Z 1 rfl rfl ?_
   exact oL Z [vP g 0,vQ 1,vQ 64] rfl (Ud W _ g e1 A J2 c c12 b (([]:List Nat)++[nx]) (.slice H ([qh,⟨qb 0,3,e1⟩].length) I) _ 1 64 de (d.pk [0,2,1,3]) j l F hb G.2 Q p J) λw2 d=>sD Z rfl d (i:=1) rfl (r.trans (p.bad J)) [] de rfl
  ·
   have r:=r.trans (p.goC J)
   have R:=p.in G.2
   have Y:=qA (x:=cp) Q R.1
   refine Jb Z d ((JR∘Jp 1∘JL (h:=by exact λd=>NH W _ g e1 A J2 c c12 b (([]:List Nat)++[nx]) (.slice H ([qh,⟨qb 0,3,e1⟩].length) I) _ 1 64 de (d.pk [0,2,1,3]) j l F hb G.2 Q p J)) ?_)
   rintro d _ w16 ⟨rfl,A16,c16,hc16,e⟩
   refine ⟨_,rfl,_,e,?_⟩
   refine (Jp 1∘bQ∘Jj∘JQ) λa Z d=>?_
   rcases Es b a1 with u|⟨cr,a2,u⟩
   ·
    refine Jb Z d ((JR∘Jp 1) λa Z d=>?_)
    refine fo Z 1 rfl rfl ?_
    exact oL Z [vP g 0] rfl (NG W _ g a1 A A16 c c16 b ((([]:List Nat)++[nx])++[cp]) (.slice H ([qh,⟨qb 0,3,e1⟩].length) I) _ (d.pk [0,1,2,3]) j l F hb R.2 Y u) λw2 d=>sD Z rfl d (i:=1) rfl (r.trans (Nc u)) [] de rfl
   ·
    have r:=r.trans u.go1
    have K:=u.in R.2
    have S:=qA (x:=cr) Y K.1
    refine Jb Z d ((JR∘Jp 1∘JL (h:=by exact λd=>ND W _ g a1 A A16 c c16 b ((([]:List Nat)++[nx])++[cp]) (.slice H ([qh,⟨qb 0,3,e1⟩].length) I) _ (d.pk [0,1,2,3]) j l F hb R.2 Y u)) ?_)
    rintro d _ uW ⟨rfl,NJ,c18,hc18,e⟩
    refine ⟨_,rfl,_,e,?_⟩
    refine (nA∘Jj∘JQ) λa Z d=>?_
    rcases Ng b a2 1 256 with q|⟨gp,e2,q,L⟩|⟨gp,e2,q,L⟩
    ·
     refine Jb Z d ((JR∘Jp 1) λa Z d=>?_)
     refine fo Z 1 rfl rfl ?_
     exact oL Z [vP g 0,vQ 1,vQ 256] rfl (Ue W _ g a2 A NJ c c18 b (((([]:List Nat)++[nx])++[cp])++[cr]) (.slice H ([qh,⟨qb 0,3,e1⟩].length) I) _ 1 256 de (d.pk [0,1,2,3]) j l F hb K.2 S q) λw2 d=>sD Z rfl d (i:=1) rfl (r.trans (Nf q)) [] de rfl
    ·
     refine Jb Z d ((JR∘Jp 1) λa Z d=>?_)
     refine fo Z 1 rfl rfl ?_
     exact oL Z [vP g 0,vQ 1,vQ 256] rfl (Ud W _ g a2 A NJ c c18 b (((([]:List Nat)++[nx])++[cp])++[cr]) (.slice H ([qh,⟨qb 0,3,e1⟩].length) I) _ 1 256 de (d.pk [0,1,2,3]) j l F hb K.2 S q L) λw2 d=>sD Z rfl d (i:=1) rfl (r.trans (q.bad L)) [] de rfl
    ·
     have r:=r.trans (q.goC L)
     have T:=q.in K.2
     have wR:=qA (x:=gp) S T.1
     refine Jb Z d ((JR∘Jp 1∘JL (h:=by exact λd=>NH W _ g a2 A NJ c c18 b (((([]:List Nat)++[nx])++[cp])++[cr]) (.slice H ([qh,⟨qb 0,3,e1⟩].length) I) _ 1 256 de (d.pk [0,1,2,3]) j l F hb K.2 S q L)) ?_)
     rintro d _ FN ⟨rfl,NK,c20,J3,e⟩
     refine ⟨_,rfl,_,e,?_⟩
     refine (Jp 1∘bQ∘Jq) ?_
     have h3:3*cp*(gp-1)<=192*255:=Nat.mul_le_mul om om
     refine (JG∘aJ 1∘JL (h:=by exact λd=>zI (l2:=[qh,⟨qb 0,3,e1⟩,⟨qb 1,e1,e2⟩]) W _ g e2 _ _ H I ([qh,⟨qb 0,3,e1⟩]) _ _ (d.pk [0,2,1,3]) (acy rfl) rfl)) ?_
     rintro d _ OT ⟨rfl,J4,k22,aq7,e⟩
     refine ⟨_,rfl,_,e,?_⟩
     refine (nA∘Jq∘JC (h:=by exact λd=>(show Mem W _ (ahx g A (abn b) c e2 NK (abn ((((([]:List Nat)++[nx])++[cp])++[cr])++[gp])) c20 J4 ([qh,⟨qb 0,3,e1⟩,⟨qb 1,e1,e2⟩].length) k22 ([qh,⟨qb 0,3,e1⟩,⟨qb 1,e1,e2⟩].flatMap gQ) (((((([]:List Nat)++[nx])++[cp])++[cr])++[gp]).map bD) g2 []) from d))∘JG∘JQ) λa Z d=>?_
     rcases Et b (2*(gp-1)) e2 with v|⟨gs,e3,v⟩
     ·
      refine Jb Z d ((JR∘Jp 2∘zZ 1∘Jp 1∘Jo (vI (2*(gp-1):Nat)) (by exact za om om)) λa Z d=>?_)
      refine fo Z 4 rfl rfl ?_
      exact oL Z [vP g 0,vI (2*(gp-1):Nat)] rfl (JN W _ g e2 A NK c c20 b ((((([]:List Nat)++[nx])++[cp])++[cr])++[gp]) (.slice J4 ([qh,⟨qb 0,3,e1⟩,⟨qb 1,e1,e2⟩].length) k22) _ (2*(gp-1)) om J3 (d.pk [0,2,1,3]) j l F hb T.2 wR v) λw2 d=>sD Z rfl d (i:=1) rfl (r.trans (Er v)) [] de rfl
     ·
      have r:=r.trans v.goK
      have M:=v.in T.2
      have wT:=qB (xs:=gs) wR M.1 M.2.1
      refine Jb Z d ((JR∘Jp 2∘zZ 1∘Jp 1∘Jo (vI (2*(gp-1):Nat)) (by exact za om om)∘JL (h:=by exact λd=>Jz W _ g e2 A NK c c20 b ((((([]:List Nat)++[nx])++[cp])++[cr])++[gp]) (.slice J4 ([qh,⟨qb 0,3,e1⟩,⟨qb 1,e1,e2⟩].length) k22) _ (2*(gp-1)) om J3 (d.pk [0,2,1,3]) j l F hb T.2 wR v)) ?_)
      rintro d _ Hl ⟨rfl,NM,NP,hc27,e⟩
      refine ⟨_,rfl,_,e,?_⟩
      refine (qI∘bA 1∘JL (h:=by exact λd=>zI (l2:=[qh,⟨qb 0,3,e1⟩,⟨qb 1,e1,e2⟩,⟨qb 2,e2,e3⟩]) W _ g e3 _ _ J4 k22 ([qh,⟨qb 0,3,e1⟩,⟨qb 1,e1,e2⟩]) _ _ (d.pk [0,2,1,3]) (acy rfl) rfl)) ?_
      rintro d _ w29 ⟨rfl,J5,J6,aq8,e⟩
      refine ⟨_,rfl,_,e,?_⟩
      refine (nA∘Jq∘JC (h:=by exact λd=>(show Mem W _ (ahx g A (abn b) c e3 NM (abn (((((([]:List Nat)++[nx])++[cp])++[cr])++[gp])++gs)) NP J5 ([qh,⟨qb 0,3,e1⟩,⟨qb 1,e1,e2⟩,⟨qb 2,e2,e3⟩].length) J6 ([qh,⟨qb 0,3,e1⟩,⟨qb 1,e1,e2⟩,⟨qb 2,e2,e3⟩].flatMap gQ) ((((((([]:List Nat)++[nx])++[cp])++[cr])++[gp])++gs).map bD) g2 []) from d))∘JG∘JQ) λa Z d=>?_
      rcases Et b cp e3 with y|⟨cl,e4,y⟩
      ·
       refine Jb Z d ((JR∘Jp 2) λa Z d=>?_)
       refine fo Z 2 rfl rfl ?_
       exact oL Z [vP g 0,vI cp] rfl (JN W _ g e3 A NM c NP b (((((([]:List Nat)++[nx])++[cp])++[cr])++[gp])++gs) (.slice J5 ([qh,⟨qb 0,3,e1⟩,⟨qb 1,e1,e2⟩,⟨qb 2,e2,e3⟩].length) J6) _ cp om hc27 (d.pk [0,2,1,3]) j l F hb M.2.2 wT y) λw2 d=>sD Z rfl d (i:=1) rfl (r.trans (Er y)) [] de rfl
      ·
       have r:=r.trans y.goK
       have N:=y.in M.2.2
       have wU:=qB (xs:=cl) wT N.1 N.2.1
       refine Jb Z d ((JR∘Jp 2∘JL (h:=by exact λd=>Jz W _ g e3 A NM c NP b (((((([]:List Nat)++[nx])++[cp])++[cr])++[gp])++gs) (.slice J5 ([qh,⟨qb 0,3,e1⟩,⟨qb 1,e1,e2⟩,⟨qb 2,e2,e3⟩].length) J6) _ cp om hc27 (d.pk [0,2,1,3]) j l F hb M.2.2 wT y)) ?_)
       rintro d _ w32 ⟨rfl,NQ,c32,hc32,e⟩
       refine ⟨_,rfl,_,e,?_⟩
       refine (nT∘bA 1∘JL (h:=by exact λd=>zI (l2:=[qh,⟨qb 0,3,e1⟩,⟨qb 1,e1,e2⟩,⟨qb 2,e2,e3⟩,⟨qb 3,e3,e4⟩]) W _ g e4 _ _ J5 J6 ([qh,⟨qb 0,3,e1⟩,⟨qb 1,e1,e2⟩,⟨qb 2,e2,e3⟩]) _ _ (d.pk [0,2,1,3]) (acy rfl) rfl)) ?_
       rintro d _ PZ ⟨rfl,J7,J8,aq9,e⟩
       refine ⟨_,rfl,_,e,?_⟩
       refine (nA∘Jq∘JC (h:=by exact λd=>(show Mem W _ (ahx g A (abn b) c e4 NQ (abn ((((((([]:List Nat)++[nx])++[cp])++[cr])++[gp])++gs)++cl)) c32 J7 ([qh,⟨qb 0,3,e1⟩,⟨qb 1,e1,e2⟩,⟨qb 2,e2,e3⟩,⟨qb 3,e3,e4⟩].length) J8 ([qh,⟨qb 0,3,e1⟩,⟨qb 1,e1,e2⟩,⟨qb 2,e2,e3⟩,⟨qb 3,e3,e4⟩].flatMap gQ) (((((((([]:List Nat)++[nx])++[cp])++[cr])++[gp])++gs)++cl).map bD) g2 []) from d))∘JG∘JQ) λa Z d=>?_
       rcases Et b cp e4 with B|⟨cu,e5,B⟩
       ·
        refine Jb Z d ((JR∘Jp 2) λa Z d=>?_)
        refine fo Z 2 rfl rfl ?_
        exact oL Z [vP g 0,vI cp] rfl (JN W _ g e4 A NQ c c32 b ((((((([]:List Nat)++[nx])++[cp])++[cr])++[gp])++gs)++cl) (.slice J7 ([qh,⟨qb 0,3,e1⟩,⟨qb 1,e1,e2⟩,⟨qb 2,e2,e3⟩,⟨qb 3,e3,e4⟩].length) J8) _ cp om hc32 (d.pk [0,2,1,3]) j l F hb N.2.2 wU B) λw2 d=>sD Z rfl d (i:=1) rfl (r.trans (Er B)) [] de rfl
       ·
        have r:=r.trans B.goK
        have s:=B.in N.2.2
        have O:=qB (xs:=cu) wU s.1 s.2.1
        refine Jb Z d ((JR∘Jp 2∘JL (h:=by exact λd=>Jz W _ g e4 A NQ c c32 b ((((((([]:List Nat)++[nx])++[cp])++[cr])++[gp])++gs)++cl) (.slice J7 ([qh,⟨qb 0,3,e1⟩,⟨qb 1,e1,e2⟩,⟨qb 2,e2,e3⟩,⟨qb 3,e3,e4⟩].length) J8) _ cp om hc32 (d.pk [0,2,1,3]) j l F hb N.2.2 wU B)) ?_)
        rintro d _ D5 ⟨rfl,EB,c37,ara,e⟩
        refine ⟨_,rfl,_,e,?_⟩
        refine (nT∘bA 1∘JL (h:=by exact λd=>zI (l2:=[qh,⟨qb 0,3,e1⟩,⟨qb 1,e1,e2⟩,⟨qb 2,e2,e3⟩,⟨qb 3,e3,e4⟩,⟨qb 4,e4,e5⟩]) W _ g e5 _ _ J7 J8 ([qh,⟨qb 0,3,e1⟩,⟨qb 1,e1,e2⟩,⟨qb 2,e2,e3⟩,⟨qb 3,e3,e4⟩]) _ _ (d.pk [0,2,1,3]) (acy rfl) rfl)) ?_
        rintro d _ HV ⟨rfl,U,V,arb,e⟩
        refine ⟨_,rfl,_,e,?_⟩
        refine (nA∘Jq∘JC (h:=by exact λd=>(show Mem W _ (ahx g A (abn b) c e5 EB (abn (((((((([]:List Nat)++[nx])++[cp])++[cr])++[gp])++gs)++cl)++cu)) c37 U ([qh,⟨qb 0,3,e1⟩,⟨qb 1,e1,e2⟩,⟨qb 2,e2,e3⟩,⟨qb 3,e3,e4⟩,⟨qb 4,e4,e5⟩].length) V ([qh,⟨qb 0,3,e1⟩,⟨qb 1,e1,e2⟩,⟨qb 2,e2,e3⟩,⟨qb 3,e3,e4⟩,⟨qb 4,e4,e5⟩].flatMap gQ) ((((((((([]:List Nat)++[nx])++[cp])++[cr])++[gp])++gs)++cl)++cu).map bD) g2 []) from d))∘JG∘JQ) λa Z d=>?_
        rcases Ng b e5 0 65535 with o|⟨tk,a3,o,C⟩|⟨tk,a3,o,C⟩
        ·
         refine Jb Z d ((JR∘Jp 2) λa Z d=>?_)
         refine fo Z 2 rfl rfl ?_
         exact oL Z [vP g 0,vQ 0,vQ 65535] rfl (Ue W _ g e5 A EB c c37 b (((((((([]:List Nat)++[nx])++[cp])++[cr])++[gp])++gs)++cl)++cu) (.slice U ([qh,⟨qb 0,3,e1⟩,⟨qb 1,e1,e2⟩,⟨qb 2,e2,e3⟩,⟨qb 3,e3,e4⟩,⟨qb 4,e4,e5⟩].length) V) _ 0 65535 de (d.pk [0,2,1,3]) j l F hb s.2.2 O o) λw2 d=>sD Z rfl d (i:=1) rfl (r.trans (Nf o)) [] de rfl
        ·
         refine Jb Z d ((JR∘Jp 2) λa Z d=>?_)
         refine fo Z 2 rfl rfl ?_
         exact oL Z [vP g 0,vQ 0,vQ 65535] rfl (Ud W _ g e5 A EB c c37 b (((((((([]:List Nat)++[nx])++[cp])++[cr])++[gp])++gs)++cl)++cu) (.slice U ([qh,⟨qb 0,3,e1⟩,⟨qb 1,e1,e2⟩,⟨qb 2,e2,e3⟩,⟨qb 3,e3,e4⟩,⟨qb 4,e4,e5⟩].length) V) _ 0 65535 de (d.pk [0,2,1,3]) j l F hb s.2.2 O o C) λw2 d=>sD Z rfl d (i:=1) rfl (r.trans (o.bad C)) [] de rfl
        ·
         have r:=r.trans (o.goC C)
         have X:=o.in s.2.2
         have wV:=qA (x:=tk) O X.1
         rcases Et b (8*tk) a3 with D|⟨ts,e6,D⟩
         ·
          refine Jb Z d ((JR∘Jp 2∘JL (h:=by exact λd=>NH W _ g e5 A EB c c37 b (((((((([]:List Nat)++[nx])++[cp])++[cr])++[gp])++gs)++cl)++cu) (.slice U ([qh,⟨qb 0,3,e1⟩,⟨qb 1,e1,e2⟩,⟨qb 2,e2,e3⟩,⟨qb 3,e3,e4⟩,⟨qb 4,e4,e5⟩].length) V) _ 0 65535 de (d.pk [0,2,1,3]) j l F hb s.2.2 O o C)) ?_)
          rintro d _ w42 ⟨rfl,Ug,Uh,Dm,e⟩
          refine ⟨_,rfl,_,e,?_⟩
          refine (Jp 1∘Jo (vI (8*tk:Nat)) (by exact za om om)) λa Z d=>?_
          refine fo Z 4 rfl rfl ?_
          exact oL Z [vP g 0,vI (8*tk:Nat)] rfl (JN W _ g a3 A Ug c Uh b ((((((((([]:List Nat)++[nx])++[cp])++[cr])++[gp])++gs)++cl)++cu)++[tk]) (.slice U ([qh,⟨qb 0,3,e1⟩,⟨qb 1,e1,e2⟩,⟨qb 2,e2,e3⟩,⟨qb 3,e3,e4⟩,⟨qb 4,e4,e5⟩].length) V) _ (8*tk) om Dm (d.pk [0,1,2,3]) j l F hb X.2 wV D) λw2 d=>sD Z rfl d (i:=1) rfl (r.trans (Er D)) [] de rfl
         ·
          have r:=r.trans D.goK
          have P:=D.in X.2
          have wW:=qB (xs:=ts) wV P.1 P.2.1
          refine Jb Z d ((JR∘Jp 2∘JL (h:=by exact λd=>NH W _ g e5 A EB c c37 b (((((((([]:List Nat)++[nx])++[cp])++[cr])++[gp])++gs)++cl)++cu) (.slice U ([qh,⟨qb 0,3,e1⟩,⟨qb 1,e1,e2⟩,⟨qb 2,e2,e3⟩,⟨qb 3,e3,e4⟩,⟨qb 4,e4,e5⟩].length) V) _ 0 65535 de (d.pk [0,2,1,3]) j l F hb s.2.2 O o C)) ?_)
          rintro d _ w42 ⟨rfl,Ug,Uh,Dm,e⟩
          refine ⟨_,rfl,_,e,?_⟩
          refine (Jp 1∘Jo (vI (8*tk:Nat)) (by exact za om om)∘JL (h:=by exact λd=>Jz W _ g a3 A Ug c Uh b ((((((((([]:List Nat)++[nx])++[cp])++[cr])++[gp])++gs)++cl)++cu)++[tk]) (.slice U ([qh,⟨qb 0,3,e1⟩,⟨qb 1,e1,e2⟩,⟨qb 2,e2,e3⟩,⟨qb 3,e3,e4⟩,⟨qb 4,e4,e5⟩].length) V) _ (8*tk) om Dm (d.pk [0,1,2,3]) j l F hb X.2 wV D)) ?_
          rintro d _ PE ⟨rfl,J9,Ka,Dn,e⟩
          refine ⟨_,rfl,_,e,?_⟩
          refine (qI∘bA 1∘JL (h:=by exact λd=>zI (l2:=[qh,⟨qb 0,3,e1⟩,⟨qb 1,e1,e2⟩,⟨qb 2,e2,e3⟩,⟨qb 3,e3,e4⟩,⟨qb 4,e4,e5⟩,⟨qb 5,e5,e6⟩]) W _ g e6 _ _ U V ([qh,⟨qb 0,3,e1⟩,⟨qb 1,e1,e2⟩,⟨qb 2,e2,e3⟩,⟨qb 3,e3,e4⟩,⟨qb 4,e4,e5⟩]) _ _ (d.pk [0,2,1,3]) (acy rfl) rfl)) ?_
          rintro d _ FD ⟨rfl,Kc,Ke,arf,e⟩
          refine ⟨_,rfl,_,e,?_⟩
          refine (nA∘Jq∘JC (h:=by exact λd=>(show Mem W _ (ahx g A (abn b) c e6 J9 (abn (((((((((([]:List Nat)++[nx])++[cp])++[cr])++[gp])++gs)++cl)++cu)++[tk])++ts)) Ka Kc ([qh,⟨qb 0,3,e1⟩,⟨qb 1,e1,e2⟩,⟨qb 2,e2,e3⟩,⟨qb 3,e3,e4⟩,⟨qb 4,e4,e5⟩,⟨qb 5,e5,e6⟩].length) Ke ([qh,⟨qb 0,3,e1⟩,⟨qb 1,e1,e2⟩,⟨qb 2,e2,e3⟩,⟨qb 3,e3,e4⟩,⟨qb 4,e4,e5⟩,⟨qb 5,e5,e6⟩].flatMap gQ) ((((((((((([]:List Nat)++[nx])++[cp])++[cr])++[gp])++gs)++cl)++cu)++[tk])++ts).map bD) g2 []) from d))∘JG∘JQ) λa Z d=>?_
          rcases Et b (cp+3*cp*(gp-1)) e6 with E|⟨sp,e7,E⟩
          ·
           refine Jb Z d ((JR∘Jp 4∘Jo (vI (3*cp:Nat)) (by exact za om om)∘Jp 1∘zZ 1∘Jp 1∘Jo (vI (3*cp*(gp-1):Nat)) (by exact qsx (m:=3*cp) (n:=gp-1) (by have:=h3;omega))∘Ja) λa Z d=>?_)
           refine fo Z 8 rfl rfl ?_
           exact oL Z [vP g 0,vI (cp+(3*cp*(gp-1)):Nat)] rfl (JN W _ g e6 A J9 c Ka b (((((((((([]:List Nat)++[nx])++[cp])++[cr])++[gp])++gs)++cl)++cu)++[tk])++ts) (.slice Kc ([qh,⟨qb 0,3,e1⟩,⟨qb 1,e1,e2⟩,⟨qb 2,e2,e3⟩,⟨qb 3,e3,e4⟩,⟨qb 4,e4,e5⟩,⟨qb 5,e5,e6⟩].length) Ke) _ (cp+(3*cp*(gp-1))) om Dn (d.pk [0,2,1,3]) j l F hb P.2.2 wW E) λw2 d=>sD Z rfl d (i:=1) rfl (r.trans (Er E)) [] de rfl
          ·
           have r:=r.trans E.goK
           have A9:=E.in P.2.2
           have acS:=qB (xs:=sp) wW A9.1 A9.2.1
           refine Jb Z d ((JR∘Jp 4∘Jo (vI (3*cp:Nat)) (by exact za om om)∘Jp 1∘zZ 1∘Jp 1∘Jo (vI (3*cp*(gp-1):Nat)) (by exact qsx (m:=3*cp) (n:=gp-1) (by have:=h3;omega))∘Ja∘JL (h:=by exact λd=>Jz W _ g e6 A J9 c Ka b (((((((((([]:List Nat)++[nx])++[cp])++[cr])++[gp])++gs)++cl)++cu)++[tk])++ts) (.slice Kc ([qh,⟨qb 0,3,e1⟩,⟨qb 1,e1,e2⟩,⟨qb 2,e2,e3⟩,⟨qb 3,e3,e4⟩,⟨qb 4,e4,e5⟩,⟨qb 5,e5,e6⟩].length) Ke) _ (cp+(3*cp*(gp-1))) om Dn (d.pk [0,2,1,3]) j l F hb P.2.2 wW E)) ?_)
           rintro d _ w55 ⟨rfl,Dp,Dq,Kg,e⟩
           refine ⟨_,rfl,_,e,?_⟩
           refine (iQ∘bA 1∘JL (h:=by exact λd=>zI (l2:=[qh,⟨qb 0,3,e1⟩,⟨qb 1,e1,e2⟩,⟨qb 2,e2,e3⟩,⟨qb 3,e3,e4⟩,⟨qb 4,e4,e5⟩,⟨qb 5,e5,e6⟩,⟨qb 6,e6,e7⟩]) W _ g e7 _ _ Kc Ke ([qh,⟨qb 0,3,e1⟩,⟨qb 1,e1,e2⟩,⟨qb 2,e2,e3⟩,⟨qb 3,e3,e4⟩,⟨qb 4,e4,e5⟩,⟨qb 5,e5,e6⟩]) _ _ (d.pk [0,2,1,3]) (acy rfl) rfl)) ?_
           rintro d _ w57 ⟨rfl,Kh,Ki,ari,e⟩
           refine ⟨_,rfl,_,e,?_⟩
           refine (qI∘Jq∘JC (h:=by exact λd=>(show Mem W _ (ahx g A (abn b) c e7 Dp (abn ((((((((((([]:List Nat)++[nx])++[cp])++[cr])++[gp])++gs)++cl)++cu)++[tk])++ts)++sp)) Dq Kh ([qh,⟨qb 0,3,e1⟩,⟨qb 1,e1,e2⟩,⟨qb 2,e2,e3⟩,⟨qb 3,e3,e4⟩,⟨qb 4,e4,e5⟩,⟨qb 5,e5,e6⟩,⟨qb 6,e6,e7⟩].length) Ki ([qh,⟨qb 0,3,e1⟩,⟨qb 1,e1,e2⟩,⟨qb 2,e2,e3⟩,⟨qb 3,e3,e4⟩,⟨qb 4,e4,e5⟩,⟨qb 5,e5,e6⟩,⟨qb 6,e6,e7⟩].flatMap gQ) (((((((((((([]:List Nat)++[nx])++[cp])++[cr])++[gp])++gs)++cl)++cu)++[tk])++ts)++sp).map bD) g2 []) from d))∘JG∘JQ) λa Z d=>?_
           refine wp_seq ?_
           refine zjb ?_
           refine EX d (ahV g A b c e7 Dp (abn ((((((((((([]:List Nat)++[nx])++[cp])++[cr])++[gp])++gs)++cl)++cu)++[tk])++ts)++sp)) Dq Kh ([qh,⟨qb 0,3,e1⟩,⟨qb 1,e1,e2⟩,⟨qb 2,e2,e3⟩,⟨qb 3,e3,e4⟩,⟨qb 4,e4,e5⟩,⟨qb 5,e5,e6⟩,⟨qb 6,e6,e7⟩].length) Ki ([qh,⟨qb 0,3,e1⟩,⟨qb 1,e1,e2⟩,⟨qb 2,e2,e3⟩,⟨qb 3,e3,e4⟩,⟨qb 4,e4,e5⟩,⟨qb 5,e5,e6⟩,⟨qb 6,e6,e7⟩].flatMap gQ) (((((((((((([]:List Nat)++[nx])++[cp])++[cr])++[gp])++gs)++cl)++cu)++[tk])++ts)++sp).map bD) [.blk g2 #[vI 0] 27]) [0,1,2,3] [] λd HS=>?_
           refine ap Z (λ_=>HS) [0,4] (bf 10 [0,4]) [(62,vP g 0),(58,vP g 0)] λa Z=>?_
           refine oz Z HS 1 λa Z=>?_
           refine ap Z (λ_=>HS) [2] (bf 10 [0,1,2,4]) [(60,vP g 1)] λa Z=>?_
           refine dD Z HS 3 0 λa Z=>?_
           refine oz Z HS 5 λa Z=>?_
           refine ap Z (λ_=>HS) [6] (bt 10 [7,8,9]) [(64,vP g 0)] λa Z=>?_
           refine dD Z HS 7 0 λa Z=>?_
           refine sS Z HS 8 λa Z=>?_
           refine ap Z (λ_=>HS) [9] (bt 10 []) [(67,.bool ((e7:Int) !=(abn b:Int)))] λa Z=>?_
           refine qe kr ?_
           refine Jb Z d (Jh (λCK=>?_) λCK=>?_)
           ·
            have hne:e7≠abn b:=by omega
            refine (JT∘JR) λa Z d=>?_
            refine fo Z 0 rfl rfl ?_
            exact oL Z [vI 346] rfl (Nh 346 _ d) λw2 d=>sD Z rfl d (i:=3) rfl (r.trans (if_pos hne)) [] de rfl
           obtain rfl:e7=abn b:=by omega
           have r:=r.trans (if_neg (λh=>h rfl))
           obtain ⟨qn,Kj⟩:∃qn,((((((((((([]:List Nat)++[nx])++[cp])++[cr])++[gp])++gs)++cl)++cu)++[tk])++ts)++sp)=qn:=⟨_,rfl⟩
           intro a Z d
           rw [Kj] at d Kg
           refine Jb Z d ((aU∘aJ 1∘Jn∘Jg 1 O0∘dx 4∘Jn∘Jf 1∘JW aO fJ) λacT=>(iQ∘bA 1∘JL (h:=by exact λd=>zI (l2:=[qh,⟨qb 0,3,e1⟩,⟨qb 1,e1,e2⟩,⟨qb 2,e2,e3⟩,⟨qb 3,e3,e4⟩,⟨qb 4,e4,e5⟩,⟨qb 5,e5,e6⟩,⟨qb 6,e6,abn b⟩,⟨⟨#[115,117,109]⟩,abn b,abn b+4⟩]) W _ g (abn b+4:Nat) _ _ Kh Ki ([qh,⟨qb 0,3,e1⟩,⟨qb 1,e1,e2⟩,⟨qb 2,e2,e3⟩,⟨qb 3,e3,e4⟩,⟨qb 4,e4,e5⟩,⟨qb 5,e5,e6⟩,⟨qb 6,e6,abn b⟩]) _ _ (d.pk [0,1,2,3]) (acy rfl) rfl)) ?_)
           rintro d _ RQ ⟨rfl,Ui,Uj,Uk,e⟩
           refine ⟨_,rfl,_,e,?_⟩
           refine (nA∘Jq∘JC (h:=by exact λd=>(show Mem W _ (ah2 g A (abn b) c (abn b+4:Nat) Dp qn Dq Ui ([qh,⟨qb 0,3,e1⟩,⟨qb 1,e1,e2⟩,⟨qb 2,e2,e3⟩,⟨qb 3,e3,e4⟩,⟨qb 4,e4,e5⟩,⟨qb 5,e5,e6⟩,⟨qb 6,e6,abn b⟩,⟨⟨#[115,117,109]⟩,abn b,abn b+4⟩].length) Uj ([qh,⟨qb 0,3,e1⟩,⟨qb 1,e1,e2⟩,⟨qb 2,e2,e3⟩,⟨qb 3,e3,e4⟩,⟨qb 4,e4,e5⟩,⟨qb 5,e5,e6⟩,⟨qb 6,e6,abn b⟩,⟨⟨#[115,117,109]⟩,abn b,abn b+4⟩].flatMap gQ) [abl Dp qn Dq bD 41 1,.blk g2 #[vI 0] 27]) from d))∘JG∘JP∘JW oV aO) λacU=>(aH∘aP) λa Z d=>?_
           exact zd2 Z rfl d (i:=3) rfl λw3 d=> .inl ⟨(⟨nx,cp,cr,gp,gs,cl,cu,tk,ts,sp,e1,e2,e3,e4,e5,e6,abn b⟩:Pr),Dp,Dq,Ui,Uj,r,rfl,by subst Kj;rw [qyz];exact Kg,Uk,by subst Kj;rw [qyz];exact d.pk [0,2,1]⟩
def zjx (W w:World) (g:Nat) (A:Option Addr) (c:Nat) (b:List Nat) (n:Mem W w [.blk g #[.slice A (abn b) c,vI 0,vN,vN] 300]) (i:Rd W W.heap.size 1 A (abn b) (b.map B8)) (j:abn b<=c) (o:∀z∈b,z<256) (hb:abn b<=16777216) (l:3<=abn b) {p:Pr} (h:uD b= .ok p):Calls abo 240 #[vP g 0] w (λr m=>r= .returned (vI 0)/\∃e d f sc,abn p.nums<=d/\abn p.secs<=sc/\Mem W m (.blk g #[.slice A (abn b) c,vI ((abn b+4:Nat):Int),.slice e (abn p.nums) d,.slice f (abn p.secs) sc] 300::aib e p.nums d (p.nums.map bD) f p.secs sc (p.secs.flatMap gQ) [])):=
 (qy0 W w g A c b n i j o hb l).mono λr m q => by
  rcases q with ⟨s,e,d,f,sc,a,t,u,v,x⟩|⟨k,a,_⟩
  ·obtain rfl:s=p:=by rw [h] at a;injection a with a;exact a.symm
   exact ⟨t,e,d,f,sc,u,v,x⟩
  ·rw [h] at a;cases a
def zjy (W w:World) (g:Nat) (A:Option Addr) (c:Nat) (b:List Nat) (j:Mem W w [.blk g #[.slice A (abn b) c,vI 0,vN,vN] 300]) (d:Rd W W.heap.size 1 A (abn b) (b.map B8)) (e:abn b<=c) (l:∀z∈b,z<256) (hb:abn b<=16777216) (f:3<=abn b) {k:Nat} (h:uD b= .error k):Calls abo 240 #[vP g 0] w (λr i=>r= .returned (vI k)/\Mem W i []):=
 (qy0 W w g A c b j d e l hb f).mono λr i m => by
  rcases m with ⟨q,s,t,u,sc,a,_⟩|⟨n,a,o,p⟩
  ·rw [h] at a;cases a
  ·obtain rfl:n=k:=by rw [h] at a;injection a with a;exact a.symm
   exact ⟨o,p⟩
def Ba (w:World) (l:List Nat) (r:Ending) (b:World):Prop:=(∃p,fK l= .ok p/\∃g e f c a d sc,r= .returned (.tuple #[vP g 0,vI 0])/\abn p.nums<=a/\abn p.secs<=sc/\Mem w b (.blk g #[e,f,.slice c (abn p.nums) a,.slice d (abn p.secs) sc] 300::aib c p.nums a (p.nums.map bD) d p.secs sc (p.secs.flatMap gQ) []))\/(∃k:Nat,fK l= .error k/\Is w (.tuple #[.pointer none,vI k]) r b)
def Dr (n:Int) (h:fK l= .error k) (hk:n=k) (hr:r= .returned (.tuple #[.pointer none,vI n])) (hb:Below w.heap.size w W):Ba w l r W:= .inr ⟨k,h,by rw [hr,hk],hb⟩
def qy1 (A:Option Addr) (c:Nat) (l:List Nat) (B:Nat) (w:World) (K:aT B w) (I:B<=w.heap.size) (hr:Rd w w.heap.size 1 A (abn l) (l.map B8)) (hc:abn l<=c) (S:abn l<=100000000) (J:∀z∈l,z<256):
    Calls abo 169 #[.slice A (abn l) c] w (Ba w l):=by
 refine (eF Tryz.func169 47) ?_
 refine (cO 2∘JQ∘JB∘aJ 1∘Jl∘Jp 2∘dY∘Jj) (Ji (λD=>?_) λD=>?_)
 ·
  exact (JT∘bF 2∘bO) λd=>Dr _ (q7y om) rfl rfl d.below
 refine (JF∘aJ 1∘Jl∘Jp 2∘dY∘Jj) (Ji (λn=>?_) λn=>?_)
 ·
  exact (JT∘bF 2∘bO) λd=>Dr _ (zdl om om) rfl rfl d.below
 refine (JF∘aJ 1∘JI (h:=by exact λd=>Py A (abn l) c l B _ (K.mem d I) (d.le I) (d.old hr) hc rfl om J)) λL M=>(Jp 2∘dY∘Jj) (Ju (λg=>?_) λg=>?_)
 ·
  have e:zj l=false:=by simpa using g
  exact (JT∘bF 2∘bO) λd=>Dr _ (zjf om om e) rfl rfl d.below
 have e:zj l=true:=by simpa using g
 refine (JF∘aJ 1) ?_
 obtain ⟨gA,f,rfl,_⟩:=hr.sat 0
 refine (Jy (v:=vP gA f) (h:=by exact Yl.indexAddr (ad:=⟨gA,f,none⟩) (y:=0) (sz:=1) rfl rfl rfl om kr)∘Jy (h:=by exact aad hr 0 0 (by first|omega|(simp;omega)) rfl rfl)∘Jp 2) (Jh (λo=>?_) λo=>?_)
 ·
  exact (Jp 6∘aH∘Jj∘JT∘bF 2∘bO) λd=>Dr _ (qsy om om e om) rfl rfl d.below
 refine (Jp 1∘Jy (v:=vP gA (f+1)) (h:=by exact Yl.indexAddr (ad:=⟨gA,f,none⟩) (y:=1) (sz:=1) rfl rfl rfl om kr)∘Jy (h:=by exact aad hr 1 0 (by first|omega|(simp;omega)) rfl rfl)∘Jp 3∘aH∘Jj) (Jh (λq=>?_) λq=>?_)
 ·
  exact (JT∘bF 2∘bO) λd=>Dr _ (qsy om om e om) rfl rfl d.below
 refine (JF∘aJ 1∘Jy (v:=vP gA (f+2)) (h:=by exact Yl.indexAddr (ad:=⟨gA,f,none⟩) (y:=2) (sz:=1) rfl rfl rfl om kr)∘Jy (h:=by exact aad hr 2 0 (by first|omega|(simp;omega)) rfl rfl)∘Jp 2∘gq∘Jj) (Jh (λr=>?_) λr=>?_)
 ·
  exact (JT∘bF 2∘bO) λd=>Dr _ (qvt om om e om om) rfl rfl d.below
 refine (aU∘JQ) ?_
 obtain ⟨b,i⟩:∃b,l.take (abn l-4)=b:=⟨_,rfl⟩
 have s:abn b=abn l-4:=by rw [<-i,abv];omega
 have t:Rd w w.heap.size 1 (some ⟨gA,f,none⟩) (abn b) (b.map B8):=by rw [s,<-i];exact hr.Bv om
 have u:∀z∈b,z<256:=λz hz=>J z (acf (i▸hz))
 have m:=zjg om om e om om
 rw [i] at m
 intro a Z d
 skip
 ·
  refine Jb Z d ((JR∘Jp 2∘Jl∘zZ 4∘Jy (v:= .slice (some ⟨gA,f,none⟩) (abn l-4) c) (h:=by exact aag bn (j:=abn l-4) rfl rfl rfl om)∘Jo (.slice (some ⟨gA,f,none⟩) (abn b) c) (by rw [s])∘eH #[abk (some ⟨gA,f,none⟩) b c,vI 0,vN,vN]∘JE) λN x=>(Jp 1∘aH∘Jj∘JQ∘JQ) λa Z d=>?_)
  rcases hpr:uD b with k|p
  ·
   have O:=q7x hpr
   refine Jb Z d ((JR∘Jp 1∘JO (h:=by exact λd=>zjy w _ x (some ⟨gA,f,none⟩) c b (d.pk [0]) t om u om om hpr)) λE=>(Jp 1∘bQ∘bA 2∘aK∘Jj) (Jh (λC=>?_) λC=>?_))
   ·
    exact (JT∘bF 3∘bO) λd=>Dr _ (m.trans hpr) rfl rfl d.below
   intro a Z d
   exfalso;omega
  ·
   refine Jb Z d ((JR∘Jp 1∘JL (h:=by exact λd=>zjx w _ x (some ⟨gA,f,none⟩) c b (d.pk [0]) t om u om om hpr)) ?_)
   rintro d _ E ⟨rfl,P,Q,R,sc,F,G,H⟩
   refine ⟨_,rfl,_,H,?_⟩
   exact (Jp 1∘bQ∘Jr∘Jv 2 [(44,.bool false)]∘Jj∘aU∘bF 3∘bO) λd=>by exact .inl ⟨p,m.trans hpr,_,_,_,P,Q,R,sc,rfl,F,G,d⟩
def zjz (A:Option Addr) (c:Nat) (l:List Nat) (B:Nat) (w:World) (i:aT B w) (j:B<=w.heap.size) (hr:Rd w w.heap.size 1 A (abn l) (l.map B8)) (hc:abn l<=c) (m:abn l<=100000000) (n:∀z∈l,z<256) {p:Pr} (h:fK l= .ok p):Calls abo 169 #[.slice A (abn l) c] w (λr d=>∃g o q e b f sc,r= .returned (.tuple #[vP g 0,vI 0])/\abn p.nums<=b/\abn p.secs<=sc/\Mem w d (.blk g #[o,q,.slice e (abn p.nums) b,.slice f (abn p.secs) sc] 300::aib e p.nums b (p.nums.map bD) f p.secs sc (p.secs.flatMap gQ) [])):=
 (qy1 A c l B w i j hr hc m n).mono λr d s => by
  rcases s with ⟨t,a,u⟩|⟨k,a,_⟩
  ·obtain rfl:t=p:=by rw [h] at a;injection a with a;exact a.symm
   exact u
  ·rw [h] at a;cases a
def zj0 (A:Option Addr) (c:Nat) (l:List Nat) (B:Nat) (w:World) (b:aT B w) (d:B<=w.heap.size) (hr:Rd w w.heap.size 1 A (abn l) (l.map B8)) (hc:abn l<=c) (e:abn l<=100000000) (f:∀z∈l,z<256) {k:Nat} (h:fK l= .error k):Calls abo 169 #[.slice A (abn l) c] w (Is w (.tuple #[.pointer none,vI k])):=
 (qy1 A c l B w b d hr hc e f).mono λr m g => by
  rcases g with ⟨n,a,_⟩|⟨i,a,j⟩
  ·rw [h] at a;cases a
  ·obtain rfl:i=k:=by rw [h] at a;injection a with a;exact a.symm
   exact j
def IZ (W:World) (g k:Nat) (b:Option Addr) (a:Nat) (q:List Nat) (o:Bool) (fs:List Fact) (v:Value) (r:Ending) (c:World):Prop:=r= .returned v/\Mem W c (.blk g #[.slice (dR b a k) (abn q-k) (a-k),.bool o] 302:: .row (.slice b (abn q) a) (abn q) (q.map bD) 41 1::fs)
def qn5 {o b:Bool} {v:Value} (hr:r= .returned v) (a:b=o) (d:Mem W w (.blk g #[.slice (dR A c k) (abn q-k) (c-k),.bool b] 302:: .row (.slice A (abn q) c) (abn q) (q.map bD) 41 1::fs)):IZ W g k A c q o fs v r w:=by subst a;exact ⟨hr,d⟩
def zdv (x m:Nat):decide ((x:Int)<=(m:Int))=dle x m:=decide_eq_decide.2 Int.ofNat_le
def qyt (m:Nat) (W w:World) (g k:Nat) (f:Option Addr) (b:Nat) (q:List Nat) (o:Bool) (fs:List Fact) (s:Mem W w (.blk g #[.slice (dR f b k) (abn q-k) (b-k),.bool o] 302:: abl f q b bD 41 1::fs)) (l:abn q<=b) (hk:k<abn q):
    Calls abo 242 #[vP g 0,vQ m] w (IZ W g (k+1) f b q (o&&dle (q.getD k 0) m) fs (vQ (q.getD k 0:Int))):=by
 refine (jf Tryz.func242 33) ?_
 intro a Z d
 replace d:=s
 obtain ⟨n,oS,p,_⟩:=Rd.Wo (Td (d.rd (i:=1) rfl) l k om) om de
 refine Jb Z d ((aJ 1∘bA 1∘Jn∘Jf 0∘Jc O0∘Jo (.slice (some ⟨n,oS,none⟩) (abn q-k) (b-k)) (by rw [p];try rfl)∘Jy (v:=vP n oS) (h:=by exact Yl.indexAddr (ad:=⟨n,oS,none⟩) (y:=0) (sz:=1) rfl rfl rfl om kr)∘Jy (v:=vQ (q.getD k 0)) (h:=by exact Pd rfl rfl kr (λ_ h=>zmo (h.rd (i:=1) rfl) l hk p))∘Jp 1∘aH∘bA 2∘Jn∘Jg 0 O0∘Jy (v:= .slice (if b-k=1 then dR f b k else (dR f b k:Option Addr).map (·.add (1*1))) ((abn q-k)-1) ((b-k)-1)) (h:=by exact aae kD (j:=1) rfl rfl rfl om)∘Jo (.slice (dR f b (k+1)) (abn q- (k+1)) (b- (k+1))) (by exact rfl)∘Jn∘Jf 0∘JW aO aO) λr=>(iQ∘bA 2∘Jn∘Jg 1 O0∘Jp 1) (Ju (λc=>?_) λc=>?_))
 ·
  exact (Jp 4∘Jn∘Jf 1∘JW aO fJ) λe=>(iQ∘bA 2∘aH∘aP∘bC) λd=>qn5 rfl (by rw [c,ab8];exact zdv _ _) d
 exact (Jp 4∘Jn∘Jf 1∘JW aO fJ) λe=>(iQ∘bA 2∘aH∘aP∘bC) λd=>qn5 rfl (by rw [c];rfl) d
def zF (m:Nat) (W w:World) (g k:Nat) (b:Option Addr) (a:Nat) (q:List Nat) (o:Bool) (fs:List Fact) (d:Mem W w (.blk g #[.slice (dR b a k) (abn q-k) (a-k),.bool o] 302:: .row (.slice b (abn q) a) (abn q) (q.map bD) 41 1::fs)) (c:abn q<=a) (hk:k<abn q) {x k2:Nat} {o2:Bool} (e:q.getD k 0=x) (f:k+1=k2) (h:(o&&dle x m)=o2):Calls abo 242 #[vP g 0,vQ m] w (IZ W g k2 b a q o2 fs (vQ x)):=by
 subst e;subst f;subst h
 exact qyt m W w g k b a q o fs d c hk
def q8h (W w:World) (g k:Nat) (b:Option Addr) (a:Nat) (q:List Nat) (o:Bool) (fs:List Fact) (e:Mem W w (.blk g #[.slice (dR b a k) (abn q-k) (a-k),.bool o] 302:: abl b q a bD 41 1::fs)) (d:abn q<=a) (hk:k<abn q):
    Calls abo 241 #[vP g 0] w (IZ W g (k+1) b a q (o&&dle (q.getD k 0) aC) fs (vI (bL (q.getD k 0)))):=by
 refine (eF Tryz.func241 6) ?_
 exact (JC (h:=by exact λc=>e)∘aJ 1∘bA 1∘JO (h:=by exact λc=>qyt aC W _ g k b a q o fs c d hk)) λf=>(Jv 1 [(5,vI (IntKind.i64.wrap (q.getD k 0:Int)))]∘Jo (vI (bL (q.getD k 0))) (by exact rfl)∘Jp 1∘dY∘aP∘bC) λc=>by exact ⟨rfl,c⟩
def uF (W w:World) (g k:Nat) (b:Option Addr) (a:Nat) (q:List Nat) (o:Bool) (fs:List Fact) (d:Mem W w (.blk g #[.slice (dR b a k) (abn q-k) (a-k),.bool o] 302:: .row (.slice b (abn q) a) (abn q) (q.map bD) 41 1::fs)) (c:abn q<=a) (hk:k<abn q) {x k2:Nat} {o2:Bool} {v:Int} (e:q.getD k 0=x) (f:k+1=k2) (h:(o&&dle x aC)=o2) (i:bL x=v):Calls abo 241 #[vP g 0] w (IZ W g k2 b a q o2 fs (vI v)):=by
 subst e;subst f;subst h;subst i
 exact q8h W w g k b a q o fs d c hk
def aa8 {f r1 a b c d:Fact} {rs:List Fact} (h:Mem W w (f::r1::a::b::c::d::(fs++rs))):Mem W w (f::(fs++([r1,a,b,c,d]++rs))):=h.perm ((List.perm_append_comm_assoc [r1,a,b,c,d] fs rs).cons f)
def zjv (x:Nat):((x:Int)==(1:Int))=decide (x=1):=by
 rw [Bool.eq_iff_iff,beq_iff_eq,decide_eq_true_eq]
 omega
def zdw {p:Pr} (h:0<j):p.o8 (j+1)=((p.o8 j&&dle (p.gs.getD (2*(j-1)) 0) aC)&&dle (p.gs.getD (2*(j-1)+1) 0) aC):=if_neg om
def q8j {p:Pr} (h:j=0):p.o8 (j+1)=p.o8 j:=by subst h;rfl
def I4 {p:Pr} {y x:Nat} (h:y=0):p.so y (x+1)=p.so y x+1:=by subst h;rw [y9,y9]
def I5 {p:Pr} {y x:Nat} (h:0<y):p.so y (x+1)=p.so y x+3:=by rw [tT h,tT h];omega
def I6 {p:Pr} {b:Bool} {y x:Nat} (h:y=0):p.lZ b y (x+1)=(p.lZ b y x&&dle (p.sn y x 0) 18446744073709551615):=if_pos h
def I7 {p:Pr} {b:Bool} {y x:Nat} (h:0<y):p.lZ b y (x+1)=(((p.lZ b y x&&dle (p.sn y x 0) 18446744073709551615)&&dle (p.sn y x 1) 4294967295)&&dle (p.sn y x 2) 18446744073709551615):=if_neg om
def zdx (W:World) (g:Nat) (p:Pr) (fs:List Fact) (r:Ending) (a:World):Prop:=∃(z:dL) (A:Option Addr) (n c:Nat),r= .returned (.agg z.cells)/\gP p.qP z/\fD z.st/\Mem W a (.blk g #[.slice A n c,.bool p.okB] 302::(fs++jF z.st))
abbrev ahI {α:Type}:=λa b c d (e:List α) f=>(.blk a #[.slice (dR b c d) (abn e- d) (c- d),.bool f] 302:Fact)
abbrev air {α β γ δ ε:Type}:=λa b c d e (f:List α) g h (i:List β) j k (l:List γ) m n (o:List δ) p q (r:List ε) s=>(.blk a #[vI b,vI c,vQ d,abk e f g,abk h i j,abk k l m,abk n o p,abk q r s] 50:Fact)
def q16 (W w:World) (g:Nat) (e:Option Addr) (d:Nat) (p:Pr) (h:p.Fit) (fs:List Fact) (HW:Mem W w (.blk g #[abk e p.nums d,.bool true] 302:: abl e p.nums d bD 41 1::fs)) (o:abn p.nums<=d):
    Calls abo 170 #[vP g 0] w (zdx W g p fs):=by
 obtain ⟨hnl,hsl⟩:=zdp h
 have n0:=zdo p
 have eC:p.oC=4+2*(p.gp-1):=rfl
 have eT:p.oT=p.oC+2*p.cp:=rfl
 have eS:p.oS=p.oT+1+8*p.tk:=rfl
 have c1:=h.cp1;have c2:=h.cp2;have c3:=h.gp1;have c4:=h.IG;have c5:=h.tk
 refine (eF Tryz.func170 191) ?_
 refine (JC (h:=by exact λb=>HW)∘JP∘JA aiB) λw2 O=>(bA 1∘JO (h:=by exact λb=>uF W _ g 0 e d p.nums true _ (b.pt 3 [1,2,0]) o om (x:=p.nx) (k2:=1) (o2:=true&&dle p.nx aC) (n0.1) (rfl) (rfl) (rfl))) λuY=>(eH #[vI (bL p.nx),vI 0,vQ 0,vN,vN,vN,vN,vN]∘JA aiB) λw3 F=>(JV zx aO) λQM=>(dY∘Jr∘Jf 1∘Jp 1∘aK∘bA 3∘JO (h:=by exact λb=>uF W _ g 1 e d p.nums (true&&dle p.nx aC) _ (b.pt 4 [1,2,0,3]) o om (x:=p.cp) (k2:=2) (o2:=(true&&dle p.nx aC)&&dle p.cp aC) (n0.2.1) (rfl) (rfl) (Te om))) λRL=>(Jp 1∘JO (h:=by exact λb=>zF 18446744073709551615 W _ g 2 e d p.nums ((true&&dle p.nx aC)&&dle p.cp aC) _ (b.pt 4 [0,1,2,3]) o om (x:=p.cr) (k2:=3) (o2:=((true&&dle p.nx aC)&&dle p.cp aC)&&dle p.cr 18446744073709551615) (n0.2.2.1) (rfl) (rfl))) λRB=>(Jn∘Jf 0∘Jf 0∘JW iq fJ) λaqk=>(Jn∘Jf 0∘Jf 1∘JW iq iq) λacD=>(iQ∘Jj∘bN 1∘JO (h:=by exact λb=>uF W _ g 3 e d p.nums (((true&&dle p.nx aC)&&dle p.cp aC)&&dle p.cr 18446744073709551615) _ (b.pt 4 [0,1,2,3]) o om (x:=p.gp) (k2:=4+2*(0-1)) (o2:=p.o8 0) (n0.2.2.2) (rfl) (rfl) (Te om))) λw29=>(Jp 1∘Jq∘JC (h:=by exact λb=>b.nil 198 2)∘JG∘JB) λa Z b=>?_
 refine qg (λV aS wS=>∃(j:Nat) (G:List Gr) (B:Option Addr) (r:Nat),(j<=p.gp)/\(G=bZ j p.iL)/\(abn G=j)/\(abn G<=r)/\V=p.gp-j/\Fr aS 191 [] (ahK 30 j 29 p.gp [(4,vP F 1),(3,vP F 0),(2,vP O 0),(0,vP g 0)])/\Mem W wS (abm B G r fC 198 2::.blk g #[.slice (dR e d (4+2*(j-1))) (abn p.nums- (4+2*(j-1))) (d- (4+2*(j-1))),.bool (p.o8 j)] 302::abl e p.nums d bD 41 1::.blk F #[vI (bL p.nx),vI p.cp,vQ p.cr,abk B G r,vN,vN,vN,vN] 50::ahC O::fs)) (m:=p.gp-0) ⟨0,[],none,0,abA _,rfl,rfl,abr _,rfl,Z.sub kr,b.pt 5 [0,1,2,3,4]⟩ ?_
 clear Z b;rintro V a w_ ⟨j,G,B,r,hj,hG,hGl,hGc,rfl,Z,b⟩
 refine Jb Z b ((cO 1∘JQ) (Ji (λhd31=>?_) λhd31=>?_))
 ·
  refine (eO∘aJ 2∘aK∘Jr∘eH #[vI 0,vI 1]∘JA #[vI 0,vI 0]) λw6 g6=>(JV lU aO) λQf=>(aK∘Jj∘bN 2∘aK∘Jj) (Ji (λTH=>?_) λTH=>?_)
  ·
   have hgr:p.iL j=⟨bL (p.gs.getD (2*(j-1)) 0),bL (p.gs.getD (2*(j-1)+1) 0)⟩:=if_neg om
   refine (JT∘JR∘Jp 1∘JO (h:=by exact λb=>uF W _ g (4+2*(j-1)) e d p.nums (p.o8 j) _ (b.pt 6 [2,3,0,1,4,5]) o om (x:=p.gs.getD (2*(j-1)) 0) (k2:=4+(2*(j-1)+1)) (o2:=p.o8 j&&dle (p.gs.getD (2*(j-1)) 0) aC) (q70 h (j:=2*(j-1)) om) (rfl) (rfl) (rfl))) λD5=>(Jp 1∘JO (h:=by exact λb=>uF W _ g (4+(2*(j-1)+1)) e d p.nums (p.o8 j&&dle (p.gs.getD (2*(j-1)) 0) aC) _ (b.pt 6 [0,1,2,3,4,5]) o om (x:=p.gs.getD (2*(j-1)+1) 0) (k2:=4+2*(j+1-1)) (o2:=(p.o8 j&&dle (p.gs.getD (2*(j-1)) 0) aC)&&dle (p.gs.getD (2*(j-1)+1) 0) aC) (q70 h (j:=2*(j-1)+1) om) om (rfl) (rfl))) λHV=>(Jf 0∘JW iq aO) λTI=>(Jf 1∘JW iq fJ) λaqn=>(iQ∘Jq∘JC (h:=by exact λb=>(show Mem W _ (.blk g #[.slice (dR e d (4+2*(j+1-1))) (abn p.nums- (4+2*(j+1-1))) (d- (4+2*(j+1-1))),.bool ((p.o8 j&&dle (p.gs.getD (2*(j-1)) 0) aC)&&dle (p.gs.getD (2*(j-1)+1) 0) aC)] 302::abl e p.nums d bD 41 1::.blk g6 #[vI (bL (p.gs.getD (2*(j-1)) 0)),vI (bL (p.gs.getD (2*(j-1)+1) 0))] 198::abm B G r fC 198 2::.blk F #[vI (bL p.nx),vI p.cp,vQ p.cr,abk B G r,vN,vN,vN,vN] 50::ahC O::fs) from b))∘JG∘Vs (.t (.t (.t (.f .n)))) [12]) λrz=>(Vp [0,1]∘Vn 2∘Vf 3 0∘Vf 4 2∘Vc 5 O3∘nH 6 lU O2) λa Z b I=>?_
   refine s_on Z 7 rfl (jl Z b jh [(0,.agg #[vI (bL (p.gs.getD (2*(j-1)) 0)),vI (bL (p.gs.getD (2*(j-1)+1) 0))])] #[vI (bL (p.gs.getD (2*(j-1)) 0)),vI (bL (p.gs.getD (2*(j-1)+1) 0))] ?_)
   clear Z b;intro a Aa Xu Z b
   refine ay (b.pt 7 [1,2,3,5,6]) (λI=>?_)
   refine s_on Z 8 rfl (qV Z b (i:=4) rfl jh rfl rfl rfl (news:=([(⟨bL (p.gs.getD (2*(j-1)) 0),bL (p.gs.getD (2*(j-1)+1) 0)⟩:Gr)].flatMap fC)) (b.bB (i:=0) (n:=1) (size:=2) rfl rfl) (He _) om om rfl de ?_)
   clear Z b;intro a FJ xH xI Z b X
   refine ay (b.pt 7 [1,2,3,5,6]) (λI=>?_)
   refine Vb Z b I ((Vn 9∘Vf 10 0∘Vf 11 2) λa Z b I=>?_)
   refine s_on Z 12 rfl (eG Z b 5 λDj b=>?_)
   refine dN kr ?_
   refine qe kr ?_
   have s:abn G+1=abn (G++[p.iL j]):=nK rfl
   rw [s] at X
   replace b:=b.aY (i:=4) (ys:=(G++[p.iL j]).flatMap fC) rfl s (by rw [hgr];exact List.flatMap_append.symm)
   replace Z:=Z.sp 50 (abk xH (G++[p.iL j]) xI) rfl (iB s)
   replace b:=b.dW (i:=5) (ds:= #[vI (bL p.nx),vI p.cp,vQ p.cr,abk xH (G++[p.iL j]) xI,vN,vN,vN,vN]) rfl (by rw [s];try rfl)
   refine Jb Z b ((JG∘JR∘dx 1∘Jp 1∘aK∘Jq) λa Z b=>?_)
   replace b:=b.dW (i:=1) (ds:= #[.slice (dR e d (4+2*(j+1-1))) (abn p.nums- (4+2*(j+1-1))) (d- (4+2*(j+1-1))),.bool (p.o8 (j+1))]) rfl (by rw [zdw om])
   exact ⟨_,om,j+1,(G++[p.iL j]),xH,xI,by omega,by rw [hG,y7],by rw [abp,hGl];rfl,X,rfl,Z.sub kr,b.pt 7 [4,1,2,5,6]⟩
  have hgr:p.iL j=⟨0,1⟩:=if_pos om
  refine (aU∘Vs (.t (.f .n)) [12]) λrz=>(Vp [0,1]∘Vn 2∘Vf 3 0∘Vf 4 2∘Vc 5 O3∘nH 6 lU O0) λa Z b I=>?_
  refine s_on Z 7 rfl (jl Z b jh [(0,.agg #[vI 0,vI 1])] #[vI 0,vI 1] ?_)
  clear Z b;intro a Aa Xu Z b
  refine ay (b.pt 7 [1,3,4,5,6]) (λI=>?_)
  refine s_on Z 8 rfl (qV Z b (i:=2) rfl jh rfl rfl rfl (news:=([(⟨0,1⟩:Gr)].flatMap fC)) (b.bB (i:=0) (n:=1) (size:=2) rfl rfl) (He _) om om rfl de ?_)
  clear Z b;intro a FJ xH xI Z b X
  refine ay (b.pt 7 [1,3,4,5,6]) (λI=>?_)
  refine Vb Z b I ((Vn 9∘Vf 10 0∘Vf 11 2) λa Z b I=>?_)
  refine s_on Z 12 rfl (eG Z b 5 λDj b=>?_)
  refine dN kr ?_
  refine qe kr ?_
  have s:abn G+1=abn (G++[p.iL j]):=nK rfl
  rw [s] at X
  replace b:=b.aY (i:=2) (ys:=(G++[p.iL j]).flatMap fC) rfl s (by rw [hgr];exact List.flatMap_append.symm)
  replace Z:=Z.sp 50 (abk xH (G++[p.iL j]) xI) rfl (iB s)
  replace b:=b.dW (i:=5) (ds:= #[vI (bL p.nx),vI p.cp,vQ p.cr,abk xH (G++[p.iL j]) xI,vN,vN,vN,vN]) rfl (by rw [s];try rfl)
  refine Jb Z b ((JG∘JR∘dx 1∘Jp 1∘aK∘Jq) λa Z b=>?_)
  replace b:=b.dW (i:=3) (ds:= #[.slice (dR e d (4+2*(j+1-1))) (abn p.nums- (4+2*(j+1-1))) (d- (4+2*(j+1-1))),.bool (p.o8 (j+1))]) rfl (by rw [q8j om,show 4+2*(j+1-1)=4+2*(j-1) by omega])
  exact ⟨_,om,j+1,(G++[p.iL j]),xH,xI,by omega,by rw [hG,y7],by rw [abp,hGl];rfl,X,rfl,Z.sub kr,b.pt 7 [2,3,4,5,6]⟩
 refine (JF∘JX∘JG∘bN 1∘Jn∘Jf 0∘Jg 0 O3∘Jp 1∘Jq∘JC (h:=by exact λb=>b.nil 3 1)∘JC (h:=by exact λb=>b.dW (i:=2) (ds:= #[.slice (dR e d (p.oC+0)) (abn p.nums- (p.oC+0)) (d- (p.oC+0)),.bool (p.y8 0)]) rfl (by rw [show j=p.gp by omega];rfl))∘JG∘JB) λa Z b=>?_
 refine qg (λV aS wS=>∃(k:Nat) (C:List Int) (D:Option Addr) (cl:Nat),(k<=p.cp)/\(C=bZ k λi=>bL (p.cl.getD i 0))/\(abn C=k)/\(abn C<=cl)/\V=p.cp-k/\Fr aS 191 [] (ahK 60 k 59 p.cp ((31,.bool false)::ahK 30 j 29 p.gp [(4,vP F 1),(3,vP F 0),(2,vP O 0),(0,vP g 0)]))/\Mem W wS (abl D C cl aX 3 1::abm B G r fC 198 2::.blk g #[.slice (dR e d (p.oC+k)) (abn p.nums- (p.oC+k)) (d- (p.oC+k)),.bool (p.y8 k)] 302::abl e p.nums d bD 41 1::.blk F #[vI (bL p.nx),vI p.cp,vQ p.cr,abk B G r,abk D C cl,vN,vN,vN] 50::ahC O::fs)) (m:=p.cp-0) ⟨0,[],none,0,abA _,rfl,rfl,abr _,rfl,Z.sub kr,b.pt 6 [0,1,2,3,4,5]⟩ ?_
 clear Z b;rintro V a w_ ⟨k,C,D,cl,hk,hC,hCl,hCc,rfl,Z,b⟩
 refine Jb Z b ((cO 1∘JQ) (Ji (λCv=>?_) λCv=>?_))
 ·
  refine (eO∘Vs (.f (.t (.f .n))) [11]) λyC=>(Vp [0,1,5]∘Vn 2∘Vf 3 3∘Vc 4 O2) λa Z b I=>?_
  refine s_on Z 6 rfl ?_
  refine Fu Z [vP g 0] (uF W _ g (p.oC+k) e d p.nums (p.y8 k) _ (b.pt 6 [2,3,0,1,4,5]) o om (x:=p.cl.getD k 0) (k2:=p.oC+(k+1)) (o2:=p.y8 (k+1)) (zji h om) (rfl) (rfl) (rfl)) λM4 b a Z=>?_
  refine ay (b.pt 6 [3,1,4,5]) (λI=>?_)
  refine s_on Z 7 rfl (jl Z b kE [(0,vI (bL (p.cl.getD k 0)))] #[vI (bL (p.cl.getD k 0))] ?_)
  clear Z b;intro a w69 g69 Z b
  refine ay (b.pt 7 [4,2,5,6]) (λI=>?_)
  refine s_on Z 8 rfl (qV Z b (i:=3) rfl kE rfl rfl rfl (news:=([bL (p.cl.getD k 0)].map aX)) (b.bB (i:=0) (n:=1) (size:=1) rfl rfl) (QW _) om om rfl de ?_)
  clear Z b;intro a w70 TJ c70 Z b I8
  refine ay (b.pt 7 [4,2,5,6]) (λI=>?_)
  refine Vb Z b I ((Vn 9∘Vf 10 3) λa Z b I=>?_)
  refine s_on Z 11 rfl (eG Z b 5 λTK b=>?_)
  refine dN kr ?_
  refine qe kr ?_
  have P:abn C+1=abn (C++[bL (p.cl.getD k 0)]):=nK rfl
  rw [P] at I8
  replace b:=b.aY (i:=3) (ys:=(C++[bL (p.cl.getD k 0)]).map aX) rfl P (by exact List.map_append.symm)
  replace Z:=Z.sp 70 (abk TJ (C++[bL (p.cl.getD k 0)]) c70) rfl (iB P)
  replace b:=b.dW (i:=5) (ds:= #[vI (bL p.nx),vI p.cp,vQ p.cr,abk B G r,abk TJ (C++[bL (p.cl.getD k 0)]) c70,vN,vN,vN]) rfl (by rw [P];try rfl)
  refine Jb Z b ((JG∘JR∘dx 1∘Jp 1∘aK∘Jq) λa Z b=>?_)
  exact ⟨_,om,k+1,(C++[bL (p.cl.getD k 0)]),TJ,c70,by omega,by rw [hC,y7],by rw [abp,hCl];rfl,I8,rfl,Z.sub kr,b.pt 7 [3,4,1,2,5,6]⟩
 refine (JF∘JX∘JG∘bN 1∘Jn∘Jf 0∘Jg 0 O4∘Jp 1∘Jq∘JC (h:=by exact λb=>b.nil 3 1)∘JC (h:=by exact λb=>b.dW (i:=3) (ds:= #[.slice (dR e d (p.oC+p.cp+0)) (abn p.nums- (p.oC+p.cp+0)) (d- (p.oC+p.cp+0)),.bool (p.wD 0)]) rfl (by rw [show k=p.cp by omega];rfl))∘JG∘JB) λa Z b=>?_
 refine qg (λV aS wS=>∃(u:Nat) (U:List Int) (E:Option Addr) (cu:Nat),(u<=p.cp)/\(U=bZ u λi=>bL (p.cu.getD i 0))/\(abn U=u)/\(abn U<=cu)/\V=p.cp-u/\Fr aS 191 [] (ahK 79 u 78 p.cp ((61,.bool false)::ahK 60 k 59 p.cp ((31,.bool false)::ahK 30 j 29 p.gp [(4,vP F 1),(3,vP F 0),(2,vP O 0),(0,vP g 0)])))/\Mem W wS (abl E U cu aX 3 1::abl D C cl aX 3 1::abm B G r fC 198 2::.blk g #[.slice (dR e d (p.oC+p.cp+u)) (abn p.nums- (p.oC+p.cp+u)) (d- (p.oC+p.cp+u)),.bool (p.wD u)] 302::abl e p.nums d bD 41 1::.blk F #[vI (bL p.nx),vI p.cp,vQ p.cr,abk B G r,abk D C cl,abk E U cu,vN,vN] 50::ahC O::fs)) (m:=p.cp-0) ⟨0,[],none,0,abA _,rfl,rfl,abr _,rfl,Z.sub kr,b.pt 7 [0,1,2,3,4,5,6]⟩ ?_
 clear Z b;rintro V a w_ ⟨u,U,E,cu,hu,hU,hUl,hUc,rfl,Z,b⟩
 refine Jb Z b ((cO 1∘JQ) (Ji (λTL=>?_) λTL=>?_))
 ·
  refine (eO∘Vs (.f (.t (.t (.f .n)))) [11]) λBO=>(Vp [0,1,5]∘Vn 2∘Vf 3 4∘Vc 4 O3) λa Z b I=>?_
  refine s_on Z 6 rfl ?_
  refine Fu Z [vP g 0] (uF W _ g (p.oC+p.cp+u) e d p.nums (p.wD u) _ (b.pt 7 [3,4,0,1,2,5,6]) o om (x:=p.cu.getD u 0) (k2:=p.oC+p.cp+(u+1)) (o2:=p.wD (u+1)) (zjj h om) (rfl) (rfl) (rfl)) λM7 b a Z=>?_
  refine ay (b.pt 7 [3,4,1,5,6]) (λI=>?_)
  refine s_on Z 7 rfl (jl Z b kE [(0,vI (bL (p.cu.getD u 0)))] #[vI (bL (p.cu.getD u 0))] ?_)
  clear Z b;intro a w88 TM Z b
  refine ay (b.pt 8 [4,5,2,6,7]) (λI=>?_)
  refine s_on Z 8 rfl (qV Z b (i:=3) rfl kE rfl rfl rfl (news:=([bL (p.cu.getD u 0)].map aX)) (b.bB (i:=0) (n:=1) (size:=1) rfl rfl) (QW _) om om rfl de ?_)
  clear Z b;intro a RH Nz NA Z b Dk
  refine ay (b.pt 8 [4,5,2,6,7]) (λI=>?_)
  refine Vb Z b I ((Vn 9∘Vf 10 4) λa Z b I=>?_)
  refine s_on Z 11 rfl (eG Z b 6 λTN b=>?_)
  refine dN kr ?_
  refine qe kr ?_
  have Q:abn U+1=abn (U++[bL (p.cu.getD u 0)]):=nK rfl
  rw [Q] at Dk
  replace b:=b.aY (i:=3) (ys:=(U++[bL (p.cu.getD u 0)]).map aX) rfl Q (by exact List.map_append.symm)
  replace Z:=Z.sp 89 (abk Nz (U++[bL (p.cu.getD u 0)]) NA) rfl (iB Q)
  replace b:=b.dW (i:=6) (ds:= #[vI (bL p.nx),vI p.cp,vQ p.cr,abk B G r,abk D C cl,abk Nz (U++[bL (p.cu.getD u 0)]) NA,vN,vN]) rfl (by rw [Q];try rfl)
  refine Jb Z b ((JG∘JR∘dx 1∘Jp 1∘aK∘Jq) λa Z b=>?_)
  exact ⟨_,om,u+1,(U++[bL (p.cu.getD u 0)]),Nz,NA,by omega,by rw [hU,y7],by rw [abp,hUl];rfl,Dk,rfl,Z.sub kr,b.pt 8 [3,4,5,1,2,6,7]⟩
 refine (JF∘JX∘JG∘aJ 1∘Jq∘JC (h:=by exact λb=>b.dW (i:=3) (ds:= #[.slice (dR e d p.oT) (abn p.nums-p.oT) (d-p.oT),.bool (p.wD p.cp)]) rfl (by rw [show u=p.cp by omega,show p.oC+p.cp+p.cp=p.oT by omega]))∘JG∘bN 1∘JO (h:=by exact λb=>uF W _ g p.oT e d p.nums (p.wD p.cp) _ (b.pt 7 [3,4,0,1,2,5,6]) o om (x:=p.tk) (k2:=p.oT+1+8*0) (o2:=p.jI 0) (zjk h) (rfl) (rfl) (Te om))) λw94=>(Jp 1∘Jq∘JC (h:=by exact λb=>b.nil 232 8)∘JG∘JB) λa Z b=>?_
 refine qg (λV aS wS=>∃(i:Nat) (T:List Tk) (At:Option Addr) (H:Nat),(i<=p.tk)/\(T=bZ i p.tQ)/\(abn T=i)/\(abn T<=H)/\V=p.tk-i/\Fr aS 191 [] (ahK 95 i 94 p.tk ((7,vI (p.sj i))::(80,.bool false)::ahK 79 u 78 p.cp ((61,.bool false)::ahK 60 k 59 p.cp ((31,.bool false)::ahK 30 j 29 p.gp [(4,vP F 1),(3,vP F 0),(2,vP O 0),(0,vP g 0)]))))/\Mem W wS (abm At T H bS 232 8::.blk g #[.slice (dR e d (p.oT+1+8*i)) (abn p.nums- (p.oT+1+8*i)) (d- (p.oT+1+8*i)),.bool (p.jI i)] 302::abl e p.nums d bD 41 1::abl E U cu aX 3 1::abl D C cl aX 3 1::abm B G r fC 198 2::.blk F #[vI (bL p.nx),vI p.cp,vQ p.cr,abk B G r,abk D C cl,abk E U cu,abk At T H,vN] 50::ahC O::fs)) (m:=p.tk-0) ⟨0,[],none,0,abA _,rfl,rfl,abr _,rfl,Z.sub kr,b.pt 8 [0,1,2,3,4,5,6,7]⟩ ?_
 clear Z b;rintro V a w_ ⟨i,T,At,H,hi,hT,hTl,hTc,rfl,Z,b⟩
 refine Jb Z b ((cO 1∘JQ) (Ji (λhd96=>?_) λhd96=>?_))
 ·
  refine (eO∘aJ 2∘JO (h:=by exact λb=>uF W _ g (p.oT+1+8*i) e d p.nums (p.jI i) _ (b.pt 8 [1,2,0,3,4,5,6,7]) o om (x:=p.tn i 0) (k2:=p.oT+1+(8*i+1)) (o2:=p.jI i&&dle (p.tn i 0) aC) (AO h (j:=8*i) om) (rfl) (rfl) (rfl))) λw99=>(Jp 1∘Jo (vI (p.lY i)) (by exact rfl)∘Jp 1∘gq∘bA 2∘JO (h:=by exact λb=>uF W _ g (p.oT+1+(8*i+1)) e d p.nums (p.jI i&&dle (p.tn i 0) aC) _ (b.pt 8 [0,1,2,3,4,5,6,7]) o om (x:=p.tn i 1) (k2:=p.oT+1+(8*i+2)) (o2:=(p.jI i&&dle (p.tn i 0) aC)&&dle (p.tn i 1) aC) (AO h (j:=8*i+1) om) (rfl) (rfl) (rfl))) λTP=>(Jp 1∘JO (h:=by exact λb=>uF W _ g (p.oT+1+(8*i+2)) e d p.nums ((p.jI i&&dle (p.tn i 0) aC)&&dle (p.tn i 1) aC) _ (b.pt 8 [0,1,2,3,4,5,6,7]) o om (x:=p.tn i 2) (k2:=p.oT+1+(8*i+3)) (o2:=((p.jI i&&dle (p.tn i 0) aC)&&dle (p.tn i 1) aC)&&dle (p.tn i 2) aC) (AO h (j:=8*i+2) om) (rfl) (rfl) (rfl))) λIm=>(Jp 1∘JO (h:=by exact λb=>uF W _ g (p.oT+1+(8*i+3)) e d p.nums (((p.jI i&&dle (p.tn i 0) aC)&&dle (p.tn i 1) aC)&&dle (p.tn i 2) aC) _ (b.pt 8 [0,1,2,3,4,5,6,7]) o om (x:=p.tn i 3) (k2:=p.oT+1+(8*i+4)) (o2:=(((p.jI i&&dle (p.tn i 0) aC)&&dle (p.tn i 1) aC)&&dle (p.tn i 2) aC)&&dle (p.tn i 3) aC) (AO h (j:=8*i+3) om) (rfl) (rfl) (rfl))) λaqv=>(Jp 1∘JO (h:=by exact λb=>zF 18446744073709551615 W _ g (p.oT+1+(8*i+4)) e d p.nums ((((p.jI i&&dle (p.tn i 0) aC)&&dle (p.tn i 1) aC)&&dle (p.tn i 2) aC)&&dle (p.tn i 3) aC) _ (b.pt 8 [0,1,2,3,4,5,6,7]) o om (x:=p.tn i 4) (k2:=p.oT+1+(8*i+5)) (o2:=((((p.jI i&&dle (p.tn i 0) aC)&&dle (p.tn i 1) aC)&&dle (p.tn i 2) aC)&&dle (p.tn i 3) aC)&&dle (p.tn i 4) 18446744073709551615) (AO h (j:=8*i+4) om) (rfl) (rfl))) λSj=>(eH #[vI (p.lY i),vI (bL (p.tn i 1)),vI (bL (p.tn i 2)),vI (bL (p.tn i 3)),vQ (p.tn i 4),.bool false,vQ 0,vW 0]∘JA aiA) λw8 g8=>(JV fE aO) λTQ=>(aH∘Jq∘JC (h:=by exact λb=>(show Mem W _ (.blk g8 #[vI (p.lY i),vI (bL (p.tn i 1)),vI (bL (p.tn i 2)),vI (bL (p.tn i 3)),vQ (p.tn i 4),.bool false,vQ 0,vW 0] 232::.blk g #[.slice (dR e d (p.oT+1+(8*i+5))) (abn p.nums- (p.oT+1+(8*i+5))) (d- (p.oT+1+(8*i+5))),.bool (((((p.jI i&&dle (p.tn i 0) aC)&&dle (p.tn i 1) aC)&&dle (p.tn i 2) aC)&&dle (p.tn i 3) aC)&&dle (p.tn i 4) 18446744073709551615)] 302::abl e p.nums d bD 41 1::abm At T H bS 232 8::abl E U cu aX 3 1::abl D C cl aX 3 1::abm B G r fC 198 2::.blk F #[vI (bL p.nx),vI p.cp,vQ p.cr,abk B G r,abk D C cl,abk E U cu,abk At T H,vN] 50::ahC O::fs) from b))∘JG∘aJ 1∘JO (h:=by exact λb=>zF 1 W _ g (p.oT+1+(8*i+5)) e d p.nums (((((p.jI i&&dle (p.tn i 0) aC)&&dle (p.tn i 1) aC)&&dle (p.tn i 2) aC)&&dle (p.tn i 3) aC)&&dle (p.tn i 4) 18446744073709551615) _ (b.pt 9 [1,2,0,3,4,5,6,7,8]) o om (x:=p.tn i 5) (k2:=p.oT+1+(8*i+6)) (o2:=(((((p.jI i&&dle (p.tn i 0) aC)&&dle (p.tn i 1) aC)&&dle (p.tn i 2) aC)&&dle (p.tn i 3) aC)&&dle (p.tn i 4) 18446744073709551615)&&dle (p.tn i 5) 1) (AO h (j:=8*i+5) om) (rfl) (rfl))) λaqw=>(Jp 1∘Jo (.bool (decide (p.tn i 5=1))) (by exact congrArg Value.bool (zjv _))∘Jp 1∘JO (h:=by exact λb=>zF 18446744073709551615 W _ g (p.oT+1+(8*i+6)) e d p.nums ((((((p.jI i&&dle (p.tn i 0) aC)&&dle (p.tn i 1) aC)&&dle (p.tn i 2) aC)&&dle (p.tn i 3) aC)&&dle (p.tn i 4) 18446744073709551615)&&dle (p.tn i 5) 1) _ (b.pt 9 [0,1,2,3,4,5,6,7,8]) o om (x:=p.tn i 6) (k2:=p.oT+1+(8*i+7)) (o2:=((((((p.jI i&&dle (p.tn i 0) aC)&&dle (p.tn i 1) aC)&&dle (p.tn i 2) aC)&&dle (p.tn i 3) aC)&&dle (p.tn i 4) 18446744073709551615)&&dle (p.tn i 5) 1)&&dle (p.tn i 6) 18446744073709551615) (AO h (j:=8*i+6) om) (rfl) (rfl))) λSk=>(Jp 1∘JO (h:=by exact λb=>zF 4294967295 W _ g (p.oT+1+(8*i+7)) e d p.nums (((((((p.jI i&&dle (p.tn i 0) aC)&&dle (p.tn i 1) aC)&&dle (p.tn i 2) aC)&&dle (p.tn i 3) aC)&&dle (p.tn i 4) 18446744073709551615)&&dle (p.tn i 5) 1)&&dle (p.tn i 6) 18446744073709551615) _ (b.pt 9 [0,1,2,3,4,5,6,7,8]) o om (x:=p.tn i 7) (k2:=p.oT+1+8*(i+1)) (o2:=(((((((p.jI i&&dle (p.tn i 0) aC)&&dle (p.tn i 1) aC)&&dle (p.tn i 2) aC)&&dle (p.tn i 3) aC)&&dle (p.tn i 4) 18446744073709551615)&&dle (p.tn i 5) 1)&&dle (p.tn i 6) 18446744073709551615)&&dle (p.tn i 7) 4294967295) (AO h (j:=8*i+7) om) om (rfl))) λaqx=>(Jv 1 [(118,vW (IntKind.u32.wrap (p.tn i 7:Int)))]∘Jo (vW ((p.tn i 7)%4294967296:Nat)) (by exact Wu (p.tn i 7))∘Jf 5∘JW iq sV) λacG=>(Jf 6∘JW iq uh) λTR=>(Jf 7∘JW iq uS) λTS=>(iQ∘Jq∘JC (h:=by exact λb=>(show Mem W _ (.blk g #[.slice (dR e d (p.oT+1+8*(i+1))) (abn p.nums- (p.oT+1+8*(i+1))) (d- (p.oT+1+8*(i+1))),.bool ((((((((p.jI i&&dle (p.tn i 0) aC)&&dle (p.tn i 1) aC)&&dle (p.tn i 2) aC)&&dle (p.tn i 3) aC)&&dle (p.tn i 4) 18446744073709551615)&&dle (p.tn i 5) 1)&&dle (p.tn i 6) 18446744073709551615)&&dle (p.tn i 7) 4294967295)] 302::abl e p.nums d bD 41 1::.blk g8 #[vI (p.lY i),vI (bL (p.tn i 1)),vI (bL (p.tn i 2)),vI (bL (p.tn i 3)),vQ (p.tn i 4),.bool (decide (p.tn i 5=1)),vQ (p.tn i 6),vW ((p.tn i 7)%4294967296:Nat)] 232::abm At T H bS 232 8::abl E U cu aX 3 1::abl D C cl aX 3 1::abm B G r fC 198 2::.blk F #[vI (bL p.nx),vI p.cp,vQ p.cr,abk B G r,abk D C cl,abk E U cu,abk At T H,vN] 50::ahC O::fs) from b))) λa Z b=>?_
  refine wp_seq ?_
  refine Jb Z b ((Vs (.t (.t (.t (.f .n)))) [10]) λaqy=>(Vp [0,1]∘Vn 2∘Vf 3 5∘Vc 4 O6∘nH 5 fE O2) λa Z b I=>?_)
  refine s_on Z 6 rfl (jl Z b dA [(0,.agg #[vI (p.lY i),vI (bL (p.tn i 1)),vI (bL (p.tn i 2)),vI (bL (p.tn i 3)),vQ (p.tn i 4),.bool (decide (p.tn i 5=1)),vQ (p.tn i 6),vW ((p.tn i 7)%4294967296:Nat)])] #[vI (p.lY i),vI (bL (p.tn i 1)),vI (bL (p.tn i 2)),vI (bL (p.tn i 3)),vQ (p.tn i 4),.bool (decide (p.tn i 5=1)),vQ (p.tn i 6),vW ((p.tn i 7)%4294967296:Nat)] ?_)
  clear Z b;intro a aqz aqA Z b
  refine ay (b.pt 10 [1,2,3,5,6,7,8,9]) (λI=>?_)
  refine s_on Z 7 rfl (qV Z b (i:=4) rfl dA rfl rfl rfl (news:=([p.tQ i].flatMap bS)) (b.bB (i:=0) (n:=1) (size:=8) rfl rfl) (Hf _) om om rfl de ?_)
  clear Z b;intro a aqB zG zH Z b wN
  refine ay (b.pt 10 [1,2,3,5,6,7,8,9]) (λI=>?_)
  refine Vb Z b I ((Vn 8∘Vf 9 5) λa Z b I=>?_)
  refine s_on Z 10 rfl (eG Z b 8 λTT b=>?_)
  refine dN kr ?_
  refine qe kr ?_
  have M:abn T+1=abn (T++[p.tQ i]):=nK rfl
  rw [M] at wN
  replace b:=b.aY (i:=4) (ys:=(T++[p.tQ i]).flatMap bS) rfl M (by exact List.flatMap_append.symm)
  replace Z:=Z.sp 129 (abk zG (T++[p.tQ i]) zH) rfl (iB M)
  replace b:=b.dW (i:=8) (ds:= #[vI (bL p.nx),vI p.cp,vQ p.cr,abk B G r,abk D C cl,abk E U cu,abk zG (T++[p.tQ i]) zH,vN]) rfl (by rw [M];try rfl)
  refine Jb Z b ((aJ 2∘Jn∘Jg 1 O1∘Jp 1) (Ju (λwO=>?_) λwO=>?_))
  ·
   refine (Jp 3∘Jn∘Jf 1∘JW fJ fJ) λDl=>(iQ∘Jj∘JR∘Jp 1∘Jy (v:=vI (if (65535:Int)<(p.lY i:Int) then 65535 else p.lY i)) (h:=by exact Yl.min rfl rfl rfl)∘Jo (vI (p.sj (i+1))) (by exact rfl)∘Jp 1∘aH∘Jj∘JR∘dx 1∘Jp 1∘aK∘Jq) λa Z b=>?_
   replace b:=b.dW (i:=1) (ds:= #[.slice (dR e d (p.oT+1+8*(i+1))) (abn p.nums- (p.oT+1+8*(i+1))) (d- (p.oT+1+8*(i+1))),.bool (p.jI (i+1))]) rfl (by rw [show p.jI (i+1)=(((((((((p.jI i&&dle (p.tn i 0) aC)&&dle (p.tn i 1) aC)&&dle (p.tn i 2) aC)&&dle (p.tn i 3) aC)&&dle (p.tn i 4) 18446744073709551615)&&dle (p.tn i 5) 1)&&dle (p.tn i 6) 18446744073709551615)&&dle (p.tn i 7) 4294967295)&&decide (p.lY i<=65535)) from rfl,wO];rfl)
   exact ⟨_,om,i+1,(T++[p.tQ i]),zG,zH,by omega,by rw [hT,y7],by rw [abp,hTl];rfl,wN,rfl,Z.sub kr,b.pt 10 [4,1,2,5,6,7,8,9]⟩
  refine (Jp 3∘Jn∘Jf 1∘JW fJ fJ) λDl=>(iQ∘Jj∘JR∘Jp 1∘Jy (v:=vI (if (65535:Int)<(p.lY i:Int) then 65535 else p.lY i)) (h:=by exact Yl.min rfl rfl rfl)∘Jo (vI (p.sj (i+1))) (by exact rfl)∘Jp 1∘aH∘Jj∘JR∘dx 1∘Jp 1∘aK∘Jq) λa Z b=>?_
  replace b:=b.dW (i:=1) (ds:= #[.slice (dR e d (p.oT+1+8*(i+1))) (abn p.nums- (p.oT+1+8*(i+1))) (d- (p.oT+1+8*(i+1))),.bool (p.jI (i+1))]) rfl (by rw [show p.jI (i+1)=(((((((((p.jI i&&dle (p.tn i 0) aC)&&dle (p.tn i 1) aC)&&dle (p.tn i 2) aC)&&dle (p.tn i 3) aC)&&dle (p.tn i 4) 18446744073709551615)&&dle (p.tn i 5) 1)&&dle (p.tn i 6) 18446744073709551615)&&dle (p.tn i 7) 4294967295)&&decide (p.lY i<=65535)) from rfl,wO];rfl)
  exact ⟨_,om,i+1,(T++[p.tQ i]),zG,zH,by omega,by rw [hT,y7],by rw [abp,hTl];rfl,wN,rfl,Z.sub kr,b.pt 10 [4,1,2,5,6,7,8,9]⟩
 refine (JF∘JX∘JG∘bN 1∘Jn∘Jf 0∘Jg 2 O6∘Jl∘Jp 1∘Jq∘JC (h:=by exact λb=>b.dW (i:=1) (ds:= #[.slice (dR e d (p.oS+p.so 0 0)) (abn p.nums- (p.oS+p.so 0 0)) (d- (p.oS+p.so 0 0)),.bool (p.mW 0)]) rfl (by rw [show i=p.tk by omega];rfl))∘JC (h:=by exact λb=>b.nil 176 1)∘JC (h:=by exact λb=>b.ow 200 3)∘JC (h:=by exact λb=>(show Mem W _ (.row (vN) 0 [] 176 1::abm At T H bS 232 8::ahI g e d (p.oS+p.so 0 0) p.nums (p.mW 0)::abl e p.nums d bD 41 1::abl E U cu aX 3 1::abl D C cl aX 3 1::abm B G r fC 198 2::.blk F #[vI (bL p.nx),vI p.cp,vQ p.cr,abk B G r,abk D C cl,abk E U cu,abk At T H,vN] 50::ahC O::(fs++(kY 200 []))) from b))∘JG∘JB) λa Z b=>?_
 refine qg (λV aS wS=>∃(y:Nat) (z:List Rw) (As:Option Addr) (cs:Nat),(y<=abn G)/\(abn z=y)/\(z.map Rw.l=bZ y p.row)/\(∀q∈z,abn q.l<=q.c)/\(abn z<=cs)/\V=abn G-y/\Fr aS 191 [] (ahK 152 y 151 (abn G) ((96,.bool false)::ahK 95 i 94 p.tk ((7,vI (p.sj i))::(80,.bool false)::ahK 79 u 78 p.cp ((61,.bool false)::ahK 60 k 59 p.cp ((31,.bool false)::ahK 30 j 29 p.gp [(4,vP F 1),(3,vP F 0),(2,vP O 0),(0,vP g 0)])))))/\Mem W wS (abl As z cs aac 176 1::abm At T H bS 232 8::ahI g e d (p.oS+p.so y 0) p.nums (p.mW y)::abl e p.nums d bD 41 1::abl E U cu aX 3 1::abl D C cl aX 3 1::abm B G r fC 198 2::air F (bL p.nx) p.cp p.cr B G r D C cl E U cu At T H As z cs::ahC O::(fs++(kY 200 z)))) (m:=abn G-0) ⟨0,[],none,0,abA _,rfl,rfl,(λq h=>by cases h),abr _,rfl,Z.sub kr,b.pt 9 [0,1,2,3,4,5,6,7,8]⟩ ?_
 clear Z b;rintro V a w_ ⟨y,z,As,cs,hy,hzl,hz,hzc,hcs,rfl,Z,b⟩
 refine Jb Z b ((cO 1∘JQ) (Ji (λhd153=>?_) λhd153=>?_))
 ·
  have hyg:y<p.gp:=by omega
  refine (eO∘aJ 2∘aK∘bA 1∘Jq∘JC (h:=by exact λb=>b.nil 200 3)∘JG∘bN 1∘Jn∘Jf 0∘Jg 0 O8∘bM 1∘JB) λa Z b=>?_
  refine qg (λV aS wS=>∃(x:Nat) (R:List Sp) (J:Option Addr) (cr:Nat),(x<=p.cp)/\(R=bZ x (p.rH y))/\(abn R=x)/\(abn R<=cr)/\V=p.cp-x/\Fr aS 191 [] (ahK 160 x 159 p.cp ((10,abk J R cr)::(9,vI y)::(153,.bool true)::ahK 152 y 151 (abn G) ((96,.bool false)::ahK 95 i 94 p.tk ((7,vI (p.sj i))::(80,.bool false)::ahK 79 u 78 p.cp ((61,.bool false)::ahK 60 k 59 p.cp ((31,.bool false)::ahK 30 j 29 p.gp [(4,vP F 1),(3,vP F 0),(2,vP O 0),(0,vP g 0)]))))))/\Mem W wS (abm J R cr jk 200 3::abl As z cs aac 176 1::abm At T H bS 232 8::ahI g e d (p.oS+p.so y x) p.nums (p.lZ (p.mW y) y x)::abl e p.nums d bD 41 1::abl E U cu aX 3 1::abl D C cl aX 3 1::abm B G r fC 198 2::air F (bL p.nx) p.cp p.cr B G r D C cl E U cu At T H As z cs::ahC O::(fs++(kY 200 z)))) (m:=p.cp-0) ⟨0,[],none,0,abA _,rfl,rfl,abr _,rfl,Z.sub kr,b.pt 10 [0,1,2,3,4,5,6,7,8,9]⟩ ?_
  clear Z b;rintro V a w_ ⟨x,R,J,cr,hx,hR,hRl,hRc,rfl,Z,b⟩
  refine Jb Z b ((cO 1∘JQ) (Ji (λI9=>?_) λI9=>?_))
  ·
   have hxc:x<p.cp:=by omega
   have hin:=II h hyg hxc
   refine (eO∘JP∘JA #[vQ 0,vW 0,vQ 0]) λuV g11=>(Jj∘bN 2∘aK∘Jj) (Ji (λJd=>?_) λJd=>?_)
   ·
    rw [if_neg om] at hin
    have hsp:p.rH y x=⟨p.sn y x 0,p.sn y x 1%4294967296,p.sn y x 2⟩:=if_neg om
    refine (JT∘JR∘Jp 1∘JO (h:=by exact λb=>zF 18446744073709551615 W _ g (p.oS+p.so y x) e d p.nums (p.lZ (p.mW y) y x) _ (b.pt 11 [4,5,0,1,2,3,6,7,8,9,10]) o om (x:=p.sn y x 0) (k2:=p.oS+(p.so y x+1)) (o2:=p.lZ (p.mW y) y x&&dle (p.sn y x 0) 18446744073709551615) (Nj h (p.so y x)) (rfl) (rfl))) λaqD=>(Jp 1∘JO (h:=by exact λb=>zF 4294967295 W _ g (p.oS+(p.so y x+1)) e d p.nums (p.lZ (p.mW y) y x&&dle (p.sn y x 0) 18446744073709551615) _ (b.pt 11 [0,1,2,3,4,5,6,7,8,9,10]) o om (x:=p.sn y x 1) (k2:=p.oS+(p.so y x+2)) (o2:=(p.lZ (p.mW y) y x&&dle (p.sn y x 0) 18446744073709551615)&&dle (p.sn y x 1) 4294967295) (Nj h (p.so y x+1)) (rfl) (rfl))) λaqE=>(Jv 1 [(168,vW (IntKind.u32.wrap (p.sn y x 1:Int)))]∘Jo (vW ((p.sn y x 1)%4294967296:Nat)) (by exact Wu (p.sn y x 1))∘Jf 0∘JW iq aO) λacH=>(Jf 1∘JW iq fJ) λacI=>(iQ∘Jq∘JC (h:=by exact λb=>(show Mem W _ (.blk g #[.slice (dR e d (p.oS+(p.so y x+2))) (abn p.nums- (p.oS+(p.so y x+2))) (d- (p.oS+(p.so y x+2))),.bool ((p.lZ (p.mW y) y x&&dle (p.sn y x 0) 18446744073709551615)&&dle (p.sn y x 1) 4294967295)] 302::abl e p.nums d bD 41 1::.blk g11 #[vQ (p.sn y x 0),vW ((p.sn y x 1)%4294967296:Nat),vQ 0] 200::abm J R cr jk 200 3::abl As z cs aac 176 1::abm At T H bS 232 8::abl E U cu aX 3 1::abl D C cl aX 3 1::abm B G r fC 198 2::air F (bL p.nx) p.cp p.cr B G r D C cl E U cu At T H As z cs::ahC O::(fs++(kY 200 z))) from b))∘JG∘aJ 1∘JO (h:=by exact λb=>zF 18446744073709551615 W _ g (p.oS+(p.so y x+2)) e d p.nums ((p.lZ (p.mW y) y x&&dle (p.sn y x 0) 18446744073709551615)&&dle (p.sn y x 1) 4294967295) _ (b.pt 11 [0,1,2,3,4,5,6,7,8,9,10]) o om (x:=p.sn y x 2) (k2:=p.oS+p.so y (x+1)) (o2:=p.lZ (p.mW y) y (x+1)) (Nj h (p.so y x+2)) (by rw [I5 om];rfl) ((I7 om).symm))) λTU=>(Jf 2∘JW iq iq) λJm=>(xE∘Jq∘JC (h:=by exact λb=>(show Mem W _ (ahI g e d (p.oS+p.so y (x+1)) p.nums (p.lZ (p.mW y) y (x+1))::abl e p.nums d bD 41 1::.blk g11 #[vQ (p.sn y x 0),vW ((p.sn y x 1)%4294967296:Nat),vQ (p.sn y x 2)] 200::abm J R cr jk 200 3::abl As z cs aac 176 1::abm At T H bS 232 8::abl E U cu aX 3 1::abl D C cl aX 3 1::abm B G r fC 198 2::air F (bL p.nx) p.cp p.cr B G r D C cl E U cu At T H As z cs::ahC O::(fs++(kY 200 z))) from b))∘JG∘JR∘Jp 1∘dZ nX O2∘JU lV #[vQ (p.sn y x 0),vW ((p.sn y x 1)%4294967296:Nat),vQ (p.sn y x 2)]) λTV TW=>(JD ([(⟨p.sn y x 0,p.sn y x 1%4294967296,p.sn y x 2⟩:Sp)].flatMap jk) 4 (λ_ _=>rQ) lV (hr:=by exact λb=>b.bB (i:=0) (n:=1) (size:=3) rfl rfl) (h1:=by exact QV _)) λTY Y wP N=>(Jp 1∘gq∘Jq) ?_
    have A:abn R+1=abn (R++[p.rH y x]):=nK rfl
    rw [A] at N
    refine (JC (h:=by exact λb=>b.aY (i:=4) (ys:=(R++[p.rH y x]).flatMap jk) rfl A (by rw [hsp];exact List.flatMap_append.symm))∘Jk 10 (.slice Y (abn (R++[p.rH y x])) wP) (h:=by exact iB A)∘JG∘JR∘dx 1∘Jp 1∘aK∘Jq) λa Z b=>?_
    exact ⟨_,om,x+1,(R++[p.rH y x]),Y,wP,by omega,by rw [hR,y7],by rw [abp,hRl];rfl,N,rfl,Z.sub kr,b.pt 12 [4,5,6,1,2,7,8,9,10,11]⟩
   rw [if_pos om] at hin
   have hsp:p.rH y x=⟨0,0,p.sn y x 0⟩:=if_pos om
   refine (aU∘aJ 1∘JO (h:=by exact λb=>zF 18446744073709551615 W _ g (p.oS+p.so y x) e d p.nums (p.lZ (p.mW y) y x) _ (b.pt 11 [4,5,0,1,2,3,6,7,8,9,10]) o om (x:=p.sn y x 0) (k2:=p.oS+p.so y (x+1)) (o2:=p.lZ (p.mW y) y (x+1)) (Nj h (p.so y x)) (by rw [I4 om];rfl) ((I6 om).symm))) λTU=>(Jf 2∘JW iq iq) λJm=>(nT∘Jq∘JC (h:=by exact λb=>(show Mem W _ (ahI g e d (p.oS+p.so y (x+1)) p.nums (p.lZ (p.mW y) y (x+1))::abl e p.nums d bD 41 1::.blk g11 #[vQ 0,vW 0,vQ (p.sn y x 0)] 200::abm J R cr jk 200 3::abl As z cs aac 176 1::abm At T H bS 232 8::abl E U cu aX 3 1::abl D C cl aX 3 1::abm B G r fC 198 2::air F (bL p.nx) p.cp p.cr B G r D C cl E U cu At T H As z cs::ahC O::(fs++(kY 200 z))) from b))∘JG∘JR∘Jp 1∘dZ nX O2∘JU lV #[vQ 0,vW 0,vQ (p.sn y x 0)]) λTV TW=>(JD ([(⟨0,0,p.sn y x 0⟩:Sp)].flatMap jk) 4 (λ_ _=>rQ) lV (hr:=by exact λb=>b.bB (i:=0) (n:=1) (size:=3) rfl rfl) (h1:=by exact QV _)) λTY Y wP N=>(Jp 1∘gq∘Jq) ?_
   have A:abn R+1=abn (R++[p.rH y x]):=nK rfl
   rw [A] at N
   refine (JC (h:=by exact λb=>b.aY (i:=4) (ys:=(R++[p.rH y x]).flatMap jk) rfl A (by rw [hsp];exact List.flatMap_append.symm))∘Jk 10 (.slice Y (abn (R++[p.rH y x])) wP) (h:=by exact iB A)∘JG∘JR∘dx 1∘Jp 1∘aK∘Jq) λa Z b=>?_
   exact ⟨_,om,x+1,(R++[p.rH y x]),Y,wP,by omega,by rw [hR,y7],by rw [abp,hRl];rfl,N,rfl,Z.sub kr,b.pt 12 [4,5,6,1,2,7,8,9,10,11]⟩
  refine (JF∘JX∘JG∘JR∘Jp 2∘Jn∘Jg 6 O8∘Jp 1∘JU nY #[abk J R cr]) λaqF aqG=>(JD ([(⟨J,cr,R⟩:Rw)].map aac) 2 (λ_ _=>iq) nY (hr:=by exact λb=>b.bB (i:=0) (n:=1) (size:=1) rfl rfl) (h1:=by exact ZU _)) λaqH K L A8=>(Jn∘Jf 6∘JW OJ uS) λT9=>(iQ∘Jq) ?_
  have S:abn z+1=abn (z++[(⟨J,cr,R⟩:Rw)]):=nK rfl
  rw [S] at A8
  refine (JC (h:=by exact λb=>b.aY (i:=2) (ys:=(z++[(⟨J,cr,R⟩:Rw)]).map aac) rfl S (by exact List.map_append.symm))∘JC (h:=by exact λb=>b.dW (i:=9) (ds:= #[vI (bL p.nx),vI p.cp,vQ p.cr,abk B G r,abk D C cl,abk E U cu,abk At T H,abk K (z++[(⟨J,cr,R⟩:Rw)]) L]) rfl (by rw [S];try rfl))∘JC (h:=by exact λb=>b.pt (fs':=(abm J R cr jk 200 3::abl K (z++[(⟨J,cr,R⟩:Rw)]) L aac 176 1::abm At T H bS 232 8::ahI g e d (p.oS+p.so y x) p.nums (p.lZ (p.mW y) y x)::abl e p.nums d bD 41 1::abl E U cu aX 3 1::abl D C cl aX 3 1::abm B G r fC 198 2::air F (bL p.nx) p.cp p.cr B G r D C cl E U cu At T H K (z++[(⟨J,cr,R⟩:Rw)]) L::ahC O::(fs++(kY 200 z)))) 11 [1,2,3,4,5,6,7,8,9,10])∘JC (h:=by exact λb=>aaA (fs:=(abl K (z++[(⟨J,cr,R⟩:Rw)]) L aac 176 1::abm At T H bS 232 8::ahI g e d (p.oS+p.so y x) p.nums (p.lZ (p.mW y) y x)::abl e p.nums d bD 41 1::abl E U cu aX 3 1::abl D C cl aX 3 1::abm B G r fC 198 2::air F (bL p.nx) p.cp p.cr B G r D C cl E U cu At T H K (z++[(⟨J,cr,R⟩:Rw)]) L::ahC O::fs)) b)∘JC (h:=by exact λb=>(show Mem W _ (abl K (z++[(⟨J,cr,R⟩:Rw)]) L aac 176 1::abm At T H bS 232 8::ahI g e d (p.oS+p.so y x) p.nums (p.lZ (p.mW y) y x)::abl e p.nums d bD 41 1::abl E U cu aX 3 1::abl D C cl aX 3 1::abm B G r fC 198 2::air F (bL p.nx) p.cp p.cr B G r D C cl E U cu At T H K (z++[(⟨J,cr,R⟩:Rw)]) L::ahC O::(fs++(kY 200 (z++[(⟨J,cr,R⟩:Rw)])))) from b))∘JG∘JR∘dx 1∘Jp 1∘gq∘Jq) λa Z b=>?_
  replace b:=b.dW (i:=2) (ds:= #[.slice (dR e d (p.oS+p.so (y+1) 0)) (abn p.nums- (p.oS+p.so (y+1) 0)) (d- (p.oS+p.so (y+1) 0)),.bool (p.mW (y+1))]) rfl (by rw [Nk,show x=p.cp by omega];rfl)
  exact ⟨_,om,y+1,(z++[(⟨J,cr,R⟩:Rw)]),K,L,by omega,by rw [abp,hzl];rfl,by rw [abU,hz,y7,hR,show x=p.cp by omega];rfl,λq h=>(ab6.1 h).elim (hzc q) (λh=>by rw [List.mem_singleton] at h;subst h;exact hRc),A8,rfl,Z.sub kr,b.pt 9 [0,1,2,3,4,5,6,7,8]⟩
 have e0:y=p.gp:=by omega
 have e1:bZ p.gp p.iL=G:=by rw [hG,show j=p.gp by omega]
 have e2:p.cl.map bL=C:=by rw [hC,show k=p.cp by omega];exact (qsz h.cl bL).symm
 have e3:p.cu.map bL=U:=by rw [hU,show u=p.cp by omega];exact (qsz h.cu bL).symm
 have e4:bZ p.tk p.tQ=T:=by rw [hT,show i=p.tk by omega]
 have e5:(bZ p.gp λg=>(⟨none,0,p.row g⟩:Rw)).map Rw.l=z.map Rw.l:=by rw [hz,e0];exact zdn _ _ _
 refine (JF∘JX∘JG∘JP∘dZ zx O7∘JV zx Fv) λacJ=>(ny∘Jq∘JC (h:=by exact λb=>b.dW (i:=2) (ds:= #[.slice (dR e d (p.oS+p.so p.gp 0)) (abn p.nums- (p.oS+p.so p.gp 0)) (d- (p.oS+p.so p.gp 0)),.bool p.okB]) rfl (by rw [e0];try rfl))∘JG∘JZ) λa Z b=>?_
 exact iM rfl Z (.cellS (i:=8) Z b rfl rfl zx rfl) (⟨(⟨bL p.nx,⟨(p.cp:Int),p.cr,B,r,G,D,cl,C,E,cu,U,At,H,T,As,cs,z⟩⟩:dL),_,_,_,rfl,vT rfl ⟨⟨rfl,rfl,e1⟩,e2,e3,e4,e5⟩,⟨hGc,hCc,hUc,hTc,hcs,hzc⟩,aa8 (b.pt 9 [2,6,5,4,1,0])⟩)
def q8p (A:Option Addr) (c:Nat) (l:List Nat) (B:Nat) (w:World) (x:aT B w) (o:B<=w.heap.size) (hr:Rd w w.heap.size 1 A (abn l) (l.map B8)) (hc:abn l<=c) (y:abn l<=100000000) (q:∀z∈l,z<256):
    Calls abo 112 #[.slice A (abn l) c] w (Nt w (oN l) (mq l)):=by
 refine (eF Tryz.func112 37) ?_
 refine (JP∘JA aiB) λS C=>(bM 1∘JQ) λa Z b=>?_
 rcases hop:fK l with k|p
 ·
  have I:=Ta hop
  refine Jb Z b ((JR∘Jp 1∘JI (h:=by exact λb=>zj0 A c l B _ (x.mem b o) (b.le o) (b.old hr) hc y q hop)) λr s=>(Jp 1∘Jx∘Jx∘bM 2∘bN 2∘aK∘Jj) (Jh (λg=>?_) λg=>?_))
  ·
   refine (JT∘JP∘eH aiB∘Jp 1∘JV zx aO) λD=>(Jp 1∘bQ∘aP) λa Z b=>?_
   exact dI rfl Z (.cellS (i:=0) Z b rfl rfl zx rfl) (.tmp Z rfl) (Tt (wI hop) rfl (b.pk []))
  intro a Z b
  exfalso;omega
 ·
  have e:=(Tp q hop).2.2.1
  refine Jb Z b ((JR∘Jp 1∘JL (h:=by exact λb=>zjz A c l B _ (x.mem b o) (b.le o) (b.old hr) hc y q hop)) ?_)
  rintro b _ r ⟨J,T,U,E,F,V,sc,rfl,t,K,hm⟩
  refine ⟨_,rfl,_,b.join hm,?_⟩
  refine (Jp 1∘Jx∘Jx∘bM 2∘JQ∘JP∘Jv 2 [(14,.bool false)]∘Jj∘aU∘aJ 1∘Jn∘Jg 2 O0∘eH #[abk E p.nums F,.bool true]∘JE) λL j=>(Jp 1∘kW∘bA 1∘JL (h:=by exact λb=>q16 _ _ j E F p e [ahC C] (b.pk [0,2,4]) t)) ?_
  rintro b _ M ⟨z,u,N,O,rfl,hz,f,v⟩
  refine ⟨_,rfl,_,v,?_⟩
  refine (JA aiB) λW P=>(JV zx aO (h1:=by exact Mx z)) λG=>(bQ∘Jj∘bN 1∘Jn∘Jg 1 O1∘Jp 2) (Ju (λd=>?_) λd=>?_)
  ·
   refine (Jp 4∘aH∘Jj∘JT∘JP∘eH aiB∘JV zx iq) λm=>(Jp 1∘aK∘aP) λa Z b=>?_
   exact dI rfl Z (.cellS (i:=2) Z b rfl rfl zx rfl) (.tmp Z rfl) (Tt (Ns hop (λh=>by rw [h.1] at d;cases d)) rfl (b.pk []))
  refine (dZ zx O0∘JI (h:=by exact λb=>Ub z (zf4 hz (zf3 e)) (ZX (MG hz) (Tn e _ (.inl rfl))) f _ (b.stX 3 rfl))) λQ s=>(Jp 2∘aH∘Jj) (Jh (λn=>?_) λn=>?_)
  ·
   refine (JT∘JP∘eH aiB∘JV zx iq) λm=>(Jp 1∘aK∘aP) λa Z b=>?_
   exact dI rfl Z (.cellS (i:=2) Z b rfl rfl zx rfl) (.tmp Z rfl) (Tt (Ns hop (λh=>by have R:=h.2;rw [<-MI hz] at R;omega)) rfl (b.pk []))
  refine (aU∘JP∘dZ zx O0∘JV zx iq (h1:=by exact Mx z)) λH=>(Jp 1∘aK∘aP) λa Z b=>?_
  exact dI rfl Z (.cellS (i:=2) Z b rfl rfl zx rfl) (.tmp Z rfl) (q78 (Tq hop ⟨by simpa using d,by rw [<-MI hz];omega⟩) rfl hz f (b.mQ (List.sublist_append_right ([.blk P z.cells 50,.blk j #[.slice u N O,.bool p.okB] 302,.blk C z.cells 50]:List Fact) _)))
def qy2:∀(f:Nat) (l:List Nat),(∀x∈l,x<256)->(qv f l).2.2=0->∀b∈(qv f l).1,b.Ok/\abn b.evs<=4096
 |0,_,_,_=>λb a=>by cases a
 | f + 1, l, e, h => by
  rw [qv] at h⊢
  split at h
  ·rename_i d
   rw [if_pos d]
   exact λb a=>by cases a
  ·rename_i d
   rw [if_neg d]
   split at h
   ·rename_i c;exact absurd h c
   ·rename_i c
    rw [if_neg c]
    intro b a
    rcases abS.1 a with rfl|a
    ·exact zhj e (adp.1 c)
    ·exact qy2 f _ (λx g=>e x (abL g)) h b a
def qv7 (d:∀x∈l,x<256) (h:(readAll l).2=0):∀b∈(readAll l).1,b.Ok/\abn b.evs<=4096:=by
 by_cases c:524288<abn l
 ·rw [Qj c] at h;cases h
 ·by_cases a:(qv (abn l) l).2.2=0
  ·rw [Ql c a]
   exact qy2 _ _ d a
  ·rw [Qk c rfl a] at h
   exact absurd h a
section
variable {l:List Nat}
def Kk (c:∀z∈l,z<256) (h:oN l=0):(mq l).st.av.Ok/\bY (mq l).st/\1<=(mq l).next/\(mq l).next<=281474976710657:=by
 have hc:=(Ea (zm0 c h).1).1
 refine ⟨?_,?_,by omega,by omega⟩
 all_goals
  cases ho:fK l with
  |error k=>
   rw [(wI ho).1] at h
   have:=Ta ho
   omega
  | ok p =>
   have a:=(Tp c ho).2.2.1
   by_cases d:p.okB=true/\dG p.qP=0
   ·rw [(Tq ho d).2]
    first|exact zf3 a|exact Tn a _ (.inl rfl)
   ·rw [(Ns ho d).1] at h
    cases h
def Bb (bs:List Bk):Prop:=(∀b∈bs,b.Ok/\abn b.evs<=4096)/\abn bs<=1000000
def qs7:∀(f:Nat) (l:List Nat),13*(qv f l).1.length<=abn l
 |0,l=>abA _
 | f + 1, l => by
  rw [qv]
  split
  ·exact abA _
  ·split
   ·exact abA _
   ·rename_i h
    obtain ⟨c,d,_⟩:=PV (l:=l) (b:=(dz l).1) (m:=(dz l).2.1) (by rw [<-adp.1 h])
    have a:=qs7 f (l.drop (dz l).2.1)
    rw [abC] at a
    show 13*((qv f _).1.length+1)<=_
    omega
def ql8 (h:(readAll l).2=0):(readAll l).1.length<=1000000:=by
 rcases ab5 524288 (abn l) with a|a
 ·rw [Qj a] at h;cases h
 ·have d:=qs7 (abn l) l
  by_cases c:(qv (abn l) l).2.2=0
  ·rw [Ql om c];show (qv (abn l) l).1.length<=_;omega
  ·rw [Qk om rfl c];exact abA _
def q8q (a:∀x∈l,x<256) (h:(readAll l).2=0):Bb (readAll l).1:=⟨qv7 a h,ql8 h⟩
end
def Ul (w:World) (b:List Nat) (x:Pl) (r:Ending) (w':World):Prop:=∃p:Pm,r= .returned (.tuple #[.agg p.cells,.int .i64 (ko b x:Int)])/\(ko b x=0->gP (mq (bW b x.sn x.st)) p.z/\p.q.map acZ=(readAll (bW b x.st x.en)).1)/\iy p/\Mem w w' (kG p)
def q8s:iy Pm.zero:=by
 refine ⟨⟨?_,?_,?_,?_,?_,?_,?_⟩,⟨?_,?_,?_,?_,?_,?_⟩,qyo,?_,?_,?_,?_,?_⟩
 all_goals first|exact abA _|(intro z hz;cases hz)|(show (0:Nat)<_;decide)|(show aW (0:Int);unfold aW;decide)
section
variable {W w w':World} {F T:List Fact} {b:List Nat} {x:Pl}
theorem Mem.wX (h:Mem W w []):Mem W w (kG Pm.zero):=by
 exact ((((((h.nil 85 5).nil 176 1).nil 232 8).nil 3 1).nil 3 1).nil 198 2)
def Um {n:Int} (c:(ko b x:Int)=n) (a:n≠0) (d:Mem W w []):Ul W b x (.returned (.tuple #[.agg Pm.zero.cells,.int .i64 n])) w:=by
 subst c
 exact ⟨Pm.zero,rfl,λh=>absurd (by rw [h];rfl) a,q8s,d.wX⟩
def zd3 {z:dL} {q:List Hb} (hb:∀y∈b,y<256) (h1:oN (bW b x.sn x.st)=0) (i:(mq (bW b x.sn x.st)).next=(x.nx:Int)) (j:(readAll (bW b x.st x.en)).2=0) (hz:gP (mq (bW b x.sn x.st)) z) (a:fD z.st) (d:q.map acZ=(readAll (bW b x.st x.en)).1) (hc:abn q<=c) (k:Bb (readAll (bW b x.st x.en)).1) (m:Mem W w (kG ⟨z,A,c,q⟩)):Ul W b x (.returned (.tuple #[.agg (Pm.cells ⟨z,A,c,q⟩),.int .i64 0])) w:=by
 have n:ko b x=0:=(q8a h1 i).trans j
 have e:=Nv hb x.sn x.st
 obtain ⟨o1,o,r,s⟩:=Kk e h1
 obtain ⟨r1,p⟩:=k
 have f:abn q=(readAll (bW b x.st x.en)).1.length:=by rw [<-d,abx]
 refine ⟨⟨z,A,c,q⟩,by rw [n];rfl,λ_=>⟨hz,d⟩,⟨zf4 hz o1,ZX (MG hz) o,a,?_,λh g=>?_,λh g=>?_,by rw [f];exact p,hc⟩,m⟩
 ·show aW z.next
  rw [<-hz.1]
  unfold aW
  omega
 ·exact (r1 h.b (by rw [<-d];exact adq g)).1
 ·have:=(r1 h.b (by rw [<-d];exact adq g)).2
  omega
end
def Kl (b:List Nat) (x:Pl) (p:Pm):Prop:=ko b x=0->gP (mq (bW b x.sn x.st)) p.z/\p.q.map acZ=(readAll (bW b x.st x.en)).1
section
variable {W w w':World} {a pa T F G es fr:List Fact} {p:Pm} {q:List Pm}
theorem Mem.ku (n:Nat) (h:Mem W w F) (k:Mem w w' G) (c:F.drop n=T):Mem W w' (F.take n++(G++T)):=by
 have b:=h.pW k
 rw [<-ab1 n F,c,abu] at b
 exact b.perm (adN _ acY)
end
def EF (L:List Pl) (next:Int):Nat->Int×Nat
 |0=>(0,6)
 |k+1=>if ((L.getD k Pl.zero).nx:Int)<=next then ((k:Int),0) else EF L next k
def jZ (b:List Nat) (next:Int):Int×Nat:=if (dn b).2≠0 then (0,(dn b).2) else EF (dn b).1 next (dn b).1.length
def jJ (b:List Nat) (i:Int):Nat:=if (dn b).2≠0 then (dn b).2 else if i<0\/((dn b).1.length:Int)<=i then 2 else ko b ((dn b).1.getD i.toNat Pl.zero)
def Km (w:World) (b:List Nat) (i:Int) (r:Ending) (a:World):Prop:=∃p:Pm,r= .returned (.tuple #[.agg p.cells,.int .i64 (jJ b i:Int)])/\(jJ b i=0->Kl b ((dn b).1.getD i.toNat Pl.zero) p)/\iy p/\Mem w a (kG p)
section
variable {W w:World} {b:List Nat} {L:List Pl} {i:Int} {ie k:Nat}
def Uq {n:Int} (c:jJ b i=e) (d:n=(e:Int)) (a:e≠0) (f:Mem W w []):Km W b i (.returned (.tuple #[.agg Pm.zero.cells,.int .i64 n])) w:=by
 subst c d
 exact ⟨Pm.zero,rfl,λh=>absurd h a,q8s,f.wX⟩
def zd4 {x:Pl} {p:Pm} (hi:dn b=(L,0)) (h:i=(k:Int)) (hk:k<abn L) (a:L.getD k Pl.zero=x) (c:Kl b x p) (d:iy p) (e:Mem W w (kG p)):Km W b i (.returned (.tuple #[.agg p.cells,.int .i64 (ko b x:Int)])) w:=by
 subst h a
 have f:jJ b (k:Int)=ko b (L.getD k Pl.zero):=by unfold jJ;rw [hi,if_neg (λh=>h rfl),if_neg (by show ¬((k:Int)<0\/(abn L:Int)<=(k:Int));omega)];rfl
 refine ⟨p,by rw [f],λ_=>?_,d,e⟩
 rw [hi]
 exact c
def zd5 (hi:dn b=(L,ie)) (h:ie≠0):jJ b i=ie:=by unfold jJ;rw [hi];exact if_pos h
theorem qy3 (hi:dn b=(L,0)) (h:i<0\/(abn L:Int)<=i):jJ b i=2:=by grind [jJ]
def zd6 {n:Int} (hi:dn b=(L,ie)) (h:ie≠0):jZ b n=(0,ie):=by unfold jZ;rw [hi];exact if_pos h
def zj5 {n:Int} (hi:dn b=(L,0)):jZ b n=EF L n (abn L):=by unfold jZ;rw [hi];exact if_neg (λh=>h rfl)
end
def kS (next:Int):dL:=⟨next,⟨1,0,none,1,[⟨0,1⟩],none,1,[0],none,1,[0],none,0,[],none,1,[⟨none,1,[⟨0,0,0⟩]⟩]⟩⟩
def qE (next:Int):Pv:=⟨kS next,[kJ 7]⟩
def dJ:List Nat:=(nR [qE 1]).1
def zf8 (w:World) (next:Int) (r:Ending) (a:World):Prop:=∃p:Pm,r= .returned (.agg p.cells)/\gP (kS next) p.z/\p.q.map acZ=[kJ 7]/\iy p/\Mem w a (kG p)
def Du (x y:Pv):Prop:=gP x.s y.s/\x.bs=y.bs
inductive j3:List Pv->List Pv->Prop where
 |nil:j3 [] []
 |cons {x y:Pv} {l m:List Pv} (h:Du x y) (t:j3 l m):j3 (x::l) (y::m)
def q8v:∀{l m:List Pv} (last:Int) (i:Nat),j3 l m->lK m last i=lK l last i
 |_,_,_,_,.nil=>rfl
 |_,_,last,i,.cons h t=>by
  rw [lK,lK,MI h.1,h.2,h.1.1,q8v _ _ t]
theorem zf9 {l m:List Pv} (h:j3 l m):abn m=abn l:=by induction h<;>grind
theorem Ur {l m:List Pv} (h:j3 l m):pq m=pq l:=by
 unfold pq
 rw [zf9 h,q8v _ _ h]
def q8w {l m:List Pv} (h:j3 l m) (i:Nat):Du (l.getD i Pv.zero) (m.getD i Pv.zero):=by
 induction h generalizing i with
 |nil=>exact ⟨qs0 _,rfl⟩
 |cons h _ a=>
  cases i with
  |zero=>exact h
  |succ i=>exact a i
theorem zga {l m:List Pv} (h:j3 l m):∀i,stA m i=stA l i
 |0=>rfl
 |i+1=>by
  rw [stA,stA,zga h i]
  unfold qC
  rw [ZW (q8w h i).1,(q8w h i).2]
theorem zd7 {l m:List Pv} (h:j3 l m):m.flatMap jB=l.flatMap jB:=by
 induction h with
 |nil=>rfl
 |cons h _ a=>
  rw [abK,abK,a]
  unfold jB
  rw [ZW h.1,h.2,h.1.1]
theorem q8x {l m:List Pv} (h:j3 l m):nR m=nR l:=by grind [Ur,headA,zf9,l5,zd7,zga,nR]
def oo {p:Pm} {n:Int} (h:gP (kS n) p.z) (a:p.q.map acZ=[kJ 7]):Du (qE n) p.v:=⟨h,a.symm⟩
set_option maxRecDepth 100000 in
theorem zd8:nR [qE 1]=(dJ,0):=by kernel_rfl
set_option maxRecDepth 100000 in
theorem zgb:dn dJ=([⟨1,11,26,39⟩],0):=by kernel_rfl
set_option maxRecDepth 100000 in
theorem zm6:ko dJ ⟨1,11,26,39⟩=0:=by kernel_rfl
set_option maxRecDepth 100000 in
theorem Kn:(readAll (bW dJ 26 39)).1=[kJ 7]:=by kernel_rfl
set_option maxRecDepth 100000 in
theorem Ko:pq [qE 1,qE 0]=(1,330):=by kernel_rfl
set_option maxRecDepth 100000 in
theorem Kq:pq [qE 1,qE 5,qE 4]=(2,411):=by kernel_rfl
def KG (n:Int) (a b c d e f:Nat):Pm:=⟨⟨n,(NV a b c d e).st⟩,some ⟨f,0,none⟩,1,[⟨kJ 7,none,0⟩]⟩
section
variable {W w w':World} {n:Int} {a b c d e f:Nat} {F S S2 T:List Fact} {p q s:Pm} {r:Ending}
def KH (g:aW n) (h:Mem W w [.blk a #[.int .i64 0,.int .i64 1] 198,.blk b #[.int .i64 0] 3,.blk c #[.int .i64 0] 3,.blk e #[.slice (some ⟨d,0,none⟩) 1 1] 176,.blk d #[.int .u64 0,.int .u32 0,.int .u64 0] 200,.blk f #[.int .u8 2,.int .u8 0,.int .i64 0,.int .i64 7,.slice none 0 0] 85]):zf8 W n (.returned (.agg (KG n a b c d e f).cells)) w:=by
 have j:=h.fu (i:=0) (n:=1) (size:=2) rfl rfl de
 have k:=j.fu (i:=1) (n:=1) (size:=1) rfl rfl de
 have l:=k.fu (i:=2) (n:=1) (size:=1) rfl rfl de
 have m:=l.fu (i:=3) (n:=1) (size:=1) rfl rfl de
 have o:=m.fu (i:=4) (n:=1) (size:=3) rfl rfl de
 have t:=o.fu (i:=5) (n:=1) (size:=5) rfl rfl de
 have u:=(t.nil 232 8).nil 73 11
 exact ⟨KG n a b c d e f,rfl,vT rfl ⟨⟨rfl,rfl,rfl⟩,rfl,rfl,rfl,rfl⟩,rfl,⟨znc,zkj,zkk,g,xW (zhq (by unfold aW;decide)),xW (abA _),by show 1<=1000000;decide,abr _⟩,u.picks [2,3,4,1,5,6,7,0] de rfl⟩
theorem Mem.UQ (n:Nat) (h:Mem W w F) (g:F.drop n=kG p++T):gu w p:=h.zD λf i=>abL (g▸adh _ i)
theorem Mem.KI (n:Nat) (h:Mem W w F) (g:F.drop n=S++(kG p++T)):gu w p:=h.zD λf i=>abL (g▸acW _ (adh _ i))
theorem Mem.UR (n:Nat) (h:Mem W w F) (g:F.drop n=S++(S2++(kG p++T))):gu w p:=h.zD λf i=>abL (g▸acW _ (acW _ (adh _ i)))
def zkl (h:iy p) (k:gu w p):∀x∈[p],iy x/\gu w x:=xW (p:=λx=>iy x/\gu w x) ⟨h,k⟩
theorem zkm (h:iy p) (k:gu w p) (g:iy q) (k2:gu w q):∀x∈[p,q],iy x/\gu w x:=by grind
theorem zkn (h:iy p) (k:gu w p) (g:iy q) (k2:gu w q) (i:iy s) (j:gu w s):∀x∈[p,q,s],iy x/\gu w x:=by grind
end
def mD:List Nat:=(nR []).1
set_option maxRecDepth 100000 in
theorem Bg:nR []=(mD,0)/\mD=[113,97,1,0]++mD.drop 4/\mD.length=8:=by refine ⟨?_,?_,?_⟩<;>kernel_rfl
set_option maxRecDepth 100000 in
theorem znd:dJ=[113,97,1,1,1,15,13]++dJ.drop 7:=by kernel_rfl
set_option maxRecDepth 100000 in
theorem qF:dJ.length=39:=by kernel_rfl
set_option maxRecDepth 100000 in
theorem sG:∀x∈dJ,x<256:=by
 have h:(dJ.all λx=>decide (x<256))=true:=by kernel_rfl
 exact λx g=>of_decide_eq_true (List.all_eq_true.1 h x g)
set_option maxRecDepth 100000 in
theorem zko:dn (dJ++[0])=([],410):=by kernel_rfl
set_option maxRecDepth 100000 in
theorem KJ:jZ dJ 9=(0,0)/\jZ dJ 0=(0,6)/\jJ dJ 0=0/\jJ dJ 1=2:=by refine ⟨?_,?_,?_,?_⟩<;>kernel_rfl
set_option maxRecDepth 100000 in
theorem KL:(mq (bW dJ 11 26)).next=1:=by kernel_rfl
def zne:∀x∈dJ++[0],x<256:=by decide
def zkp (h:Rd w B 1 A m (dJ.map B8)) (hm:m=39):Rd w B 1 A 7 ([113,97,1,1,1,15,13].map B8):=by
 rw [znd] at h
 exact Rd.pre h rfl om
def zkq (h:Rd w B 1 A m (mD.map B8)) (hm:m=8):Rd w B 1 A 4 ([113,97,1,0].map B8):=by
 rw [Bg.2.1] at h
 exact Rd.pre h rfl om
def KM (w:World) (r:Ending) (w':World):Prop:=∃(z:aF) (g c:Nat) (h:Hb),r= .returned (.tuple #[.agg #[.int .i64 1,.int .i64 z.au,.int .u64 (z.aj:Int),.slice z.gA (abn z.gs) z.gc,.slice z.lA (abn z.cl) z.lc,.slice z.uA (abn z.cu) z.uc,.slice z.tA (abn z.ts) z.tc,.slice z.sA (abn z.rs) z.sc,.slice (some ⟨g,0,none⟩) 1 c],.int .i64 0])/\h.b=kJ 7/\Mem w w' [.row (.slice (some ⟨g,0,none⟩) 1 c) 1 ([h].flatMap hbL) 85 5]
def zkr (h:Km w dJ 0 r w'):KM w r w':=by
 obtain ⟨⟨⟨nx,z⟩,A,c,q⟩,rfl,m,o,hm⟩:=h
 rw [KJ.2.2.1]
 have k:=m KJ.2.2.1
 rw [zgb] at k
 obtain ⟨u,v⟩:=k zm6
 have l:(mq (bW dJ 11 26)).next=nx:=u.1
 rw [KL] at l
 subst l
 have x:q.map acZ=[kJ 7]:=v.trans Kn
 obtain ⟨h,t,rfl,y,ht⟩:=List.map_eq_cons_iff.1 x
 obtain rfl:=List.map_eq_nil_iff.1 ht
 have j:Mem w w' [.row (.slice A 1 c) 1 ([h].flatMap hbL) 85 5]:=hm.mQ (List.sublist_append_of_sublist_right (ahm _ (List.nil_sublist _)))
 obtain ⟨g,rfl⟩:=zo (j.own (i:=0) rfl) de
 exact ⟨z,g,c,h,rfl,y,j⟩
def zei (h:Km w dJ 1 r w'):∃p:Pm,r= .returned (.tuple #[.agg p.cells,.int .i64 2])/\Below w.heap.size w w':=by
 obtain ⟨p,rfl,_,_,hm⟩:=h
 rw [KJ.2.2.2]
 exact ⟨p,rfl,hm.below⟩
def KN:pF abo 4 57 (.agg (Pl.cells ⟨1,11,26,39⟩)) (.agg #[.int .i64 1,.int .i64 11,.int .i64 26,.int .i64 39])=some true:=by kernel_rfl
def kU (b:List Nat):List Pl->Nat
 |[]=>0
 |x::l=>if (readAll (bW b x.st x.en)).2≠0 then (readAll (bW b x.st x.en)).2 else kU b l
def kV (b:List Nat) (l:List Pl):List Bk:=l.flatMap λx=>(readAll (bW b x.st x.en)).1
def j4 (b:List Nat) (i:Int):Nat:=if (dn b).2≠0 then (dn b).2 else if i<0\/((dn b).1.length:Int)<=i then 2 else kU b ((dn b).1.drop i.toNat)
def zgf (w:World) (b:List Nat) (i:Int) (r:Ending) (w':World):Prop:=∃(A:Option Addr) (c:Nat) (q:List Hb) (e:Nat),r= .returned (.tuple #[.slice A (abn q) c,.int .i64 (e:Int)])/\e=j4 b i/\(e=0->q.map acZ=kV b ((dn b).1.drop i.toNat))/\(e≠0->q=[])/\abn q<=c/\Mem w w' (.row (.slice A (abn q) c) (abn q) (q.flatMap hbL) 85 5::eX 73 q)
section
variable {W w w':World} {b:List Nat} {L:List Pl} {i:Int} {j k ie:Nat} {x:Pl} {a:List Fact} {q p:List Hb}
def NT {n:Int} (d:j4 b i=e) (f:n=(e:Int)) (c:e≠0) (g:Mem W w []):zgf W b i (.returned (.tuple #[.slice none 0 0,.int .i64 n])) w:=by
 subst d f
 exact ⟨none,0,[],_,rfl,rfl,λh=>absurd h c,λ_=>rfl,abr _,g.nil _ _⟩
def zeb (hi:dn b=(L,ie)) (h:ie≠0):j4 b i=ie:=by unfold j4;rw [hi];exact if_pos h
def Uy (hi:dn b=(L,0)) (h:i<0\/(abn L:Int)<=i):j4 b i=2:=by unfold j4;rw [hi];exact (if_neg (λh=>h rfl)).trans (if_pos h)
def q86 (hi:dn b=(L,0)) (c:i=(j:Int)) (h:j<abn L):j4 b i=kU b (L.drop j):=by subst c;unfold j4;rw [hi,if_neg (λh=>h rfl),if_neg (by show ¬((j:Int)<0\/(abn L:Int)<=(j:Int));omega)];rfl
def drop_at (h:j+k<abn L) (c:L.getD (j+k) Pl.zero=x):(L.drop j).drop k=x::(L.drop j).drop (k+1):=by
 rw [acQ,acQ,ace h,<-c,abt,abq h]
 rfl
def zec (h:j+k<abn L) (c:L.getD (j+k) Pl.zero=x):kU b ((L.drop j).drop k)=if (readAll (bW b x.st x.en)).2≠0 then (readAll (bW b x.st x.en)).2 else kU b ((L.drop j).drop (k+1)):=by
 rw [drop_at h c];rfl
def zed (h:j+k<abn L) (c:L.getD (j+k) Pl.zero=x):kV b ((L.drop j).take (k+1))=kV b ((L.drop j).take k)++(readAll (bW b x.st x.en)).1:=by
 have e:(L.drop j).take (k+1)=(L.drop j).take k++[x]:=by
  rw [ado,ade,abq h,<-c,abt,abq h]
  rfl
 unfold kV
 rw [e,abX,abK,adV,abP]
def zke {t:TypeId}:eX t (q++p)=eX t q++eX t p:=by unfold eX je;rw [abU,abU]
def abd {t:TypeId} {F:List Fact} (h:Mem W w (a++(eX t p++(eX t q++F)))):Mem W w (a++(eX t (q++p)++F)):=by
 rw [zke,abu]
 exact h.perm (adN a (by rw [<-abu,<-abu];exact List.Perm.append_right F acY))
end
structure Ap where
 n:dH
 A:Option Addr
 c:Nat
 l:List iY
 gap:Nat
 B:Option Addr
 d:Nat
 q:List fP
def Ap.zero:Ap:=⟨⟨0,0,0,[],[]⟩,none,0,[],0,none,0,[]⟩
def Ap.cells (x:Ap):Array Value:= #[.int .u8 (x.n.au:Int),.int .u8 (x.n.groups:Int),.int .u32 (x.n.aj:Int),.int .u8 (x.n.ps.getD 0 0:Int),.int .u8 (x.n.ps.getD 1 0:Int),.int .u8 (x.n.ps.getD 2 0:Int),.int .u8 (x.n.ps.getD 3 0:Int),.int .u8 (x.n.ps.getD 4 0:Int),.int .u16 (x.n.ws.getD 0 0:Int),.int .u16 (x.n.ws.getD 1 0:Int),.int .u16 (x.n.ws.getD 2 0:Int),.int .u16 (x.n.ws.getD 3 0:Int),.int .u16 (x.n.ws.getD 4 0:Int),.slice x.A (abn x.l) x.c,.int .u32 (x.gap:Int),.slice x.B (abn x.q) x.d]
def EH (x:Ap):List Value:=x.cells.toList
def q8y (x:Ap):abn (EH x)=16:=rfl
def zm8 (x:Ap):∀v∈x.cells.toList,v.oneCell'=true:=by simp [Ap.cells,abR]
def Bd:SI abo 104 16:=⟨by kernel_rfl,by kernel_rfl⟩
def Kr:EI abo 22 104 (.agg Ap.zero.cells) 16 80:=⟨by kernel_rfl,by kernel_rfl,rfl,by omega⟩
def five {α:Type} {l:List α} (h:abn l=5):∃a b c d e,l=[a,b,c,d,e]:=by
 match l,h with
 |[a,b,c,d,e],_=>exact ⟨a,b,c,d,e,rfl⟩
def zgd {n:dH} (h:n.Ok):(#[.int .u8 (n.au:Int),.int .u8 (n.groups:Int),.int .u32 (n.aj:Int),.int .u8 (n.ps.getD 0 0:Int),.int .u8 (n.ps.getD 1 0:Int),.int .u8 (n.ps.getD 2 0:Int),.int .u8 (n.ps.getD 3 0:Int),.int .u8 (n.ps.getD 4 0:Int),.int .u16 (n.ws.getD 0 0:Int),.int .u16 (n.ws.getD 1 0:Int),.int .u16 (n.ws.getD 2 0:Int),.int .u16 (n.ws.getD 3 0:Int),.int .u16 (n.ws.getD 4 0:Int)]:Array Value)=n.cells:=by
 obtain ⟨c,g,r,ps,ws⟩:=n
 obtain ⟨a,b,c,d,e,rfl⟩:=five h.pl
 obtain ⟨a,b,c,d,e,rfl⟩:=five h.wl
 rfl
structure lM (W:World) (x:Ap):Prop where
 n:x.n.Ok
 l:∀y∈x.l,y.Ok
 lc:abn x.l<=x.c
 ln:abn x.l<=9223372036854775807
 lr:Rd W W.heap.size 8 x.A (abn x.l) (x.l.flatMap y5)
 gap:x.gap<4294967296
 q:∀y∈x.q,pK W y
 qc:abn x.q<=x.d
 qn:abn x.q<=9223372036854775807
 qr:Rd W W.heap.size 6 x.B (abn x.q) (x.q.flatMap yI)
def iZ:List Ap->Nat->Nat
 |x::l,j+1=>x.gap+iZ l j
 |_,_=>0
section
variable {l:List Ap} {i j:Nat} {x:Ap} {p:Pm} {qs:List Pm}
def Us:iZ l 0=0:=by cases l<;>rfl
def q8z:∀{l:List Ap} {i:Nat},i<abn l->iZ l (i+1)=iZ l i+(l.getD i Ap.zero).gap
 |x::l,0,_=>by show x.gap+iZ l 0=iZ (x::l) 0+x.gap;rw [Us,Us];omega
 |x::l,i+1,h=>by
  show x.gap+iZ l (i+1)=x.gap+iZ l i+(l.getD i Ap.zero).gap
  rw [q8z (adP h),aeW]
def zj8 (h:∀x∈l,x.gap<4294967296):iZ l i<=i*4294967296:=by
 induction l generalizing i with
 |nil=>exact abA _
 | cons x l d =>
  cases i with
  |zero=>exact abA _
  |succ i=>
   have f:=d (i:=i) (λy e=>h y (acd _ e))
   have g:=h x (acB ..)
   show x.gap+iZ l i<=_
   omega
structure ni (x:Ap) (nx:Nat) (p:Pm):Prop where
 sn:kT p.z
 good:GoodS p.z.st.av
 ids:fq 12 p.z.st.ts
 nx:p.z.next=1+(nx:Int)
 bl:p.q.map acZ=rA (x.q.take 5)
 qc:abn p.q<=p.c
def l7 (l:List Ap) (qs:List Pm) (i:Nat):Prop:=abn qs=i/\∀j,j<i->ni (l.getD j Ap.zero) (iZ l (j+1)) (qs.getD j Pm.zero)
def zea:l7 l [] 0:=⟨rfl,λj h=>absurd h (Nat.not_lt_zero j)⟩
def zm9 (h:l7 l qs i) (e:l.getD i Ap.zero=x) (f:ni x (iZ l (i+1)) p):l7 l (qs++[p]) (i+1):=by
 refine ⟨by rw [abp,h.1];rfl,λj g=>?_⟩
 rw [abt (l:=qs++[p])]
 rcases ab5 j i with d|d
 ·rw [adO (by rw [h.1];exact d),<-abt]
  exact h.2 j d
 ·obtain rfl:j=i:=by omega
  rw [adK (by rw [h.1];exact abr _),h.1,aeb,e]
  exact f
end
section
variable {W w:World} {a:List Fact} {l:List Pm} {z:dL} {A:Option Addr} {c:Nat} {b:List Hb}
def aaY (h:Mem W w (.row (.slice A (abn b) c) (abn b) (b.flatMap hbL) 85 5::(a++(eX 73 b++(gB l++jF z.st))))):Mem W w (a++gB (l++[⟨z,A,c,b⟩])):=by
 rw [q8c]
 refine h.perm (List.perm_middle.symm.trans (adN a ?_))
 have d:=acY (l₁:=Fact.row (.slice A (abn b) c) (abn b) (b.flatMap hbL) 85 5::eX 73 b) (l₂:=gB l++jF z.st)
 rw [abu (gB l)] at d
 exact d
def Kt (w:World) (l:List Ap) (r:Ending) (d:World):Prop:=∃(A:Option Addr) (c:Nat) (q:List Pm),r= .returned (.tuple #[.slice A (abn q) c,.bool true])/\l7 l q (abn (l.take 4))/\abn q<=c/\Mem w d (.row (.slice A (abn q) c) (abn q) (q.flatMap kF) 53 9::gB q)
end
section
variable {b r:List Nat} {p m y:Nat}
def NR (h:b.drop p=ak y++r) (hy:y<=m) (hm:m<18446744073709551616):eZ b p m=true/\dS b p m=y/\bG b p=p+abn (ak y)/\b.drop (bG b p)=r:=by
 have a:aD (b.drop p)=(y,abn (ak y),0):=by rw [h];exact Pt r om
 have c:bG b p=p+abn (ak y):=by unfold bG;rw [a]
 refine ⟨?_,?_,c,?_⟩
 ·unfold eZ aZ;rw [a];exact decide_eq_true ⟨rfl,hy⟩
 ·unfold dS aA;rw [a];exact if_neg (by show ¬m<y;omega)
 ·rw [c,<-acQ,h,afj]
end
def oO:Nat->List Pv->List Pl
 |_,[]=>[]
 |s,x::l=>⟨aL x.s.next,s,s+abn (cZ x.s),s+abn (cZ x.s)+(q8 x.bs).1.length⟩::oO (s+abn (cZ x.s)+(q8 x.bs).1.length) l
def wY:Nat->List Pv->Nat
 |s,[]=>s
 |s,x::l=>wY (s+abn (cZ x.s)+(q8 x.bs).1.length) l
def oq:Nat->List Pv->Prop
 |_,[]=>True
 |a,x::l=>a<=aL x.s.next/\oq (aL x.s.next) l
structure Kz (x:Pv):Prop where
 nx:aL x.s.next<=4611686018427387904
 sn:abn (cZ x.s)<=16777216
 bl:(q8 x.bs).1.length<=16777216
def q81 {b r:List Nat}:∀(lv:List Pv) (p last s:Nat),(∀x∈lv,Kz x)->oq last lv->b.drop p=(lv.flatMap jB).flatMap ak++r->jY b (abn lv) p last s=some (oO s lv,p+abn ((lv.flatMap jB).flatMap ak),wY s lv)
 |[],p,last,s,_,_,_=>rfl
 | x :: l, p, last, s, c, hs, h => by
  have a:=c x (acB ..)
  have e:((x::l).flatMap jB).flatMap ak=ak (aL x.s.next)++(ak (abn (cZ x.s))++(ak (q8 x.bs).1.length++(l.flatMap jB).flatMap ak)):=by
   rw [abK,abX]
   show (ak _++(ak _++(ak _++[])))++_=_
   rw [abP,abu,abu]
  rw [e,abu,abu,abu] at h
  obtain ⟨o1,v1,f,g⟩:=NR h a.nx om
  obtain ⟨o,t,u,v⟩:=NR g a.sn om
  obtain ⟨w,z,A,B⟩:=NR v a.bl om
  have C:tX b p=true:=by unfold tX;rw [o1,o,w];rfl
  have d:lI b p=aL x.s.next:=v1
  have D:lJ b p=abn (cZ x.s):=t
  have E:mY b p=(q8 x.bs).1.length:=z
  have F:=q81 l (rowP b p) (aL x.s.next) (s+abn (cZ x.s)+(q8 x.bs).1.length) (λy G=>c y (acd _ G)) hs.2 B
  rw [abT,jY,if_pos ⟨C,by rw [d];exact hs.1⟩,d,D,E,F,e]
  have H:rowP b p+abn ((l.flatMap jB).flatMap ak)=p+abn (ak (aL x.s.next)++(ak (abn (cZ x.s))++(ak (q8 x.bs).1.length++(l.flatMap jB).flatMap ak))):=by
   unfold rowP
   rw [abp,abp,abp,A,u,f]
   omega
  rw [H]
  rfl
def iA (lv:List Pv) (i:Nat):List Nat:=(lv.take i).flatMap λx=>cZ x.s++(q8 x.bs).1
section
variable {lv:List Pv} {i k:Nat}
def NS (h:i<abn lv):iA lv (i+1)=iA lv i++cZ (lv.getD i Pv.zero).s++(q8 (lv.getD i Pv.zero).bs).1:=by
 unfold iA
 rw [yF Pv.zero h,abX,abK,adV,abP,abu]
def qy6:∀(lv:List Pv) (s:Nat),wY s lv=s+abn (iA lv (abn lv))
 |[],s=>rfl
 |x::l,s=>by
  have a:=qy6 l (s+abn (cZ x.s)+(q8 x.bs).1.length)
  unfold iA at a⊢
  rw [adr] at a⊢
  rw [abK,abp,abp]
  show wY _ l=_
  omega
structure jw (x:Pv):Prop where
 zL:dG x.s=0
 bl:fA x.bs=0
 ws:(q8 x.bs).2=0
 sn:abn (cZ x.s)<=600000
 nx:1<=x.s.next/\x.s.next<=281474976710657
def jw.fit {x:Pv} (h:jw x):Kz x:=⟨by have:=h.nx;unfold aL;omega,by have:=h.sn;omega,by have:=Mg x.bs;omega⟩
theorem jw.aL {x:Pv} (h:jw x):(aL x.s.next:Int)=x.s.next:=by have:=h.nx;unfold Go.Proofs.YtekiimhdnigmcaaGreatDoor.aL;omega
def Uu (a:∀x∈lv,jw x):∀i,i<=abn lv->abn (iA lv i)<=i*1124288
 |0,_=>abA _
 |i+1,h=>by
  have d:=Uu a i om
  have c:=a _ (qf Pv.zero (show i<abn lv by omega))
  have e:=c.sn
  have f:=Mg (lv.getD i Pv.zero).bs
  rw [NS om,abp,abp]
  omega
def Uv (c:∀x∈lv,jw x) (d:abn lv<=8):∀i,i<=abn lv->stA lv i=(iA lv i,false)
 |0,_=>rfl
 | i + 1, h => by
  have e:=c _ (qf Pv.zero (show i<abn lv by omega))
  have f:=Uu c (i+1) h
  rw [NS om,abp,abp] at f
  rw [stA,Uv c d i om,NS om]
  unfold qC
  refine if_neg ?_
  rw [adM,adM,decide_eq_true_eq,decide_eq_true_eq]
  rintro ((a|a)|a)
  ·cases a
  ·exact a e.ws
  ·have a:16777216<abn (iA lv i)+abn (cZ (lv.getD i Pv.zero).s)+(q8 (lv.getD i Pv.zero).bs).1.length:=a
   omega
theorem qta (c:∀x∈lv,jw x):∀(l:List Pv) (last:Nat) (i:Nat),(∀x∈l,jw x)->oq last l->lK l (last:Int) i=(-1,0)
 |[],_,_,_,_=>rfl
 |x::l,last,i,h,hs=>by
  have a:=h x (acB ..)
  have d:=a.aL
  have f:=hs.1
  rw [lK,if_neg (λn=>n a.zL),if_neg (λn=>n a.bl),if_neg om,<-d]
  exact qta c l _ _ (λy e=>h y (acd _ e)) hs.2
def qtb:∀lv:List Pv,abn (lv.flatMap jB)=3*abn lv
 |[]=>rfl
 |x::l=>by rw [abK,abp,qtb l,abT];show 3+_=_;omega
def KA:∀(lv:List Pv) (s:Nat),abn (oO s lv)=abn lv
 |[],_=>rfl
 |x::l,s=>by rw [oO,abT,KA l,abT]
def q82:∀(lv:List Pv) (s i:Nat),i<abn lv->((oO s lv).getD i Pl.zero).nx=aL (lv.getD i Pv.zero).s.next
 |x::l,s,0,_=>rfl
 |x::l,s,i+1,h=>q82 l _ i (adP h)
def Uw:∀(lv:List Pv) (s i:Nat),i<abn lv->(oO s lv).getD i Pl.zero=⟨aL (lv.getD i Pv.zero).s.next,s+abn (iA lv i),s+abn (iA lv i)+abn (cZ (lv.getD i Pv.zero).s),s+abn (iA lv i)+abn (cZ (lv.getD i Pv.zero).s)+(q8 (lv.getD i Pv.zero).bs).1.length⟩
 |x::l,s,0,_=>rfl
 | x :: l, s, i + 1, h => by
  have e:abn (iA (x::l) (i+1))=abn (cZ x.s)+(q8 x.bs).1.length+abn (iA l i):=by
   unfold iA
   rw [List.take_succ_cons,abK,abp,abp]
  rw [e,<-aeW,<-aeW]
  exact Uw l _ i (adP h)
def q2f (h:i<abn lv):∃r,iA lv (abn lv)=iA lv i++(cZ (lv.getD i Pv.zero).s++((q8 (lv.getD i Pv.zero).bs).1++r)):=by
 refine ⟨(lv.drop (i+1)).flatMap λx=>cZ x.s++(q8 x.bs).1,?_⟩
 rw [<-abu,<-abu,<-NS h]
 unfold iA
 rw [<-abX,ab1,adr]
def qy7 {p m r:List Nat} {i j:Nat} (hb:b=p++(m++r)) (hi:i=abn p) (a:j=abn p+abn m):bW b i j=m:=by
 subst hb hi a
 unfold bW
 rw [<-abu,<-abp,adJ,afj]
structure WrA (lv:List Pv) (L:List Pl) (bs:List Nat):Prop where
 zL:pq lv=(-1,0)
 wr:nR lv=(bs,0)
 idx:dn bs=(L,0)
 len:abn L=abn lv
 nx:∀i,i<abn lv->((L.getD i Pl.zero).nx:Int)=(lv.getD i Pv.zero).s.next
 few:abn bs<=16777216
 cut:∀i,i<abn lv->bW bs (L.getD i Pl.zero).sn (L.getD i Pl.zero).st=cZ (lv.getD i Pv.zero).s/\bW bs (L.getD i Pl.zero).st (L.getD i Pl.zero).en=(q8 (lv.getD i Pv.zero).bs).1
 dam:∃a,(∀i,i<abn lv->a<=(L.getD i Pl.zero).sn)/\∀c,abn c=abn bs->c.take a=bs.take a->dn c=(L,0)
def zkc (f:∀x∈lv,jw x) (hs:oq 0 lv) (D:abn lv<=8):∃L bs,WrA lv L bs:=by
 have hc:pq lv=(-1,0):=by unfold pq;rw [if_neg om];exact qta f lv 0 0 f hs
 have v:=Uv f D (abn lv) (abr _)
 have E:=Uu f (abn lv) (abr _)
 obtain ⟨h,o⟩:∃h,h=[113,97,1]++(l5 lv (abn lv)).flatMap ak:=⟨_,rfl⟩
 have e:l5 lv (abn lv)=abn lv::lv.flatMap jB:=by unfold l5;rw [adr]
 have F:abn h<=3+10*(1+3*8):=by
  have g:=zq (l5 lv (abn lv))
  have G:=qtb lv
  rw [o,abp,show abn ([113,97,1]:List Nat)=3 from rfl]
  rw [e,abT,G] at g
  rw [e]
  omega
 have H:headA lv=bI h:=by unfold headA;rw [o]
 have a:abn (bI h)=abn h+4:=uQ h
 have I:nR lv=(bI h++iA lv (abn lv),0):=by
  unfold nR
  rw [hc,v,H,if_neg (λn=>n rfl)]
  refine if_neg ?_
  rintro (g|g)
  ·cases g
  ·have g:16777216<abn (bI h)+abn (iA lv (abn lv)):=g
   omega
 have w:abn (bI h++iA lv (abn lv))=abn h+4+abn (iA lv (abn lv)):=by rw [abp,a]
 obtain ⟨t,ht⟩:∃t,bI h=h++t:=⟨_,rfl⟩
 have key:∀d:List Nat,abn d=abn (iA lv (abn lv))->dn (bI h++d)=((oO 0 lv).map (Pl.up (abn h+4)),0):=λd z=>by
  have A:abn (bI h++d)=abn h+4+abn d:=by rw [abp,a]
  have J:(bI h++d).drop 3=ak (abn lv)++((lv.flatMap jB).flatMap ak++(t++d)):=by
   rw [ht,o,e,abK]
   show (ak (abn lv)++(lv.flatMap jB).flatMap ak)++t++_=_
   rw [abu,abu]
  have B:(bI h++d).take 3=[113,97,1]:=by rw [ht,o];rfl
  obtain ⟨o1,v1,K,M⟩:=NR (m:=1024) J om om
  have hi:=q81 lv (bG (bI h++d) 3) 0 0 (λx N=>(f x N).fit) hs M
  have O:bG (bI h++d) 3+abn ((lv.flatMap jB).flatMap ak)=abn h:=by
   rw [K,o,e,abK,abp,abp]
   show 3+_+_=3+_
   omega
  rw [O] at hi
  refine zf5 (s:=wY 0 lv) om B (by rw [o1,v1];exact hi) ⟨by omega,?_,by rw [qy6,A,z];omega⟩
  rw [<-a,adJ]
  exact WR
 refine ⟨(oO 0 lv).map (Pl.up (abn h+4)),_,hc,I,key _ rfl,by rw [abx,KA],λi hi=>?_,by omega,λi hi=>?_,abn h+4,λi hi=>?_,λc C u=>?_⟩
 ·rw [abt,ac0,getD_at Pl.zero (by rw [KA];exact hi)]
  show ((((oO 0 lv).getD i Pl.zero).nx:Nat):Int)=_
  rw [q82 lv 0 i hi,(f _ (qf Pv.zero hi)).aL]
 ·obtain ⟨r,P⟩:=q2f hi
  rw [EA (by rw [KA];exact hi),Uw lv 0 i hi,P]
  refine ⟨qy7 (p:=bI h++iA lv i) (abu ..).symm ?_ ?_,qy7 (p:=bI h++iA lv i++cZ (lv.getD i Pv.zero).s) (r:=r) ?_ ?_ ?_⟩
  ·rw [abp,a];show 0+_+_=_;omega
  ·rw [abp,a];show 0+_+_+_=_;omega
  ·rw [abu,abu]
  ·rw [abp,abp,a];show 0+_+_+_=_;omega
  ·rw [abp,abp,a];show 0+_+_+_+_=_;omega
 ·rw [EA (by rw [KA];exact hi),Uw lv 0 i hi]
  show abn h+4<=0+_+(abn h+4)
  omega
 ·rw [<-a,adJ] at u
  rw [<-ab1 (abn (bI h)) c,u]
  exact key _ (by rw [abC,C,w,a];omega)
end
section
variable {L:List Pl} {n:Int} {k:Nat}
end
section
variable {l:List Ap} {q:List Pm} {x:Ap} {p:Pm} {i j nx:Nat}
def q83 {t:List Tk} (hs:eY t) (h1:∀y∈t,1<=y.id):∀i,i<abn t->(i:Int)+1<=(t.getD i Tk.zero).id
 |0,h=>by have:=h1 _ (qf Tk.zero h);omega
 |i+1,h=>by
  have a:=q83 hs h1 i om
  have c:=hs i (i+1) om h
  omega
def KC {s:bE} (a:GoodS s) (c:fq 12 s.ts):abn s.ts<=12:=by
 rcases acr (abn s.ts) with h|h
 ·omega
 ·have e:=q83 a.sh.sort (λy d=>(a.sh.tasks y d).id.1) (abn s.ts-1) om
  have f:=c _ (qf Tk.zero (show abn s.ts-1<abn s.ts by omega))
  omega
end
def q84 (hs:kT s) (a:GoodS s.st.av) (b:fq 12 s.st.ts):abn (cZ s)<=600000:=by
 have c:=G7 hs.zL
 obtain ⟨e,g,h,k,n,_,o⟩:=ZF c
 have d:abn s.st.ts<=12:=KC a b
 have r:abn (aN s 5)<=97:=by
  have:=GJ (f:=λi=>rD (qx s.st.ts i) (s.st.ts.getD i Tk.zero)) (m:=8) (λi=>abr 8) (abn s.st.ts)
  show abn (gI (abn s.st.ts) λi=>rD (qx s.st.ts i) (s.st.ts.getD i Tk.zero))+1<=97
  omega
 have t:abn (iJ s)<=50000:=by rw [QO];simp only [abp];omega
 have:=zq (iJ s)
 rw [Ec hs.zL,uQ,QT]
 omega
def qn8:∀(bs:List Bk),abn (bP bs)<=abn bs*4096
 |[]=>abA _
 |b::t=>by
  have a:=qn8 t
  have c:=PI b
  unfold bP at a⊢
  rw [abK,abp,abT]
  omega
def qy8:∀(b:List Pv) (a:Nat),(∀j,j<abn b->a<=aL (b.getD j Pv.zero).s.next)->(∀i j,i<j->j<abn b->aL (b.getD i Pv.zero).s.next<=aL (b.getD j Pv.zero).s.next)->oq a b
 |[],_,_,_=>trivial
 |x::l,a,e,d=>⟨e 0 (ahi _),qy8 l _ (λj c=>d 0 (j+1) (ahi _) (afh c)) (λi j hi c=>d (i+1) (j+1) (afh hi) (afh c))⟩
section
variable {w w' W:World} {fs:List Fact} {l:List Ap} {q:List Pm} {x:Ap} {p:Pm} {i j nx K:Nat}
theorem lM.old (h:lM W x) (b:Mem W w fs):lM w x:=⟨h.n,h.l,h.lc,h.ln,b.old h.lr,h.gap,λy a=>⟨(h.q y a).ok,(h.q y a).hc,(h.q y a).hm,b.old (h.q y a).rd⟩,h.qc,h.qn,b.old h.qr⟩
def q85 (h:i<=j):iZ l i<=iZ l j:=by
 induction l generalizing i j with
 |nil=>exact abr _
 | cons x l a =>
  cases i with
  |zero=>exact abA _
  |succ i=>
   cases j with
   |zero=>omega
   |succ j=>exact Nat.add_le_add_left (a om) _
def zkd (d:lM W x) (a:ni x nx p):jw p.v:=by
 have c:=Y0 (W:=W) (l:=x.q.take 5) (λy e=>d.q y (acf e))
 have g:abn (rA (x.q.take 5))<=5:=by rw [Y1,abv];omega
 have k:=qn8 (rA (x.q.take 5))
 have f:fA (rA (x.q.take 5))=0:=YR λb h=>(c b h).2
 refine ⟨a.sn.zL,?_,?_,q84 a.sn a.good a.ids,(Ea a.sn.zL).1⟩
 ·show fA (p.q.map acZ)=0
  rw [a.bl];exact f
 ·show (q8 (p.q.map acZ)).2=0
  rw [a.bl,q0h (λb h=>(c b h).2) om]
def KD (d:lM W x) (a:ni x nx p):iy p:=by
 have e:=Y0 (W:=W) (l:=x.q.take 5) (λy c=>d.q y (acf c))
 have f:=q5a (W:=W) (l:=x.q.take 5) (λy c=>d.q y (acf c))
 have g:abn p.q<=5:=by have h:=congrArg adZ a.bl;rw [abx,Y1,abv] at h;omega
 have k:=(Ea a.sn.zL).1
 exact ⟨a.sn.ok,a.sn.few,a.sn.cap,by unfold aW;omega,Aj a.bl (λb h=>(e b h).1),Aj a.bl (p:=λb=>abn b.evs<=1000000) f,by omega,a.qc⟩
def zge (h:l7 l q K) (a:j<K):(q.getD j Pm.zero).z.next=1+(iZ l (j+1):Int):=(h.2 j a).nx
def Ux (h:l7 l q K) (e:K<=abn l) (c:∀x∈l,lM W x) (d:p∈q):∃x nx,lM W x/\ni x nx p:=by
 obtain ⟨j,a,rfl⟩:=List.getElem_of_mem d
 have b:=h.2 j (by rw [<-h.1];exact a)
 rw [abt (l:=q),abq a] at b
 exact ⟨_,_,c _ (qf Ap.zero (by have:=h.1;omega)),b⟩
def sF (h:j<abn q):(q.map Pm.v).getD j Pv.zero=(q.getD j Pm.zero).v:=by rw [abt,ac0,getD_at Pm.zero h];rfl
structure l8 (q:List Pm) (L:List Pl) (bs:List Nat):Prop where
 wr:WrA (q.map Pm.v) L bs
 len:abn L=abn q
 nx:∀j,j<abn q->((L.getD j Pl.zero).nx:Int)=(q.getD j Pm.zero).z.next
 up:∀i j,i<=j->j<abn q->(q.getD i Pm.zero).z.next<=(q.getD j Pm.zero).z.next
 i64:∀j,j<abn q->1<=(q.getD j Pm.zero).z.next/\(q.getD j Pm.zero).z.next<=281474976710657
 ok:∀p∈q,iy p
 good:∀p∈q,jw p.v
 lt:∀z∈bs,z<256
 right:∀p∈q,kT p.z
def zna (h:l7 l q K) (t:K<=abn l) (D:K<=4) (u:∀x∈l,lM W x):∃L bs,l8 q L bs:=by
 have m:∀x∈q.map Pm.v,jw x:=λy c=>by
  obtain ⟨p,d,rfl⟩:=ab0.1 c
  obtain ⟨x,nx,r,k⟩:=Ux h t u d
  exact zkd r k
 have n:∀i j,i<=j->j<abn q->(q.getD i Pm.zero).z.next<=(q.getD j Pm.zero).z.next:=λi j hi a=>by
  have E:=h.1
  rw [zge h om,zge h om]
  have:=q85 (l:=l) (show i+1<=j+1 by omega)
  omega
 have g:∀j,j<abn q->1<=(q.getD j Pm.zero).z.next/\(q.getD j Pm.zero).z.next<=281474976710657:=λj a=>(m _ (ab0.2 ⟨_,qf Pm.zero a,rfl⟩)).nx
 have f:abn (q.map Pm.v)=abn q:=abx _
 have hs:oq 0 (q.map Pm.v):=qy8 _ _ (λj a=>abA _) λi j hi a=>by
  rw [f] at a
  rw [sF om,sF a]
  show aL (q.getD i Pm.zero).z.next<=aL (q.getD j Pm.zero).z.next
  have r:=n i j om a
  have k:=g i om
  have F:=g j a
  unfold aL
  omega
 have o:abn (q.map Pm.v)<=8:=by have:=h.1;omega
 obtain ⟨L,bs,s⟩:=zkc m hs o
 have B:∀p∈q,iy p:=λp d=>by
  obtain ⟨x,nx,r,k⟩:=Ux h t u d
  exact KD r k
 refine ⟨L,bs,s,by rw [s.len,f],λj a=>?_,n,g,B,λp d=>m _ (ab0.2 ⟨p,d,rfl⟩),?_,λp d=>by
  obtain ⟨x,nx,_,k⟩:=Ux h t u d
  exact k.sn⟩
 ·rw [s.nx j om,sF a]
  rfl
 ·have e:=s.wr
  unfold nR at e
  split at e
  ·injection e with e _;subst e;intro z hz;cases hz
  ·split at e
   ·injection e with e _;subst e;intro z hz;cases hz
   ·rename_i G _
    injection e with e _
    subst e
    intro z hz
    rcases ab6.1 hz with hz|hz
    ·unfold headA at hz
     refine OG (λy c=>?_) z hz
     rcases ab6.1 c with c|c
     ·have:∀y∈([113,97,1]:List Nat),y<256:=by decide
      exact this y c
     ·exact ZI y c
    ·rw [Uv m o _ (abr _)] at hz
     obtain ⟨x,A,hz⟩:=acw.1 hz
     rw [adr] at A
     obtain ⟨p,d,rfl⟩:=ab0.1 A
     rcases ab6.1 hz with hz|hz
     ·rw [Ec (m _ A).zL] at hz
      exact OG (ZJ _) z hz
     ·exact q47 (λb C=>by obtain ⟨y,c,rfl⟩:=ab0.1 C;exact (B p d).Nw y c) z hz
end
def qy9:∀{bs:List Bk},fA bs=0->∀b∈bs,b.err=0
 | b :: t, h, x, a => by
  unfold fA at h
  split at h
  ·rename_i c
   rcases abS.1 a with rfl|a
   ·exact c
   ·exact qy9 h x a
  ·rename_i c
   exact absurd h c
def q87 {bs:List Bk} (h:∀b∈bs,b.Ok) (a:fA bs=0) (c:(q8 bs).2=0):readAll (q8 bs).1=(bs,0):=by
 have e:¬524288<abn (bP bs):=λf=>by rw [YM a f] at c;cases c
 rw [Qi a e]
 exact q0g (q48 (λb d=>⟨h b d,qy9 a b d⟩) om)
def ji (q:List Pm) (j:Nat):List Hb:=(q.drop j).flatMap λp=>p.q
section
variable {q:List Pm} {L:List Pl} {bs:List Nat} {j:Nat} {i:Int}
def qtc:ji q (abn q)=[]:=by unfold ji;rw [List.drop_length];rfl
def qza (h:j<abn q):ji q j=(q.getD j Pm.zero).q++ji q (j+1):=by unfold ji;rw [Qb Pm.zero h,abK]
def q88 (h:∀p∈q,abn p.q<=1000000):abn (ji q j)<=(abn q-j)*1000000:=by
 have e:∀l:List Pm,(∀p∈l,abn p.q<=1000000)->abn (l.flatMap λp=>p.q)<=abn l*1000000:=λl=>by
  induction l with
  |nil=>intro _;exact abA _
  |cons a l d=>
   intro h
   have b:=h a (acB ..)
   have f:=d λp c=>h p (acd _ c)
   rw [abK,abp,abT]
   omega
 have b:=e (q.drop j) λp c=>h p (abL c)
 rw [abC] at b
 exact b
def zee (h:l8 q L bs) (a:j<abn q):readAll (bW bs (L.getD j Pl.zero).st (L.getD j Pl.zero).en)=((q.getD j Pm.zero).q.map acZ,0):=by
 have hm:=qf Pm.zero a
 have c:=h.good _ hm
 have d:=(h.wr.cut j (by rw [abx];exact a)).2
 rw [sF a] at d
 rw [d]
 exact q87 (λb e=>by obtain ⟨y,f,rfl⟩:=ab0.1 e;exact (h.ok _ hm).Nw y f) c.bl c.ws
def qzb {b:List Nat} (a:abn L=abn q) (hb:∀j,j<abn q->readAll (bW b (L.getD j Pl.zero).st (L.getD j Pl.zero).en)=((q.getD j Pm.zero).q.map acZ,0)):∀k,k<=abn q->kU b (L.drop (abn q-k))=0/\kV b (L.drop (abn q-k))=(ji q (abn q-k)).map acZ
 |0,_=>by
  have e:L.drop (abn q-0)=[]:=ab9 (by rw [a];exact abr _)
  rw [e,aeO,qtc]
  exact ⟨rfl,rfl⟩
 | k + 1, h => by
  obtain ⟨c,d⟩:=qzb a hb k om
  have f:abn q- (k+1)<abn q:=by omega
  have e:abn q- (k+1)+1=abn q-k:=by omega
  have hc:=hb _ f
  have g:L.drop (abn q- (k+1))=L.getD (abn q- (k+1)) Pl.zero::L.drop (abn q-k):=by rw [<-e];exact Qb Pl.zero (by rw [a];exact f)
  rw [g,qza f,e,abU,<-d]
  refine ⟨?_,?_⟩
  ·unfold kU
   rw [hc,if_neg (λn=>n rfl)]
   exact c
  ·unfold kV
   rw [abK,hc]
def q89 (h:l8 q L bs) (a:j<abn q) (hi:i=(j:Int)):j4 bs i=0/\kV bs ((dn bs).1.drop i.toNat)=(ji q j).map acZ:=by
 obtain ⟨c,d⟩:=qzb h.len (λj a=>zee h a) (abn q-j) om
 rw [show abn q- (abn q-j)=j by omega] at c d
 refine ⟨(q86 h.wr.idx hi (by rw [h.len];exact a)).trans c,?_⟩
 rw [h.wr.idx,show i.toNat=j by omega]
 exact d
def q9a (h:l8 q L bs) (hi:i=(abn q:Int)):j4 bs i=2:=Uy h.wr.idx (.inr (by rw [h.len];omega))
end
section
open Go.ChangeShapes Go.WideShapes Go.ChangeAt
section
variable {H:Type} {enc:TypeId×Value->H} {W:World} {b0:Nat} {v:Value} {d:DataW H} {p:List MemPlace}
def q80:Tryz.prog.underlying 22=some (.slice 104):=by kernel_rfl
def qy5:Tryz.prog.cellsOf 104=16:=by kernel_rfl
def q2d:Tryz.prog.cellsOf 101=1:=by kernel_rfl
def q2e:Tryz.prog.cellsOf 102=1:=by kernel_rfl
def Ku:fieldAt abo 104 0 0 100=true:=by kernel_rfl
def Kv:fieldAt abo 104 1 13 101=true:=by kernel_rfl
def Kw:fieldAt abo 104 2 14 61=true:=by kernel_rfl
def Ky:fieldAt abo 104 3 15 102=true:=by kernel_rfl
def zj9 {B D:List Value} {a b c:Value} (e:abn B=16) (f:B.take 13=D) (h1:B[13]?=some a) (g:B[14]?=some b) (j:B[15]?=some c):B=D++[a,b,c]:=by
 subst f
 refine ET (by rw [abp,abv,e];rfl) λi hi=>?_
 rw [abp,abv,e] at hi
 have hi:i<16:=hi
 rcases ab5 i 13 with h|h
 ·rw [adO (by rw [abv,e];omega),List.getElem?_take,if_pos h]
 ·rw [adK (by rw [abv,e];omega),abv,e]
  have hc:i=13\/i=14\/i=15:=by omega
  rcases hc with rfl|rfl|rfl
  ·exact h1
  ·exact g
  ·exact j
set_option maxRecDepth 100000 in
theorem zka {D:List Value} {y:DataW H×List MemPlace} (a:DataW.trod enc Tryz.prog W 0 (λ_=>true) true m 104 D=some y):∃x:Ap,EH x=D/\lM W x:=by
 obtain ⟨b,_,K,g⟩:=q6 Ku a
 obtain ⟨_,_,L,i⟩:=q6 Kv a
 obtain ⟨_,_,M,j⟩:=q6 Kw a
 obtain ⟨_,_,N,k⟩:=q6 Ky a
 rw [qy5] at b
 obtain ⟨n,e,f⟩:=q7s g
 obtain ⟨A,c,l,e1,o,r,s,t⟩:=Me y5 iY.Ok zdc q10 de Sw (λ_ _ _ h=>zdd h) i
 obtain ⟨gp,e2,u⟩:=YI j
 obtain ⟨B,w,q,e3,z,C,E,F⟩:=Me yI (pK W) zhs Y2 de YZ (λ_ _ _ h=>zbr h) k
 rw [qnz,List.drop_zero] at e
 rw [q2d] at e1
 rw [YH] at e2
 rw [q2e] at e3
 have G:=uJ e1
 have I:=uJ e2.symm
 have J:=uJ e3
 unfold maxLen at r C
 refine ⟨⟨n,A,c,l,gp,B,w,q⟩,?_,⟨f,s,o,by show l.length<=_;omega,t,u,E,z,by show q.length<=_;omega,F⟩⟩
 rw [zj9 b e.symm G I J,<-zgd f]
 rfl
set_option maxRecDepth 100000 in
theorem zkb (a:Value.okWide Tryz.prog W .any b0 22 v) (h:DataW.Trod enc Tryz.prog W 0 (λ_=>true) true 22 v d p):
  ∃(A:Option Addr) (c:Nat) (l:List Ap),v= .slice A l.length c/\l.length<=c/\c<=maxLen/\(∀x∈l,lM W x)/\Rd W W.heap.size 16 A l.length (l.flatMap EH):=by
 obtain ⟨i,len,cap,rfl⟩:=okWide_slice q80 a
 obtain ⟨e,f⟩:=h
 obtain ⟨A,c,l,b,g⟩:=Me EH (lM W) q80 qy5 de q8y (λ_ _ _ h=>zka h) f
 simp only [Value.cells,List.cons.injEq,and_true,Value.slice.injEq] at b
 obtain ⟨rfl,rfl,rfl⟩:=b
 exact ⟨_,_,l,rfl,g⟩
end
end
def Bf {α:Type} (l:List α) (m:Nat):abO .i64 (if ((m:Int)<(abn l:Int)) then (m:Int) else (abn l:Int))=vI ((abn (l.take m):Nat):Int):=by
 rw [abv]
 split<;>congr 1<;>omega
def aaR {a s t:List Fact} (h:Mem W w (a++(s++t))):Mem W w (a++(t++s)):=h.perm (adN a acY)
abbrev aio:=λa b c d e f g h i=>(.blk a b 85::.blk c d 113::.row (.slice e f g) f h 85 5::i:List Fact)
def q2i (A:Option Addr) (c:Nat) (l:List Ap) (w:World) (hr:Rd w w.heap.size 16 A (abn l) (l.flatMap EH)) (hP:∀x∈l,lM w x) (hc:abn l<=c) (hn:abn l<=9223372036854775807):
    Calls abo 14 #[abk A l c] w (Kt w l):=by
 refine (eF Tryz.func14 67) ?_
 refine (aJ 2∘bA 1∘Jq∘JC (h:=by exact λe=>e.nil 53 9)∘JC (h:=by exact λe=>(show Mem w _ (.row (vN) 0 [] 53 9::gB []) from e))∘JG∘cO 1∘bN 2∘Jl∘Jy (v:=vI (if (4:Int)<(abn l:Int) then 4 else (abn l:Int))) (h:=by exact Yl.min rfl rfl rfl)∘Jo (vI (abn (l.take 4))) (by exact Bf l 4)∘Jy (h:=by exact aag Kr (j:=abn (l.take 4)) rfl rfl rfl (by rw [abv];omega))∘Jl∘bM 1∘JB) λa Z e=>?_
 refine qg (λmS aS wS=>∃(i:Nat) (sg:Nat) (g:List Pm) (J:Option Addr) (co:Nat),(i<=abn (l.take 4))/\(sg=iZ l i)/\(l7 l g i)/\(abn g<=co)/\mS=abn (l.take 4)-i/\Fr aS 67 [] [(19,vI i),(18,vI (abn (l.take 4):Nat)),(17,abk A (l.take 4) c),(5,vI sg),(4,abk J g co),(3,.bool false),(2,vN)]/\Mem w wS (abm J g co kF 53 9::gB g)) (m:=abn (l.take 4)-0) ⟨0,0,[],none,0,abA _,Us.symm,zea,abr _,rfl,Z.sub kr,e.pt 1 [0]⟩ ?_
 clear Z e;rintro mS a w_ ⟨i,sg,g,J,co,hi,hsg,R,hco,rfl,Z,e⟩
 refine Jb Z e ((cO 1∘JQ) (Ji (λK=>?_) λK=>?_))
 ·
  have L:i<abn l:=by rw [abv] at K;omega
  have hql:=R.1
  have hgu:=q8z L
  have hgl:=zj8 (i:=i+1) (λy hy=>(hP y hy).gap)
  have hi4:i+1<=4:=by rw [abv] at K;omega
  have hgI:aW (iZ l (i+1):Int):=by unfold aW;omega
  obtain ⟨x,hx⟩:∃x,(l.getD i Ap.zero)=x:=⟨_,rfl⟩
  have C:=hP x (by rw [<-hx];exact qf Ap.zero L)
  have FQ:=C.qn
  have hxg:=C.gap
  rw [hx] at hgu
  refine (eO∘JP) ?_
  obtain ⟨gA,oA,rfl,_⟩:=hr.sat i
  refine (iC i 16∘pG Ap.cells q8y hr Bd i Ap.zero (hk:=L)∘Jo (.agg x.cells) (by rw [hx])∘JA #[vB 0,vB 0,vW 0,vB 0,vB 0,vB 0,vB 0,vB 0,.int .u16 0,.int .u16 0,.int .u16 0,.int .u16 0,.int .u16 0,vN,vW 0,vN]) λw7 M=>(JV Bd aO (h1:=by exact zm8 x)) λCe=>(bQ∘bA 1∘Jg 14 O0∘Jw .i64∘Jp 1∘Jo (vI (iZ l (i+1))) (by rw [hgu,<-hsg];exact za om om)∘Jp 1∘gq∘Jr∘Jf 0∘Jy (v:= .agg #[vB x.n.au,vB x.n.groups,vW x.n.aj,vB (x.n.ps.getD 0 0),vB (x.n.ps.getD 1 0),vB (x.n.ps.getD 2 0),vB (x.n.ps.getD 3 0),vB (x.n.ps.getD 4 0),.int .u16 (x.n.ws.getD 0 0),.int .u16 (x.n.ws.getD 1 0),.int .u16 (x.n.ws.getD 2 0),.int .u16 (x.n.ws.getD 3 0),.int .u16 (x.n.ws.getD 4 0)]) (h:=by exact Pe rfl rfl q7l rfl (λ_ h=>h.sub (i:=0) rfl 0 rfl))∘Jo (.agg x.n.cells) (by exact congrArg Value.agg (zgd C.n))∘Jg 13 O0∘Jp 1∘JL (h:=by exact λe=>q2h x.n C.n x.A x.c x.l C.l C.lc C.ln (iZ l (i+1):Int) hgI _ (e.old C.lr))) ?_
  rintro e _ PZ ⟨z,rfl,hsz,hgz,hiz,hnz,hm⟩
  refine ⟨_,rfl,_,(show Mem w PZ (.blk M x.cells 104:: abm J g co kF 53 9::(jF z.st++(gB g))) from e.wB (T:=gB g) 2 hm rfl),?_⟩
  refine (Jp 1∘Jx∘Jx∘JA #[vI 0,vI 0,vQ 0,vN,vN,vN,vN,vN]) λw8 Q=>(JV zx aO (h1:=by exact Mx z)) λadz=>(bM 1∘bN 2∘aK∘Jj∘aU∘JP∘dZ zx O0∘eH #[vI z.next,vI z.st.au,vQ z.st.aj,abk z.st.gA z.st.gs z.st.gc,abk z.st.lA z.st.cl z.st.lc,abk z.st.uA z.st.cu z.st.uc,abk z.st.tA z.st.ts z.st.tc,abk z.st.sA z.st.rs z.st.sc,vN]∘JA #[vI 0,vI 0,vQ 0,vN,vN,vN,vN,vN,vN]) λqY D=>(JV dP aO) λadA=>(bQ∘Jj∘JQ∘JP∘Jg 15 O2∘Jg 15 O2∘Jl∘Jy (v:=vI (if (5:Int)<(abn x.q:Int) then 5 else (abn x.q:Int))) (h:=by exact Yl.min rfl rfl rfl)∘Jo (vI (abn (x.q.take 5))) (by exact Bf x.q 5)∘Jy (h:=by exact aag zlu (j:=abn (x.q.take 5)) rfl rfl rfl (by rw [abv];have:=C.qc;omega))∘Jl∘Jp 1∘Jq) λa Z e=>?_
  replace e:=e.nil 85 5
  replace e:Mem w _ (.row (vN) 0 [] 85 5:: .blk D #[vI z.next,vI z.st.au,vQ z.st.aj,abk z.st.gA z.st.gs z.st.gc,abk z.st.lA z.st.cl z.st.lc,abk z.st.uA z.st.cu z.st.uc,abk z.st.tA z.st.ts z.st.tc,abk z.st.sA z.st.rs z.st.sc,vN] 53:: .blk Q z.cells 50:: .blk M x.cells 104:: abm J g co kF 53 9::(eX 73 []++(gB g++(jF z.st)))):=aaR (a:=[.row (vN) 0 [] 85 5,.blk D #[vI z.next,vI z.st.au,vQ z.st.aj,abk z.st.gA z.st.gs z.st.gc,abk z.st.lA z.st.cl z.st.lc,abk z.st.uA z.st.cu z.st.uc,abk z.st.tA z.st.ts z.st.tc,abk z.st.sA z.st.rs z.st.sc,vN] 53,.blk Q z.cells 50,.blk M x.cells 104,abm J g co kF 53 9]) e
  refine Jb Z e ((JG∘JB) λa Z e=>?_)
  refine qg (λmS aS wS=>∃(k:Nat) (o:List Hb) (u:Option Addr) (s:Nat),(k<=abn (x.q.take 5))/\(o.map acZ=rA (x.q.take k))/\(abn o=k)/\(abn o<=s)/\mS=abn (x.q.take 5)-k/\Fr aS 67 [] [(49,vI k),(48,vI (abn (x.q.take 5):Nat)),(47,abk x.B (x.q.take 5) x.d),(10,vP D 0),(38,.bool false),(9,.bool true),(8,vP Q 0),(5,vI (iZ l (i+1))),(7,vP M 0),(20,.bool true),(19,vI i),(18,vI (abn (l.take 4):Nat)),(17,abk (some ⟨gA,oA,none⟩) (l.take 4) c),(4,abk J g co),(3,.bool false),(2,vN)]/\Mem w wS (abm u o s hbL 85 5:: .blk D #[vI z.next,vI z.st.au,vQ z.st.aj,abk z.st.gA z.st.gs z.st.gc,abk z.st.lA z.st.cl z.st.lc,abk z.st.uA z.st.cu z.st.uc,abk z.st.tA z.st.ts z.st.tc,abk z.st.sA z.st.rs z.st.sc,abk u o s] 53:: .blk Q z.cells 50:: .blk M x.cells 104:: abm J g co kF 53 9::(eX 73 o++(gB g++(jF z.st))))) (m:=abn (x.q.take 5)-0) ⟨0,[],none,0,abA _,rfl,rfl,abr _,rfl,Z.sub kr,e.pt 5 [0,1,2,3,4]⟩ ?_
  clear Z e;rintro mS a w_ ⟨k,o,u,s,hk,hq2,hl2,hcb,rfl,Z,e⟩
  refine Jb Z e ((cO 1∘JQ) (Ji (λI=>?_) λI=>?_))
  ·
   have hk5:k<5:=by rw [abv] at I;omega
   have N:k<abn x.q:=by rw [abv] at I;omega
   have S:=C.q _ (qf fP.zero N)
   have hts:=q0i N
   refine (eO∘JP) ?_
   obtain ⟨GQ,GR,X,_⟩:=Rd.sat C.qr k
   have U:=C.qr;rw [X] at U
   refine (Jk 47 (.slice (some ⟨GQ,GR,none⟩) (abn (x.q.take 5)) x.d) (h:=by rw [X];try rfl)∘iC k 6∘Jy (v:= .agg ((x.q.getD k fP.zero).x.cells (x.q.getD k fP.zero).A (x.q.getD k fP.zero).c)) (h:=by exact Pe rfl rfl vC rfl (λ_ h=>(h.old U).qc3 YZ ((getD_at fP.zero N))))∘JA #[.bool false,vB 0,vW 0,vI 0,vI 0,vN]) λyB Y=>(JV vC aO (h1:=by exact zls _ _ _)) λFU=>(bQ∘Jj∘Vs (.t (.f .n)) [7]) λyC=>(Vf 0 8∘Vc 1 O1∘nH 2 vC O0∘VK 3 (.t (.f .n)) (h:=by exact λe=>q9b (x.q.getD k fP.zero).x S.ok (x.q.getD k fP.zero).A (x.q.getD k fP.zero).c _ (e.old S.rd) S.hc S.hm)) λp r w56 asr=>λa Z e HS=>?_
   refine s_on Z 4 rfl (jl Z e yG [(0,.agg ((x.q.getD k fP.zero).x.made.cells p r))] ((x.q.getD k fP.zero).x.made.cells p r) ?_)
   clear Z e;intro a w57 Uz Z e
   refine ay (e.pt 8 [2,4,5,6,7]) (λHS=>?_)
   refine s_on Z 5 rfl (qV Z e (i:=3) rfl yG rfl rfl rfl (news:=(hbL (⟨(x.q.getD k fP.zero).x.made,p,r⟩:Hb))) (e.bB (i:=0) (n:=1) (size:=5) rfl rfl) (tC _ _ _) om om rfl de ?_)
   clear Z e;intro a Gd E F Z e V
   refine ay (e.pt 8 [2,4,5,6,7]) (λHS=>?_)
   refine Vb Z e HS ((Vf 6 8) λa Z e HS=>?_)
   refine s_on Z 7 rfl (eG Z e 4 λadB e=>?_)
   refine dN kr ?_
   refine qe kr ?_
   have G:abn o+1=abn (o++[(⟨(x.q.getD k fP.zero).x.made,p,r⟩:Hb)]):=by rw [abp];rfl
   rw [G] at V
   replace e:=e.aY (i:=3) (ys:=(o++[(⟨(x.q.getD k fP.zero).x.made,p,r⟩:Hb)]).flatMap hbL) rfl G (by rw [abX,abK,adV,abP])
   replace Z:=Z.sp 58 (.slice E (abn (o++[(⟨(x.q.getD k fP.zero).x.made,p,r⟩:Hb)])) F) rfl (iB G)
   replace e:=e.dW (i:=4) (ds:= #[vI z.next,vI z.st.au,vQ z.st.aj,abk z.st.gA z.st.gs z.st.gc,abk z.st.lA z.st.cl z.st.lc,abk z.st.uA z.st.cu z.st.uc,abk z.st.tA z.st.ts z.st.tc,abk z.st.sA z.st.rs z.st.sc,.slice E (abn (o++[(⟨(x.q.getD k fP.zero).x.made,p,r⟩:Hb)])) F]) rfl (by rw [G];try rfl)
   replace e:=aaK (a:=(aio Uz ((x.q.getD k fP.zero).x.made.cells p r) Y ((x.q.getD k fP.zero).x.cells (x.q.getD k fP.zero).A (x.q.getD k fP.zero).c) E (abn (o++[(⟨(x.q.getD k fP.zero).x.made,p,r⟩:Hb)])) F ((o++[(⟨(x.q.getD k fP.zero).x.made,p,r⟩:Hb)]).flatMap hbL) [.blk D #[vI z.next,vI z.st.au,vQ z.st.aj,abk z.st.gA z.st.gs z.st.gc,abk z.st.lA z.st.cl z.st.lc,abk z.st.uA z.st.cu z.st.uc,abk z.st.tA z.st.ts z.st.tc,abk z.st.sA z.st.rs z.st.sc,.slice E (abn (o++[(⟨(x.q.getD k fP.zero).x.made,p,r⟩:Hb)])) F] 53,.blk Q z.cells 50,.blk M x.cells 104,abm J g co kF 53 9])) (q:=o) (b:=gB g++(jF z.st)) (e.pt (fs':=(.row (.slice p ((x.q.getD k fP.zero).x.made.evs.length) r) ((x.q.getD k fP.zero).x.made.evs.length) ((x.q.getD k fP.zero).x.made.evs.flatMap eD) 73 11::aio Uz ((x.q.getD k fP.zero).x.made.cells p r) Y ((x.q.getD k fP.zero).x.cells (x.q.getD k fP.zero).A (x.q.getD k fP.zero).c) E (abn (o++[(⟨(x.q.getD k fP.zero).x.made,p,r⟩:Hb)])) F ((o++[(⟨(x.q.getD k fP.zero).x.made,p,r⟩:Hb)]).flatMap hbL) (.blk D #[vI z.next,vI z.st.au,vQ z.st.aj,abk z.st.gA z.st.gs z.st.gc,abk z.st.lA z.st.cl z.st.lc,abk z.st.uA z.st.cu z.st.uc,abk z.st.tA z.st.ts z.st.tc,abk z.st.sA z.st.rs z.st.sc,.slice E (abn (o++[(⟨(x.q.getD k fP.zero).x.made,p,r⟩:Hb)])) F] 53::.blk Q z.cells 50::.blk M x.cells 104::abm J g co kF 53 9::(eX 73 o++(gB g++(jF z.st)))))) 8 [1,0,2,3,4,5,6,7])
   replace e:Mem w _ (aio Uz ((x.q.getD k fP.zero).x.made.cells p r) Y ((x.q.getD k fP.zero).x.cells (x.q.getD k fP.zero).A (x.q.getD k fP.zero).c) E (abn (o++[(⟨(x.q.getD k fP.zero).x.made,p,r⟩:Hb)])) F ((o++[(⟨(x.q.getD k fP.zero).x.made,p,r⟩:Hb)]).flatMap hbL) (.blk D #[vI z.next,vI z.st.au,vQ z.st.aj,abk z.st.gA z.st.gs z.st.gc,abk z.st.lA z.st.cl z.st.lc,abk z.st.uA z.st.cu z.st.uc,abk z.st.tA z.st.ts z.st.tc,abk z.st.sA z.st.rs z.st.sc,.slice E (abn (o++[(⟨(x.q.getD k fP.zero).x.made,p,r⟩:Hb)])) F] 53::.blk Q z.cells 50::.blk M x.cells 104::abm J g co kF 53 9::(eX 73 (o++[(⟨(x.q.getD k fP.zero).x.made,p,r⟩:Hb)])++(gB g++(jF z.st))))):=e
   refine Jb Z e ((JG∘JR∘dx 1∘Jp 1∘aK∘Jq) λa Z e=>?_)
   replace Z:=Z.sp 47 (abk x.B (x.q.take 5) x.d) rfl (by rw [X])
   exact ⟨_,om,k+1,(o++[(⟨(x.q.getD k fP.zero).x.made,p,r⟩:Hb)]),E,F,by omega,by rw [hts,abU,hq2];rfl,by rw [abp,hl2];rfl,V,rfl,Z.sub kr,e.pt 7 [2,3,4,5,6]⟩
  have hqq:o.map acZ=rA (x.q.take 5):=by rw [hq2,show k=min 5 (abn x.q) by rw [abv] at hk I;omega,<-List.take_eq_take_min]
  refine (JF∘JX∘JG∘JR∘Jp 1∘dZ dP O1∘JU qD #[vI z.next,vI z.st.au,vQ z.st.aj,abk z.st.gA z.st.gs z.st.gc,abk z.st.lA z.st.cl z.st.lc,abk z.st.uA z.st.cu z.st.uc,abk z.st.tA z.st.ts z.st.tc,abk z.st.sA z.st.rs z.st.sc,abk u o s]) λRV UA=>(JD (kF (⟨z,u,s,o⟩:Pm)) 5 (λ_ _=>sV) qD (hr:=by exact λe=>e.bB (i:=0) (n:=1) (size:=9) rfl rfl) (h1:=by exact IX _)) λw64 O P W=>(Jp 1∘gq∘Jq) ?_
  have H:abn g+1=abn (g++[(⟨z,u,s,o⟩:Pm)]):=by rw [abp];rfl
  rw [H] at W
  intro a Z e
  replace e:=e.aY (i:=5) (ys:=(g++[(⟨z,u,s,o⟩:Pm)]).flatMap kF) rfl H (by rw [abX,abK,adV,abP])
  replace Z:=Z.sp 4 (abk O (g++[(⟨z,u,s,o⟩:Pm)]) P) rfl (iB H)
  replace e:=aaY (a:=[.blk UA #[vI z.next,vI z.st.au,vQ z.st.aj,abk z.st.gA z.st.gs z.st.gc,abk z.st.lA z.st.cl z.st.lc,abk z.st.uA z.st.cu z.st.uc,abk z.st.tA z.st.ts z.st.tc,abk z.st.sA z.st.rs z.st.sc,abk u o s] 53,.blk D #[vI z.next,vI z.st.au,vQ z.st.aj,abk z.st.gA z.st.gs z.st.gc,abk z.st.lA z.st.cl z.st.lc,abk z.st.uA z.st.cu z.st.uc,abk z.st.tA z.st.ts z.st.tc,abk z.st.sA z.st.rs z.st.sc,abk u o s] 53,.blk Q z.cells 50,.blk M x.cells 104,abm O (g++[(⟨z,u,s,o⟩:Pm)]) P kF 53 9]) (e.pt (fs':=(abm u o s hbL 85 5:: .blk UA #[vI z.next,vI z.st.au,vQ z.st.aj,abk z.st.gA z.st.gs z.st.gc,abk z.st.lA z.st.cl z.st.lc,abk z.st.uA z.st.cu z.st.uc,abk z.st.tA z.st.ts z.st.tc,abk z.st.sA z.st.rs z.st.sc,abk u o s] 53:: .blk D #[vI z.next,vI z.st.au,vQ z.st.aj,abk z.st.gA z.st.gs z.st.gc,abk z.st.lA z.st.cl z.st.lc,abk z.st.uA z.st.cu z.st.uc,abk z.st.tA z.st.ts z.st.tc,abk z.st.sA z.st.rs z.st.sc,abk u o s] 53:: .blk Q z.cells 50:: .blk M x.cells 104:: abm O (g++[(⟨z,u,s,o⟩:Pm)]) P kF 53 9::(eX 73 o++(gB g++(jF z.st))))) 6 [1,0,2,3,4,5])
  replace e:Mem w _ (.blk UA #[vI z.next,vI z.st.au,vQ z.st.aj,abk z.st.gA z.st.gs z.st.gc,abk z.st.lA z.st.cl z.st.lc,abk z.st.uA z.st.cu z.st.uc,abk z.st.tA z.st.ts z.st.tc,abk z.st.sA z.st.rs z.st.sc,abk u o s] 53:: .blk D #[vI z.next,vI z.st.au,vQ z.st.aj,abk z.st.gA z.st.gs z.st.gc,abk z.st.lA z.st.cl z.st.lc,abk z.st.uA z.st.cu z.st.uc,abk z.st.tA z.st.ts z.st.tc,abk z.st.sA z.st.rs z.st.sc,abk u o s] 53:: .blk Q z.cells 50:: .blk M x.cells 104:: abm O (g++[(⟨z,u,s,o⟩:Pm)]) P kF 53 9::gB (g++[(⟨z,u,s,o⟩:Pm)])):=e
  refine Jb Z e ((JG∘JR∘dx 1∘Jp 1∘aK∘Jq) λa Z e=>?_)
  exact ⟨_,om,i+1,iZ l (i+1),(g++[(⟨z,u,s,o⟩:Pm)]),O,P,by omega,rfl,zm9 R hx ⟨hsz,hgz,hiz,hnz ⟨by omega,by omega⟩,hqq,hcb⟩,W,rfl,Z.sub kr,e.pt 5 [4]⟩
 have hin:i=abn (l.take 4):=by omega
 exact (JF∘JX∘JG∘bF 3∘bO) λe=>by exact ⟨_,_,g,rfl,by rw [hin] at R;exact R,hco,e.pt (fs':=(abm J g co kF 53 9::gB g)) 1 [0]⟩
def qwd (A:Option Addr) (c:Nat) (l:List Nat) (S:Nat) (w:World) (hL:aT S w) (hB:S<=w.heap.size) (hr:Rd w w.heap.size 1 A (abn l) (l.map B8)) (hc:abn l<=c) (hl:∀b∈l,b<256) (hn:abn l<=100000000):
    Calls abo 71 #[.slice A (abn l) c] w (Cb 73 85 w (readAll l).2 (readAll l).1):=by
 refine Fj (vs:=[abk A l c]) Tryz.func71 rfl rfl kr (σ0:=[(0,abk A l c)]) rfl ?_
 intro a Z
 have d:=Mem.start w
 refine Jb Z d ((JP∘JA #[vN]) λw2 s=>(JA #[vI 0]) λw3 t=>(Jj∘bN 1∘Jl∘Jp 1∘bQ∘Jj) (Ji (λT=>?_) λT=>?_))
 ·
  refine (JT∘JP∘JW fJ aO) λPj=>(JW aO aO) λBK=>(aP) λa Z d=>?_
  refine Fp ?_
  exact dI rfl Z (.cell1 (i:=1) Z d rfl rfl kr rfl) (.cell1 (i:=0) Z d rfl rfl kr rfl) (YP d (Qj om) rfl)
 refine (aU∘JP∘JA #[vN]) λw4 D=>(Jj∘bN 1∘JL (h:=by exact λd=>q2j A (abn l) c _)) ?_
 rintro d _ uV ⟨gp,rfl,hm⟩
 refine ⟨_,rfl,_,d.join hm,?_⟩
 refine (aK∘Jq∘JC (h:=by exact λd=>d.nil 85 5)∘JC (h:=by exact λd=>(show Mem w _ (.row (vN) 0 [] 85 5:: .blk gp #[abk A l c] 30:: .blk D #[vN] 51:: .blk t #[vI 0] 27:: .blk s #[vN] 51::eX 73 []) from d))∘JG∘JB) λa Z d=>?_
 refine Fh Z d (λF=>∃(q:List Hb) (f:Nat) (x:Option Addr) (co:Nat),(abn ([]:List Nat)<=f)/\(q.map acZ++(qv f ([]:List Nat)).1=(qv (abn l) l).1)/\((qv (abn l) l).2.2=(qv f ([]:List Nat)).2.2)/\(abn q<=co)/\(abn q+abn ([]:List Nat)<=abn l)/\F=(abm x q co hbL 85 5:: .blk D #[abk x q co] 51:: .blk t #[vI 0] 27:: .blk s #[vN] 51::eX 73 q)) (λc F=>c= .ret/\∃(q:List Hb) (e:Nat),(e≠0)/\((qv (abn l) l).2.2=e)/\F=(.blk t #[vI e] 27:: .blk s #[vN] 51::eX 73 q)) rfl kr ?_ ?_ ?_
 ·
  clear Z d;intro C B p w1 N d
  have hy:YL w C (λu F=>∃(q:List Hb) (f:Nat) (x:Option Addr) (co:Nat),(abn u<=f)/\(q.map acZ++(qv f u).1=(qv (abn l) l).1)/\((qv (abn l) l).2.2=(qv f u).2.2)/\(abn q<=co)/\(abn q+abn u<=abn l)/\F=(.obj C (.loop (p .ready none)):: .obj B (.deferred (some []))::(abm x q co hbL 85 5:: .blk D #[abk x q co] 51:: .blk t #[vI 0] 27:: .blk s #[vN] 51::eX 73 q))) (λF=>∃(q:List Hb) (e:Nat),(e≠0)/\((qv (abn l) l).2.2=e)/\F=(.obj C (.loop (p .done (some .ret))):: .obj B (.deferred (some []))::(.blk t #[vI e] 27:: .blk s #[vN] 51::eX 73 q))):=by
   rintro u F fr w3 g j b m M ⟨q,f,x,co,U,E,y,G,I,rfl⟩ hq O hrl hcb d
   replace d:=d.pt (fs':=(ahU C (p .ready none)::abm g b.evs j eD 73 11::ahA B::abm x q co hbL 85 5::.blk D #[abk x q co] 51::.blk t #[vI 0] 27::.blk s #[vN] 51::(eX 73 q++(fr)))) 7 [1,0,2,3,4,5,6]
   refine Ll (v1:= .agg #[vB (b.kind:Int),vB (b.cpu:Int),vI b.lost,vI b.next,abk g b.evs j,vI m]) (v2:=vI M) N d de de λa Z=>?_
   refine wpIn_seq ?_
   refine qo ?_
   refine Jb Z d ((JA #[vB 0,vB 0,vI 0,vI 0,vN,vI 0]) λw5 P=>(JV zef aO) λUC=>(Jq) λa Z d=>?_)
   refine qo ?_
   refine Jb Z d ((Jp 1∘Jq) λa Z d=>?_)
   refine ⟨(.blk P #[vB (b.kind:Int),vB (b.cpu:Int),vI b.lost,vI b.next,abk g b.evs j,vI m] 255::abm g b.evs j eD 73 11::ahA B::abm x q co hbL 85 5::.blk D #[abk x q co] 51::.blk t #[vI 0] 27::.blk s #[vN] 51::(eX 73 q++(fr))),d.pt (fs':=(ahU C (p .ready none)::.blk P #[vB (b.kind:Int),vB (b.cpu:Int),vI b.lost,vI b.next,abk g b.evs j,vI m] 255::abm g b.evs j eD 73 11::ahA B::abm x q co hbL 85 5::.blk D #[abk x q co] 51::.blk t #[vI 0] 27::.blk s #[vN] 51::(eX 73 q++(fr)))) 8 [1,0,2,3,4,5,6,7],λw4 d=>?_⟩
   refine wpIn_block ?_
   refine wpIn_seq ?_
   refine wpIn_seq ?_
   refine qo ?_
   refine Jb Z d ((Jp 2∘aK∘Jq) (Jh (λQ=>?_) λQ=>?_))
   ·
    intro a Z d
    have V:=qum (f:=f) om O hq om
    rw [V] at y
    refine Fe Z rfl ?_
    refine wpIn_seq ?_
    refine qo ?_
    refine Jb Z d ((Jp 1∘JW uS aO) λBN=>(JW uh aO) λasy=>(ny∘Jq) λa Z d=>?_)
    refine wpIn_ret ?_
    refine ⟨(ahA B::.blk t #[vI M] 27::.blk s #[vN] 51::(eX 73 q++(fr))),d.pt (fs':=(ahU C (p .busy none)::ahA B::.blk t #[vI M] 27::.blk s #[vN] 51::(eX 73 q++(fr)))) 8 [0,3,6,7],λw5 d=>?_⟩
    exact ⟨(ahU C (p .done (some .ret))::ahA B::.blk t #[vI M] 27::.blk s #[vN] 51::eX 73 q),d,.inr ⟨om,rfl,q,M,by omega,y,rfl⟩⟩
   intro a Z d
   have W:M=0:=by omega
   have J:=hq
   rw [W] at J
   have V:=YK (f:=f) om O J
   obtain ⟨asz,hml,_⟩:=PV J
   rw [V] at E y
   dsimp only at E y
   refine Fg Z rfl ?_
   refine wpIn_skip ?_
   refine qo ?_
   refine Jb Z d ((Jc O5∘Jf 0∘Jy (v:= .agg #[vB b.kind,vB b.cpu,vI b.lost,vI b.next,abk g b.evs j]) (h:=by exact Pe rfl rfl aG rfl (λ_ h=>h.sub (i:=1) rfl 0 rfl))∘JU yG #[vB b.kind,vB b.cpu,vI b.lost,vI b.next,abk g b.evs j]) λFN K=>(JD (hbL (⟨b,g,j⟩:Hb)) 5 (λ_ _=>sV) yG (hr:=by exact λd=>d.bB (i:=0) (n:=1) (size:=5) rfl rfl) (h1:=by exact tC _ _ _)) λRB k o H=>(JW uh aO) λTI=>(qI∘Jq) λa Z d=>?_)
   have z:abn q+1=abn (q++[(⟨b,g,j⟩:Hb)]):=by rw [abp];rfl
   rw [z] at H
   replace d:=d.aY (i:=5) (ys:=(q++[(⟨b,g,j⟩:Hb)]).flatMap hbL) rfl z (by rw [abX,abK,adV,abP])
   replace d:=d.dW (i:=6) (ds:= #[.slice k (abn (q++[(⟨b,g,j⟩:Hb)])) o]) rfl (by rw [z];try rfl)
   replace d:=aaK (a:=[.blk K #[vB b.kind,vB b.cpu,vI b.lost,vI b.next,abk g b.evs j] 85,ahU C (p .busy none),.blk P #[vB (b.kind:Int),vB (b.cpu:Int),vI b.lost,vI b.next,abk g b.evs j,vI m] 255,ahA B,abm k (q++[(⟨b,g,j⟩:Hb)]) o hbL 85 5,.blk D #[abk k (q++[(⟨b,g,j⟩:Hb)]) o] 51,.blk t #[vI 0] 27,.blk s #[vN] 51]) (q:=q) (b:=fr) (d.pt (fs':=(abm g b.evs j eD 73 11::.blk K #[vB b.kind,vB b.cpu,vI b.lost,vI b.next,abk g b.evs j] 85::ahU C (p .busy none)::.blk P #[vB (b.kind:Int),vB (b.cpu:Int),vI b.lost,vI b.next,abk g b.evs j,vI m] 255::ahA B::abm k (q++[(⟨b,g,j⟩:Hb)]) o hbL 85 5::.blk D #[abk k (q++[(⟨b,g,j⟩:Hb)]) o] 51::.blk t #[vI 0] 27::.blk s #[vN] 51::(eX 73 q++(fr)))) 9 [3,0,1,2,4,5,6,7,8])
   replace d:Mem w _ (.blk K #[vB b.kind,vB b.cpu,vI b.lost,vI b.next,abk g b.evs j] 85::ahU C (p .busy none)::.blk P #[vB (b.kind:Int),vB (b.cpu:Int),vI b.lost,vI b.next,abk g b.evs j,vI m] 255::ahA B::abm k (q++[(⟨b,g,j⟩:Hb)]) o hbL 85 5::.blk D #[abk k (q++[(⟨b,g,j⟩:Hb)]) o] 51::.blk t #[vI 0] 27::.blk s #[vN] 51::(eX 73 (q++[(⟨b,g,j⟩:Hb)])++(fr))):=d
   refine ⟨(ahA B::abm k (q++[(⟨b,g,j⟩:Hb)]) o hbL 85 5::.blk D #[abk k (q++[(⟨b,g,j⟩:Hb)]) o] 51::.blk t #[vI 0] 27::.blk s #[vN] 51::(eX 73 (q++[(⟨b,g,j⟩:Hb)])++(fr))),d.pt (fs':=(ahU C (p .busy none)::ahA B::abm k (q++[(⟨b,g,j⟩:Hb)]) o hbL 85 5::.blk D #[abk k (q++[(⟨b,g,j⟩:Hb)]) o] 51::.blk t #[vI 0] 27::.blk s #[vN] 51::(eX 73 (q++[(⟨b,g,j⟩:Hb)])++(fr)))) 8 [1,3,4,5,6,7],λw5 d=>?_⟩
   exact ⟨(ahU C (p .ready none)::ahA B::abm k (q++[(⟨b,g,j⟩:Hb)]) o hbL 85 5::.blk D #[abk k (q++[(⟨b,g,j⟩:Hb)]) o] 51::.blk t #[vI 0] 27::.blk s #[vN] 51::eX 73 (q++[(⟨b,g,j⟩:Hb)])),d,.inl ⟨om,rfl,(q++[(⟨b,g,j⟩:Hb)]),(f-1),k,o,by rw [abC];omega,by rw [<-E,abU,abu];rfl,y,H,by rw [abp,abC,List.length_singleton];omega,rfl⟩⟩
  refine (qwc w w1 gp C S A c l _ _ _ hL hB hr hc hl om hy ⟨[],abn l,none,0,abr _,List.nil_append _,rfl,abr _,by simp,rfl⟩ (d.pt 7 [3,0,1,2,4,5,6])).mono ?_
  rintro r w2 ⟨v,rfl,F2,R,(⟨q,f,x,co,U,E,y,G,I,rfl⟩|⟨q,e,L,y,rfl⟩)⟩
  ·exact ⟨v,rfl,.inl ⟨_,⟨q,f,x,co,U,E,y,G,I,rfl⟩,R⟩⟩
  ·exact ⟨v,rfl,.inr ⟨.ret,_,⟨rfl,q,e,L,y,rfl⟩,R⟩⟩
 ·
  clear Z d;rintro B a w6 _ ⟨q,f,x,co,U,E,y,G,I,rfl⟩ Z d
  have hz:=YJ (f:=f) (l:=[]) rfl
  rw [hz] at E y
  dsimp only at E y
  rw [abP] at E
  refine Jb Z d ((JG∘JP∘Jc O2∘JW rQ aO) λX=>(JW oV aO) λY=>(ny∘aP) λa Z d=>?_)
  refine Bz Z d (i:=0) rfl λa w7 Z d=>?_
  exact dI rfl Z (.cell1 (i:=4) Z d rfl rfl kr rfl) (.cell1 (i:=3) Z d rfl rfl kr rfl) (by rw [Ql om y,<-E];exact zhi (d.pt (fs':=(abm x q co hbL 85 5::eX 73 q)) 5 [1]) G)
 ·
  clear Z d;rintro _ B a w6 _ ⟨rfl,q,e,L,y,rfl⟩ Z d
  refine wp_ret ?_
  refine Bz Z d (i:=0) rfl λa w7 Z d=>?_
  exact dI rfl Z (.cell1 (i:=2) Z d rfl rfl kr rfl) (.cell1 (i:=1) Z d rfl rfl kr rfl) (YP d (Qk om y L) rfl)
def zgg (h:Rd w B 1 A (abn l) (l.map B8)) (h1:i<=j) (a:j<=abn l) (hc:abn l<=c):Rd w B 1 (if c=i then A else A.map (·.add (i*1))) (j-i) ((bW l i j).map B8):=h.xC h1 a hc
def zeg (l:List Nat) (A:Option Addr) (n c:Nat) (B:Nat) (w:World) (d:aT B w) (e:B<=w.heap.size) (hr:Rd w w.heap.size 1 A n (l.map B8)) (a:abn l=n) (hc:n<=c) (f:∀b∈l,b<256) (g:n<=100000000) {bs:List Bk} {er:Nat} (h:readAll l=(bs,er)):Calls abo 71 #[.slice A n c] w (Cb 73 85 w er bs):=by
 subst a
 have k:=qwd A c l B w d e hr hc f g
 rwa [h] at k
def qzc {f:Fact} {q:List Hb} (h:Mem W w (f::(eX 73 q++[]))):Mem W w (f::eX 73 q):=by rwa [abP] at h
theorem Mem.KF {i:World} {a gs:List Fact} (h:Mem W w a) (k:Mem w i gs):Mem W i (a++(gs++[])):=by
 rw [abP]
 exact h.pW k
def zeh {z:dL} {q:List Hb} (h:Mem W w (.row (.slice A (abn q) c) (abn q) (q.flatMap hbL) 85 5::(eX 73 q++(jF z.st++[])))):Mem W w (kG ⟨z,A,c,q⟩):=by
 rw [abP] at h
 exact h.perm (acY (l₁:=Fact.row (.slice A (abn q) c) (abn q) (q.flatMap hbL) 85 5::eX 73 q) (l₂:=jF z.st))
def qwe (A:Option Addr) (c:Nat) (b:List Nat) (B:Nat) (w:World) (r:aT B w) (m:B<=w.heap.size) (hr:Rd w w.heap.size 1 A (abn b) (b.map B8)) (hc:abn b<=c) (y:abn b<=100000000) (s:∀z∈b,z<256) (x:Pl) (l:x.sn<=x.st/\x.st<=x.en/\x.en<=abn b):
    Calls abo 56 #[.agg #[vI (x.nx:Int),vI (x.sn:Int),vI (x.st:Int),vI (x.en:Int),.slice A (abn b) c]] w (Cb 73 85 w (readAll (bW b x.st x.en)).2 (readAll (bW b x.st x.en)).1):=by
 refine (eF Tryz.func56 16) ?_
 refine (JP∘JE) λC t=>(Jp 2∘Jq) ?_
 obtain ⟨bs,n,f⟩:∃bs n,readAll (bW b x.st x.en)=(bs,n):=⟨_,_,rfl⟩
 refine (JG∘JP∘Jg 4 O0∘Jf 0∘Jg 2 O0∘Jf 0∘Jg 3 O0∘Jy (v:= .slice (if c=x.st then A else A.map (·.add (x.st*1))) (x.en-x.st) (c-x.st)) (h:=by exact aal bn (i:=x.st) (j:=x.en) rfl rfl rfl rfl om om)∘JL (h:=by exact λe=>zeg (bW b x.st x.en) _ _ _ B _ (r.mem e m) (e.le m) (zgg (e.old hr) l.2.1 l.2.2 hc) (IW l.2.2) om (Nv s _ _) om f)) ?_
 rintro e _ u ⟨o,p,q,rfl,g,k,hm⟩
 have d:abn bs=abn q:=by rw [<-g,abx]
 rw [d] at hm k⊢
 refine ⟨_,rfl,_,aax (a:=[.blk t #[vI x.nx,vI x.sn,vI x.st,vI x.en,abk A b c] 131]) (b:=[]) e hm,?_⟩
 exact (Jx∘Jx∘bM 2∘JZ∘bO) λe=>by rw [f];exact ⟨o,p,q,by rw [d],g,by rw [d];exact k,by rw [d];exact qzc (e.pt (fs':=(abm o q p hbL 85 5::(eX 73 q++([])))) 2 [0])⟩
def qn9 (A:Option Addr) (c:Nat) (b:List Nat) (B:Nat) (w:World) (a:aT B w) (d:B<=w.heap.size) (hr:Rd w w.heap.size 1 A (abn b) (b.map B8)) (hc:abn b<=c) (e:abn b<=100000000) (f:∀z∈b,z<256) (x:Pl) (g:x.sn<=x.st/\x.st<=x.en/\x.en<=abn b) {bs:List Bk} {er:Nat} (h:readAll (bW b x.st x.en)=(bs,er)):Calls abo 56 #[.agg #[vI (x.nx:Int),vI (x.sn:Int),vI (x.st:Int),vI (x.en:Int),.slice A (abn b) c]] w (Cb 73 85 w er bs):=by
 have k:=qwe A c b B w a d hr hc e f x g
 rwa [h] at k
def q9c (A:Option Addr) (c:Nat) (b:List Nat) (B:Nat) (w:World) (d:aT B w) (f:B<=w.heap.size) (hr:Rd w w.heap.size 1 A (abn b) (b.map B8)) (hc:abn b<=c) (l:abn b<=100000000) (g:∀z∈b,z<256) {e:Nat} {s:dL} (i j:Nat) (h1:i<=j) (a:j<=abn b) (h:oN (bW b i j)=e) (hs:mq (bW b i j)=s):Calls abo 112 #[.slice (if c=i then A else A.map (·.add (i*1))) (j-i) (c-i)] w (Nt w e s):=by
 subst h hs
 have k:=q8p (if c=i then A else A.map (·.add (i*1))) (c-i) (bW b i j) B w d f (by rw [IW a];exact zgg hr h1 a hc) (by rw [IW a];omega) (by rw [IW a];omega) (Nv g _ _)
 rwa [IW a] at k
def q9d (A:Option Addr) (c:Nat) (b:List Nat) (B:Nat) (w:World) (J:aT B w) (t:B<=w.heap.size) (hr:Rd w w.heap.size 1 A (abn b) (b.map B8)) (hc:abn b<=c) (K:abn b<=100000000) (u:∀z∈b,z<256) (x:Pl) (L:x.sn<=x.st/\x.st<=x.en/\x.en<=abn b):
    Calls abo 54 #[.agg #[vI (x.nx:Int),vI (x.sn:Int),vI (x.st:Int),vI (x.en:Int),abk A b c]] w (Ul w b x):=by
 refine (eF Tryz.func54 45) ?_
 refine (JP∘JE) λS C=>(JA #[vI 0,vI 0,vQ 0,vN,vN,vN,vN,vN,vN]) λT D=>(Jp 1∘Jq) ?_
 obtain ⟨e,k⟩:∃e,oN (bW b x.sn x.st)=e:=⟨_,rfl⟩
 obtain ⟨U,hs⟩:∃s,mq (bW b x.sn x.st)=s:=⟨_,rfl⟩
 obtain ⟨bs,y,f⟩:∃bs y,readAll (bW b x.st x.en)=(bs,y):=⟨_,_,rfl⟩
 refine (JG∘JP∘Jg 4 O1∘Jf 0∘Jg 1 O1∘Jf 0∘Jg 2 O1∘Jy (v:= .slice (if c=x.sn then A else A.map (·.add (x.sn*1))) (x.st-x.sn) (c-x.sn)) (h:=by exact aal bn (i:=x.sn) (j:=x.st) rfl rfl rfl rfl om om)∘JL (h:=by exact λd=>q9c A c b B _ (J.mem d t) (d.le t) (d.old hr) hc K u x.sn x.st L.1 om k hs)) ?_
 rintro d _ E ⟨z,rfl,hz,l,hm⟩
 refine ⟨_,rfl,_,(show Mem w E (.blk D #[vI 0,vI 0,vQ 0,vN,vN,vN,vN,vN,vN] 53:: .blk C #[vI x.nx,vI x.sn,vI x.st,vI x.en,abk A b c] 131::(jF z.st++([]))) from d.KF (a:=[.blk D #[vI 0,vI 0,vQ 0,vN,vN,vN,vN,vN,vN] 53,.blk C #[vI x.nx,vI x.sn,vI x.st,vI x.en,abk A b c] 131]) hm),?_⟩
 refine (Jp 1∘Jx∘Jx∘JA #[vI 0,vI 0,vQ 0,vN,vN,vN,vN,vN]) λV Q=>(JV zx aO (h1:=by exact Mx z)) λF=>(bM 1∘JQ∘JB∘aJ 3∘bQ∘Jj) (Jh (λm=>?_) λm=>?_)
 ·
  refine (JT∘JP∘eH #[vI 0,vI 0,vQ 0,vN,vN,vN,vN,vN,vN]∘Jp 1∘JV dP fJ) λM=>(Jp 1∘bQ∘aP) λa Z d=>?_
  exact dI rfl Z (.cellS (i:=1) Z d rfl rfl dP rfl) (.tmp Z rfl) (Um ((congrArg _ (zjr (by rw [k];omega))).trans (by rw [k])) om (d.pk []))
 have g:e=0:=by omega
 refine (JF∘JP∘Jg 0 O0∘Jf 0∘Jg 0 O2∘Jp 2∘gq∘Jj) (Jh (λn=>?_) λn=>?_)
 ·
  refine (JT∘JP∘eH #[vI 0,vI 0,vQ 0,vN,vN,vN,vN,vN,vN]∘JV dP fJ) λN=>(Jp 1∘aK∘aP) λa Z d=>?_
  exact dI rfl Z (.cellS (i:=1) Z d rfl rfl dP rfl) (.tmp Z rfl) (Um ((congrArg _ (zjs (k.trans g) (by rw [hs,hz.1];omega))).trans rfl) de (d.pk []))
 refine (aU∘JP∘dZ zjt O2∘JL (h:=by exact λd=>qn9 A c b B _ (J.mem d t) (d.le t) (d.old hr) hc K u x L f)) ?_
 rintro d _ R ⟨G,H,q,rfl,o,p,hm⟩
 have I:abn bs=abn q:=by rw [<-o,abx]
 rw [I] at hm p⊢
 refine ⟨_,rfl,_,aax (a:=[.blk Q z.cells 50,.blk D #[vI 0,vI 0,vQ 0,vN,vN,vN,vN,vN,vN] 53,.blk C #[vI x.nx,vI x.sn,vI x.st,vI x.en,abk A b c] 131]) (b:=jF z.st++[]) d hm,?_⟩
 refine (Jp 1∘Jx∘Jx∘bM 2∘bN 2∘aK∘Jj) (Jh (λr=>?_) λr=>?_)
 ·
  refine (JT∘JP∘eH #[vI 0,vI 0,vQ 0,vN,vN,vN,vN,vN,vN]∘Jp 1∘JV dP iq) λO=>(Jp 1∘bQ∘aP) λa Z d=>?_
  exact dI rfl Z (.cellS (i:=2) Z d rfl rfl dP rfl) (.tmp Z rfl) (Um ((congrArg _ (q8a (k.trans g) (by rw [hs,hz.1];omega))).trans (by rw [f])) om (d.pk []))
 refine (aU∘JP∘dZ zx O1∘Jp 1∘eH #[vI z.next,vI z.st.au,vQ z.st.aj,abk z.st.gA z.st.gs z.st.gc,abk z.st.lA z.st.cl z.st.lc,abk z.st.uA z.st.cu z.st.uc,abk z.st.tA z.st.ts z.st.tc,abk z.st.sA z.st.rs z.st.sc,abk G q H]∘JV dP iq) λP=>(Jp 1∘dY∘aP) λa Z d=>?_
 exact dI rfl Z (.cellS (i:=2) Z d rfl rfl dP rfl) (.tmp Z rfl) (zd3 (z:=z) (A:=G) (c:=H) (q:=q) u (k.trans g) (by rw [hs,hz.1];omega) (by rw [f];show y=0;omega) (by rw [hs];exact hz) l (by rw [f];exact o) p (q8q (Nv u _ _) (by rw [f];show y=0;omega)) (zeh (d.pt (fs':=(abm G q H hbL 85 5::(eX 73 q++(jF z.st++([]))))) 4 [0])))
def qwf (A:Option Addr) (c:Nat) (q:List Hb) (B:Nat) (w:World) (U:aT B w) (O:B<=w.heap.size) (hr:Rd w w.heap.size 5 A (abn q) (q.flatMap hbL)) (V:lC w q) (J:∀h∈q,h.b.Ok) (K:∀h∈q,abn h.b.evs<=1000000) (hn:abn q<=1000000):
    Calls abo 47 #[.slice A (abn q) c] w (zr w (q8 (q.map acZ)).2 (q8 (q.map acZ)).1):=by
 refine (eF Tryz.func47 41) ?_
 refine (aJ 2∘bA 1∘bA 1∘Jq∘JC (h:=by exact λd=>d.nil 5 1)∘JG∘bN 1∘Jl∘bM 1∘JB) λa Z d=>?_
 refine qg (λP W X=>∃(k:Nat) (I:Bool) (R:List Nat) (u:Option Addr) (co:Nat),(k<=abn q)/\(fA (q.map acZ)=fA ((q.drop k).map acZ))/\(I=decide (524288<abn (bP ((q.take k).map acZ))))/\(I=false->R=bP ((q.take k).map acZ))/\(abn R<=524288)/\(abn R<=co)/\P=abn q-k/\Fr W 41 [] (ahK 12 k 11 (abn q) [(10,abk A q c),(5,.bool I),(4,abk u R co),(3,vI 0),(2,vN)])/\Mem w X [abl u R co B8 5 1]) (m:=abn q-0) ⟨0,false,[],none,0,abA _,by rw [afS],rfl,by intro _;rfl,by simp,abr _,rfl,Z.sub kr,d.pk [0]⟩ ?_
 clear Z d;rintro P a w_ ⟨k,I,R,u,co,hk,s,o,L,y,t,rfl,Z,d⟩
 refine Jb Z d ((cO 1∘JQ) (Ji (λz=>?_) λz=>?_))
 ·
  have f:k<abn q:=by omega
  have C:=YN f
  have M:=congrArg adZ (YO f)
  rw [abp] at M
  have Y:=PI (q.getD k Hb.zero).b
  have htk:=q46 (q:=q) k
  refine (eO∘JP) ?_
  obtain ⟨gA,oA,rfl,_⟩:=hr.sat k
  refine (iC k 5∘Jy (v:= .agg ((q.getD k Hb.zero).b.cells (q.getD k Hb.zero).A (q.getD k Hb.zero).c)) (h:=by exact Pe rfl rfl aG rfl (λ_ h=>(h.old hr).qc3 F7 ((getD_at Hb.zero (k:=k) (by first|omega|(simp;omega))))))∘JA aiz) λw7 g7=>(JV aG aO (h1:=by exact tC _ _ _)) λQ=>(bQ∘Jr∘dZ aG O0∘JK (h:=by exact λd=>q4v (q.getD k Hb.zero).b (J _ (qf Hb.zero f)) ((q.getD k Hb.zero).A) (q.getD k Hb.zero).c B _ (U.mem d O) (d.le O) (d.old (V.at f)) (K _ (qf Hb.zero f)) rfl rfl)) λNJ c18 uW S=>(Jp 1∘Jx∘Jx∘bM 2∘bN 2∘aK∘Jj) (Jh (λD=>?_) λD=>?_)
  ·
   have x:fA (q.map acZ)=(q.getD k Hb.zero).b.err:=by rw [s,C,if_neg om]
   exact (JT∘bF 3∘bO) λd=>Gj d.below (q0f (by rw [x];omega)) (by rw [x])
  have x:fA (q.map acZ)=fA ((q.drop (k+1)).map acZ):=by rw [s,C,if_pos om]
  refine (aU∘aJ 2) (Ju (λl=>?_) λl=>?_)
  ·
   have e:524288<abn (bP ((q.take k).map acZ)):=of_decide_eq_true (o.symm.trans l)
   refine (Jv 8 [(5,.bool true)]∘bQ∘bA 2∘aK∘Jj∘aU∘JR∘dx 1∘Jp 1∘aK∘Jq) λa Z d=>?_
   exact ⟨_,om,k+1,true,R,u,co,by omega,x,(decide_eq_true om).symm,(by intro h;cases h),y,t,rfl,Z.sub kr,d.pk [2]⟩
  have e:¬524288<abn (bP ((q.take k).map acZ)):=of_decide_eq_false (o.symm.trans l)
  have p:=L l
  have T:abn R=abn (bP ((q.take k).map acZ)):=by rw [p]
  refine (Jp 1∘Jl∘Jp 1∘Jl∘Ja∘Jp 3∘aH∘bA 2∘aK∘Jj) (Ju (λg=>?_) λg=>?_)
  ·
   have E:=of_decide_eq_false ((acF _).mp g)
   intro a Z d
   replace Z:=Z.on 5 ((acF _).mp g)
   refine Jb Z d ((JT∘JR∘Jp 2∘JD ((q.getD k Hb.zero).b.out.map B8) 2 (λ_ _=>iq) bn (hr:=by exact λd=>d.rd (i:=0) rfl) (h1:=by exact sO _)) λD5 F G r=>λa Z d=>?_)
   rw [show (R.map B8)++((q.getD k Hb.zero).b.out.map B8)=(R++(q.getD k Hb.zero).b.out).map B8 from by rw [abU]] at d
   refine Jb Z d ((Jp 1∘dY∘Jq) ?_)
   have j:abn R+((q.getD k Hb.zero).b.out.length)=abn (R++(q.getD k Hb.zero).b.out):=by rw [abp]
   rw [j] at r
   refine (JC (h:=by exact λd=>d.aY (i:=2) (ys:=(R++(q.getD k Hb.zero).b.out).map B8) rfl j (rfl))∘Jk 4 (.slice F (abn (R++(q.getD k Hb.zero).b.out)) G) (h:=by exact iB j)∘JG∘JR∘dx 1∘Jp 1∘aK∘Jq) λa Z d=>?_
   exact ⟨_,om,k+1,false,(R++(q.getD k Hb.zero).b.out),F,G,by omega,x,(decide_eq_false om).symm,(by intro _;rw [p,YO f]),(by rw [abp];omega),r,rfl,Z.sub kr,d.pk [2]⟩
  have E:=of_decide_eq_true ((ad7 _).mp g)
  intro a Z d
  replace Z:=Z.on 5 ((ad7 _).mp g)
  refine Jb Z d ((aU∘JR∘dx 1∘Jp 1∘aK∘Jq) λa Z d=>?_)
  exact ⟨_,om,k+1,true,R,u,co,by omega,x,(decide_eq_true om).symm,(by intro h;cases h),y,t,rfl,Z.sub kr,d.pk [2]⟩
 have hkn:k=abn q:=by omega
 have H:fA (q.map acZ)=0:=by rw [s,ab9 om];rfl
 have N:q.take k=q:=abI om
 rw [N] at o L
 refine (JF∘JX∘JG∘JQ∘cO 1) (Ju (λn=>?_) λn=>?_)
 ·
  have e:524288<abn (bP (q.map acZ)):=of_decide_eq_true (o.symm.trans n)
  exact (JT∘bF 2∘bO) λd=>Gj d.below (YM H e) rfl
 have e:¬524288<abn (bP (q.map acZ)):=of_decide_eq_false (o.symm.trans n)
 have p:=L n
 exact (aU∘bF 3∘bO) λd=>by rw [Qi H e,<-p];exact ⟨⟨u,co,rfl,d.own (i:=0) rfl,t⟩,d.below⟩
abbrev aiC:Array Go.Value:=#[vI 0,vI 0,vQ 0,vN,vN,vN,vN,vN,vN]
def q2k (A:Option Addr) (c:Nat) (l:List Pm) (B:Nat) (w:World) (W:aT B w) (S:B<=w.heap.size) (hr:Rd w w.heap.size 9 A (abn l) (l.flatMap kF)) (X:∀p∈l,iy p/\gu w p) (hc:abn l<=c) (hn:abn l<=1000000):
    Calls abo 15 #[.slice A (abn l) c] w (Is w (.tuple #[vI (pq (l.map Pm.v)).1,vI ((pq (l.map Pm.v)).2:Int)])):=by
 refine (eF Tryz.func15 52) ?_
 refine (cO 2∘bN 1∘Jl∘Jp 1∘bQ∘Jj) (Ji (λy=>?_) λy=>?_)
 ·
  exact (JT∘bF 2∘bO) λd=>AZ (m:=5) (if_pos (by rw [abx];omega)) rfl d.below
 refine (aU∘cO 1∘bN 1∘Jl∘bM 1∘JB) λa Z d=>?_
 refine qg (λC J K=>∃(i:Nat) (last:Int),(i<=abn l)/\(aW last)/\(pq (l.map Pm.v)=lK ((l.map Pm.v).drop i) last i)/\C=abn l-i/\Fr J 52 [] (ahK 16 i 15 (abn l) [(14,abk A l c),(4,vI last),(13,.bool false),(3,vI 0),(2,vI 0),(0,abk A l c)])/\Mem w K []) (m:=abn l-0) ⟨0,0,abA _,(show aW (0:Int) from by unfold aW;decide),(if_neg (by rw [abx];omega)),rfl,Z.sub kr,d.pk []⟩ ?_
 clear Z d;rintro C a Y ⟨i,last,hi,L,g,rfl,Z,d⟩
 refine Jb Z d ((cO 1∘JQ) (Ji (λD=>?_) λD=>?_))
 ·
  have j:i<abn l:=by omega
  obtain ⟨x,M⟩:∃x,(l.getD i Pm.zero)=x:=⟨_,rfl⟩
  obtain ⟨e,o⟩:=X x (by rw [<-M];exact qf Pm.zero j)
  have n:=zju (last:=last) j
  rw [M] at n
  have N:=e.nx
  intro a Z d
  unfold aW at N
  have hxl:=e.len
  refine Jb Z d ((eO∘aJ 1) ?_)
  obtain ⟨gA,T,rfl,_⟩:=hr.sat i
  refine (iC i 9∘pG Pm.cells TB hr dP i Pm.zero (hk:=j)∘Jo (.agg x.cells) (by rw [M])∘JA aiC) λw6 U=>(Jp 1∘JV dP aO (h1:=by exact IX x)) λV=>(Jj∘JQ∘JP∘Jf 0∘Jy (v:= .agg x.z.cells) (h:=by exact Pe rfl rfl zx rfl (λ_ h=>h.sub (i:=0) rfl 0 rfl))∘JI (h:=by exact λd=>Ub x.z e.ok e.few e.cap _ (o.st.old d))) λLG E=>(Jp 1∘dY∘bA 2∘aK∘Jj) (Jh (λF=>?_) λF=>?_)
  ·
   exact (JT∘bF 4∘bO) λd=>AZ (g.trans (n.trans (if_pos om))) rfl d.below
  refine (aU∘JQ∘JP∘Jg 8 O0∘Jl∘bM 1∘JB) λa Z d=>?_
  refine qg (λC J K=>∃(k:Nat),(k<=abn x.q)/\(fA (x.q.map acZ)=fA ((x.q.drop k).map acZ))/\C=abn x.q-k/\Fr J 52 [] (ahK 31 k 30 (abn x.q) ((29,abk x.A x.q x.c)::(25,.bool false)::ahK 7 (dG x.z) 5 i ((6,vP U 0)::(17,.bool true)::ahK 16 i 15 (abn l) [(14,abk (some ⟨gA,T,none⟩) l c),(4,vI last),(13,.bool false),(3,vI 0),(2,vI 0),(0,abk (some ⟨gA,T,none⟩) l c)])))/\Mem w K [.blk U x.cells 53]) (m:=abn x.q-0) ⟨0,abA _,rfl,rfl,Z.sub kr,d.pk [0]⟩ ?_
  clear Z d;rintro C a Y ⟨k,hk,r,rfl,Z,d⟩
  refine Jb Z d ((cO 1∘JQ) (Ji (λG=>?_) λG=>?_))
  ·
   have f:k<abn x.q:=by omega
   have t:=YN f
   refine (eO∘JP) ?_
   obtain ⟨O,P,u,_⟩:=Rd.sat o.bl k
   have s:=o.bl;rw [u] at s
   refine (Jk 29 (.slice (some ⟨O,P,none⟩) (abn x.q) x.c) (h:=by rw [u];try rfl)∘iC k 5∘Jy (v:= .agg ((x.q.getD k Hb.zero).b.cells (x.q.getD k Hb.zero).A (x.q.getD k Hb.zero).c)) (h:=by exact Pe rfl rfl aG rfl (λ_ h=>(h.old s).qc3 F7 ((getD_at Hb.zero f))))∘JA aiz) λw9 g9=>(JV aG aO (h1:=by exact tC _ _ _)) λQ=>(bQ∘Jr∘dZ aG O0∘JL (h:=by exact λd=>q0a (x.q.getD k Hb.zero).b (e.Nw _ (qf Hb.zero f)) ((x.q.getD k Hb.zero).A) (x.q.getD k Hb.zero).c B _ (W.mem d S) (d.le S) (d.old (o.ev.at f)) (e.TD _ (qf Hb.zero f)))) ?_
   rintro d _ w36 ⟨rfl,E⟩
   refine ⟨_,rfl,_,d.call E,?_⟩
   refine (Jp 1∘bQ∘bA 2∘aK∘Jj) (Jh (λH=>?_) λH=>?_)
   ·
    exact (JT∘bF 4∘bO) λd=>AZ (g.trans (n.trans ((if_neg om).trans (if_pos (by rw [r,t,if_neg om];omega))))) (by rw [r,t,if_neg om]) d.below
   refine (aU∘JR∘dx 1∘Jp 1∘aK∘Jq) λa Z d=>?_
   replace Z:=Z.sp 29 (abk x.A x.q x.c) rfl (by rw [u])
   exact ⟨_,om,k+1,by omega,(r.trans (by rw [t,if_pos om])),rfl,Z.sub kr,d.pk [1]⟩
  have he0:fA (x.q.map acZ)=0:=by rw [r,ab9 om];rfl
  refine (JF∘JX∘JG∘JQ∘JP∘Jf 0∘Jg 0 O0∘Jp 2∘dY∘Jj) (Ji (λI=>?_) λI=>?_)
  ·
   exact (JT∘bF 3∘bO) λd=>AZ (m:=411) (g.trans (n.trans ((if_neg om).trans ((if_neg om).trans (if_pos om))))) rfl d.below
  refine (aU∘JR∘Jf 0∘Jg 0 O0∘Jp 1∘bQ∘Jj∘JR∘dx 1∘Jp 1∘aK∘Jq) λa Z d=>?_
  exact ⟨_,om,i+1,x.z.next,by omega,e.nx,(g.trans (by rw [n,if_neg om,if_neg om,if_neg om])),rfl,Z.sub kr,d.pk []⟩
 have R:i=abn l:=by omega
 exact (JF∘JX∘JG∘bF 2∘bO) λd=>AZ (m:=0) (g.trans (by rw [R];exact q8d)) rfl d.below
def UU (A:Option Addr) (c:Nat) (l:List Pm) (B:Nat) (w:World) (a:aT B w) (b:B<=w.heap.size) (hr:Rd w w.heap.size 9 A (abn l) (l.flatMap kF)) (d:∀p∈l,iy p/\gu w p) (hc:abn l<=c) (e:abn l<=1000000) {ci:Int} {ce:Nat} (h:pq (l.map Pm.v)=(ci,ce)):Calls abo 15 #[.slice A (abn l) c] w (Is w (.tuple #[vI ci,vI ce])):=by
 have k:=q2k A c l B w a b hr d hc e
 rwa [h] at k
def zek (A:Option Addr) (c:Nat) (q:List Hb) (B:Nat) (w:World) (e:aT B w) (f:B<=w.heap.size) (hr:Rd w w.heap.size 5 A (abn q) (q.flatMap hbL)) (g:lC w q) (a:∀h∈q,h.b.Ok) (d:∀h∈q,abn h.b.evs<=1000000) (i:abn q<=1000000) {l:List Nat} {m:Nat} (h:q8 (q.map acZ)=(l,m)):Calls abo 47 #[.slice A (abn q) c] w (zr w m l):=by
 have k:=qwf A c q B w e f hr g a d i
 rwa [h] at k
def zks (l:List Nat):∀b∈([113,97,1]++l.flatMap ak),b<256:=λb a=>by
 rcases ab6.1 a with h|h
 ·simp only [abS,aci,or_false] at h
  omega
 ·obtain ⟨x,_,c⟩:=acw.1 h
  exact yt x b c
def kC (l:List Pm):List Nat:=[113,97,1]++(dh l (abn l)).flatMap ak
def zkt (l:List Pm):∀b∈kC l,b<256:=zks _
def zel {l:List Pm} (a:abn l<=100000):abn (kC l)<=16777216:=by
 unfold kC
 rw [abp]
 have b:=zq (dh l (abn l))
 have c:=IY (l:=l) (abn l) (abr _)
 have d:abn ([113,97,1]:List Nat)=3:=rfl
 omega
def UW {l:List Pm}:bI (kC l)=headA (l.map Pm.v):=by unfold headA kC;rw [q8e]
def q9g {p:List Nat×Nat} {h R d:List Nat} (b:p=(h++d,0)) (e:R=h) (a:W.ownsRow w.heap.size 5 1 (.slice A (abn R+abn d) c) (abn R+abn d) (R.map B8++d.map B8)) (hc:abn R+abn d<=c) (hb:Below w.heap.size w W):zr w p.2 p.1 (.returned (.tuple #[.slice A (abn R+abn d) c,vI 0])) W:=by
 subst b e
 rw [<-abp] at a hc⊢
 rw [<-abU] at a
 exact ⟨⟨A,c,rfl,a,hc⟩,hb⟩
def zem {l:List Pm} (a:abn l<=100000):abn (bI (kC l))<=10000000:=by
 unfold kC
 rw [uQ,abp]
 have b:=zq (dh l (abn l))
 have c:=IY (l:=l) (abn l) (abr _)
 have d:abn ([113,97,1]:List Nat)=3:=rfl
 omega
def UY (A:Option Addr) (c:Nat) (l:List Pm) (B:Nat) (w:World) (hL:aT B w) (J:B<=w.heap.size) (hr:Rd w w.heap.size 9 A (abn l) (l.flatMap kF)) (hP:∀p∈l,iy p/\gu w p) (hc:abn l<=c) (hn:abn l<=100000):
    Calls abo 16 #[.slice A (abn l) c] w (zr w (nR (l.map Pm.v)).2 (nR (l.map Pm.v)).1):=by
 refine (eF Tryz.func16 104) ?_
 refine (aJ 2∘Jq) ?_
 obtain ⟨ci,ce,t⟩:∃ci ce,pq (l.map Pm.v)=(ci,ce):=⟨_,_,rfl⟩
 refine (JG∘bN 1∘JI (h:=by exact λf=>UU A c l B _ (hL.mem f J) (f.le J) (f.old hr) (λp hp=>⟨(hP p hp).1,(hP p hp).2.old f⟩) hc om t)) λRL hbw=>(Jp 1∘Jx∘Jx∘Jp 2∘aH∘bA 2∘aK∘Jj) (Jh (λW=>?_) λW=>?_)
 ·
  exact (JT∘bF 3∘bO) λf=>Gj f.below (q15 t om) rfl
 have u:ce=0:=by omega
 refine (aU∘aJ 1∘Jl∘Jw .u64∘JU kD #[vQ (abn l)]) λFH L=>(Jp 1∘gq∘Jq) λa Z f=>?_
 replace f:=(f.fu (i:=0) (n:=1) (size:=1) rfl rfl de).dw (i:=0) (ys:=(dh l 0).map bD) rfl (rfl)
 replace f:Mem w _ [.row (vS L (abn (dh l 0)) 1) (abn (dh l 0)) ((dh l 0).map bD) 41 1]:=f
 replace Z:=Z.sp 6 (.slice (some ⟨L,0,none⟩) (abn (dh l 0)) 1) rfl rfl
 refine Jb Z f ((JG∘aJ 1∘Jq∘JC (h:=by exact λf=>f.nil 5 1)∘JG∘cO 1∘bN 1∘Jl∘bM 1∘JB) λa Z f=>?_)
 refine qg (λmS aS wS=>∃(i:Nat) (An:Option Addr) (X:Nat) (d:List Nat) (V:Option Addr) (M:Nat) (N:Bool),(i<=abn l)/\(stA (l.map Pm.v) i=(d,N))/\(abn (dh l i)<=X)/\(abn d<=M)/\(abn d<=16777216)/\mS=abn l-i/\Fr aS 104 [] (ahK 31 i 30 (abn l) [(29,abk A l c),(8,.bool N),(7,abk V d M),(6,abk An (dh l i) X),(23,.bool false),(5,vI ce),(3,vI 0),(2,vN),(0,abk A l c)])/\Mem w wS [abl V d M B8 5 1,abl An (dh l i) X bD 41 1]) (m:=abn l-0) ⟨0,some ⟨L,0,none⟩,1,[],none,0,false,abA _,rfl,abr _,abr _,abA _,rfl,Z.sub kr,f.pk [0,1]⟩ ?_
 clear Z f;rintro mS a w_ ⟨i,An,X,d,V,M,N,hi,y,hcn,O,P,rfl,Z,f⟩
 refine Jb Z f ((cO 1∘JQ) (Ji (λY=>?_) λY=>?_))
 ·
  have j:i<abn l:=by omega
  obtain ⟨x,Q⟩:∃x,(l.getD i Pm.zero)=x:=⟨_,rfl⟩
  obtain ⟨s,R⟩:=hP x (by rw [<-Q];exact qf Pm.zero j)
  obtain ⟨C,we,S⟩:∃C we,q8 (x.q.map acZ)=(C,we):=⟨_,_,rfl⟩
  have hwl:abn C<=524288:=by have h:=Mg (x.q.map acZ);rwa [S] at h
  have hol:=qys x.z
  have hns:=q14 j Q S
  have hnl:=IY (l:=l) i hi
  refine (eO∘JP) ?_
  obtain ⟨gA,oA,rfl,_⟩:=hr.sat i
  refine (iC i 9∘pG Pm.cells TB hr dP i Pm.zero (hk:=j)∘Jo (.agg x.cells) (by rw [Q])∘JA #[vI 0,vI 0,vQ 0,vN,vN,vN,vN,vN,vN]) λqY g10=>(JV dP aO (h1:=by exact IX x)) λFC=>(bQ∘Jr∘Jf 0∘Jy (v:= .agg x.z.cells) (h:=by exact Pe rfl rfl zx rfl (λ_ h=>h.sub (i:=0) rfl 0 rfl))∘JK (h:=by exact λf=>q2a x.z s.ok s.few s.cap B _ (hL.mem f J) (f.le J) (R.st.old f))) λA38 c38 Xl hc38=>(Jp 1∘Jx∘Jx∘Jp 2∘ny∘Jr∘Jg 8 O1∘JK (h:=by exact λf=>zek x.A x.c x.q B _ (hL.mem f J) (f.le J) (f.old R.bl) (R.ev.old f) s.Nw s.TD s.len S)) λJ9 Ka PE Dn=>(Jp 1∘Jx∘Jx∘Jp 2∘bA 1∘Jf 0∘Jg 0 O2∘Jv 1 [(51,vQ (IntKind.u64.wrap x.z.next))]∘Jo (vQ (aL x.z.next)) (by exact QC _)∘Jp 1∘Jl∘Jw .u64∘Jp 1∘Jl∘Jw .u64∘JU kD #[vQ (aL x.z.next),vQ (abn (cZ x.z):Nat),vQ (abn C)]) λGd g58=>(JD ([aL x.z.next,abn (cZ x.z),abn C].map bD) 5 (λ_ _=>sV) kD (hr:=by exact λf=>f.bB (i:=0) (n:=3) (size:=1) rfl rfl) (h1:=by exact vM _)) λSy D E UZ=>(Jp 1∘aH∘Jq) ?_
  have o:(abn (dh l i))+3=abn (dh l (i+1)):=by rw [hns,abp];rfl
  rw [o] at UZ
  refine (JC (h:=by exact λf=>f.aY (i:=5) (ys:=(dh l (i+1)).map bD) rfl o (by rw [hns,abU]))∘Jk 6 (.slice D (abn (dh l (i+1))) E) (h:=by exact iB o)∘JG∘aJ 2) (Ju (λF=>?_) λF=>?_)
  ·
   have G:N=true:=by simpa using F
   refine (Jv 15 [(8,.bool true)]∘bQ∘Jj∘JQ∘cO 1∘JT∘JX∘JG∘JR∘dx 1∘Jp 1∘aK∘Jq) λa Z f=>?_
   exact ⟨_,om,i+1,D,E,d,V,M,true,by omega,TF j Q y S (by first|exact .inl G|exact .inr (.inl om)|exact .inr (.inr om)),by omega,O,P,rfl,Z.sub kr,f.pk [4,5]⟩
  have U0:¬N=true:=by simpa using F
  refine (Jp 4) (Jh (λU1=>?_) λU1=>?_)
  ·
   refine (Jv 11 [(8,.bool true)]∘aH∘Jj∘JQ∘cO 1∘JT∘JX∘JG∘JR∘dx 1∘Jp 1∘aK∘Jq) λa Z f=>?_
   exact ⟨_,om,i+1,D,E,d,V,M,true,by omega,TF j Q y S (by first|exact .inl G|exact .inr (.inl om)|exact .inr (.inr om)),by omega,O,P,rfl,Z.sub kr,f.pk [4,5]⟩
  refine (Jp 1∘Jl∘Jp 1∘Jl∘Ja∘Jp 1∘Jl∘Ja∘Jp 3∘aH∘Jj∘JQ∘cO 1) (Ju (λk=>?_) λk=>?_)
  ·
   have U2:=of_decide_eq_true k
   intro a Z f
   replace Z:=Z.on 8 k
   refine Jb Z f ((JT∘JX∘JG∘JR∘dx 1∘Jp 1∘aK∘Jq) λa Z f=>?_)
   exact ⟨_,om,i+1,D,E,d,V,M,true,by omega,TF j Q y S (by first|exact .inl G|exact .inr (.inl om)|exact .inr (.inr om)),by omega,O,P,rfl,Z.sub kr,f.pk [4,5]⟩
  have U2:=of_decide_eq_false k
  intro a Z f
  replace Z:=Z.on 8 k
  refine Jb Z f ((aU∘JR∘Jp 2∘JD ((cZ x.z).map B8) 4 (λ_ _=>rQ) bn (hr:=by exact λf=>f.rd (i:=2) rfl) (h1:=by exact sO _)) λZE Ik Il Sg=>(Jp 1∘JD (C.map B8) 4 (λ_ _=>rQ) bn (hr:=by exact λf=>f.rd (i:=1) rfl) (h1:=by exact sO _)) λw81 A81 c81 K=>(Jp 1∘kW∘Jq) ?_)
  have r:(abn d+(abn (cZ x.z)))+abn C=abn (d++cZ x.z++C):=by rw [abp,abp]
  rw [r] at K
  refine (JC (h:=by exact λf=>f.aY (i:=4) (ys:=(d++cZ x.z++C).map B8) rfl r (by rw [abU,abU]))∘Jk 7 (.slice A81 (abn (d++cZ x.z++C)) c81) (h:=by exact iB r)∘JG∘JR∘dx 1∘Jp 1∘aK∘Jq) λa Z f=>?_
  exact ⟨_,om,i+1,D,E,(d++cZ x.z++C),A81,c81,false,by omega,zm2 j Q y S (by rintro (h|h|h)<;>first|(exact absurd h U0)|omega),by omega,K,by rw [abp,abp];omega,rfl,Z.sub kr,f.pk [4,5]⟩
 obtain rfl:i=abn l:=by omega
 have atc:=IY (l:=l) (abn l) (abr _)
 have atd:=zq (dh l (abn l))
 have ate:=q8f (l:=l) (i:=abn l)
 refine (JF∘JX∘JG∘JP∘JU bn #[vB 113,vB 97,vB 1]) λw84 g84=>λa Z f=>?_
 refine fo Z 1 rfl rfl ?_
 refine Zt Z f 0 (e:=5) rfl rfl rfl kr kr rfl de ?_
 clear Z f;intro a w85 Z f
 refine Jb Z f ((Jp 1∘JK (h:=by exact λf=>Lv An (abn (dh l (abn l))) X (dh l (abn l)) _ (f.rd (i:=2) rfl) (zdu om _) (by have:=IY (l:=l) (abn l) (abr _);omega))) λA87 c87 M7 atf=>λa Z f=>?_)
 refine fo Z 4 rfl rfl ?_
 refine Wn Z f (xs:=([113,97,1]:List Nat).map B8) (news:=((dh l (abn l)).flatMap ak).map B8) rfl bn rfl rfl (f.vO (i:=1) (size:=1) (n:=3) rfl rfl) (f.rd (i:=0) rfl) om om (λh=>by cases h) om om rfl de ?_
 clear Z f;intro a w88 TM c88 Z f U3
 have g:3+abn ((dh l (abn l)).flatMap ak)=abn (kC l):=by unfold kC;rw [abp];rfl
 rw [g] at U3
 replace f:=f.aY (i:=0) (ys:=(kC l).map B8) rfl g (by unfold kC;rw [abU])
 replace Z:=Z.sp 88 (vS TM (abn (kC l)) c88) rfl (iB g)
 refine Jb Z f ((JK (h:=by exact λf=>Px (some ⟨TM,0,none⟩) (abn (kC l)) c88 (kC l) B _ (hL.mem f J) (f.le J) (f.rd (i:=0) rfl) rfl (zel hn) (zkt l))) λNz NA RH Dk=>(Jp 1∘Jx∘Jx∘Jp 2∘ny∘Jq) ?_)
 have H:stA (l.map Pm.v) (abn (l.map Pm.v))=(d,N):=by rw [abx];exact y
 have hhd:abn (bI (kC l))<=10000000:=zem hn
 refine (JG∘bN 2) (Ju (λI=>?_) λI=>?_)
 ·
  exact (Jp 7∘aH∘Jj∘JT∘bF 2∘bO) λf=>Gj f.below (ql2 t u H (.inl (by simpa using I))) rfl
 have U4:¬N=true:=by simpa using I
 refine (Jp 1∘Jl∘Jp 1∘Jl∘Ja∘Jp 2∘aH∘Jj) (Ji (λT=>?_) λT=>?_)
 ·
  exact (JT∘bF 2∘bO) λf=>Gj f.below (ql2 t u H (.inr (by rw [<-UW];omega))) rfl
 exact (aU∘aJ 2∘JD (d.map B8) 0 (λ_ _=>aO) bn (hr:=by exact λf=>f.rd (i:=4) rfl) (h1:=by exact sO _)) λTP atg ath U=>(bM 2∘JZ∘bO) λf=>q9g (q8g t u H (by rw [<-UW];rintro (h|h)<;>first|(exact absurd h U4)|omega)) UW (f.own (i:=0) rfl) U f.below
end Go.Proofs.YtekiimhdnigmcaaGreatDoor
