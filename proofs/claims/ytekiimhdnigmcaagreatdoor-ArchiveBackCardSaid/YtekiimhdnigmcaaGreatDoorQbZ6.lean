/- Parts. -/
import Derived.Test.YtekiimhdnigmcaaGreatDoorQbZ5
set_option linter.all false
set_option maxRecDepth 100000
set_option maxHeartbeats 4000000
namespace Go.Proofs.YtekiimhdnigmcaaGreatDoor
open Go.RowKit
open Go renaming World→aiM,Value→aiN,TypeId→aiP,Ending→aiQ
open List renaming length→abo
open _root_.Go.Proofs.Tryz renaming prog→abp,func278→ahj
open _root_.List renaming length_append→abq,getElem?_eq_getElem→abr,getD_eq_getElem?_getD→abt,append_assoc→abv,length_map→abw,length_take→abx,getElem?_eq_some_iff→abB,length_drop→abE,take_of_length_le→abL,append_nil→abM,flatMap_cons→abR,mem_of_mem_drop→abU,length_cons→abV,mem_cons→abY,map_append→abZ,flatMap_append→ab1,mem_cons_of_mem→ab5,mem_map→ab7,take_append_drop→ab8,mem_append→acg,mem_cons_self→acj,range→aco,getElem_of_mem→acp,not_mem_nil→acv,perm_append_comm→acD,mem_of_mem_take→acG,getElem?_map→acM,drop_drop→acN,mem_append_right→acP,mem_flatMap→acV,length→acW,nil_append→acZ,mem_map_of_mem→ac5,drop_eq_nil_of_le→ac6,append_inj→adb,getElem?_set_self→adf,take_length→adv,getElem?_drop→adL,take_left→adO,getElem?_append_right→adP,mem_append_left→adQ,getElem?_append_left→adT,drop_left'→ad4,cons_append→aei,flatMap_nil→aeF,sublist_append_right→aeG,mem_range→aeS,map_map→aeZ,map_congr_left→ae0,map→aff,drop_left→afE,getElem?_take_of_lt→afT,flatMap_map→agO,range_succ→agT
open Nat renaming le_refl→abu,zero_le→abz,lt_or_ge→ab6,eq_zero_or_pos→ach,le_of_ble_eq_true→acE,add_sub_cancel_left→acJ,add_zero→acK,le_trans→ada,add_sub_cancel→adr,le_add_right→adC,lt_of_succ_lt_succ→adU,mod_lt→ad1,sub_self→aeg,mul_succ→ae9,add_assoc→afe,succ_lt_succ→afC,mul_le_mul_left→agu,succ_ne_zero→agW,not_lt_zero→ag5,succ_pos→aht
open Bool renaming and_eq_true→abG,true_and→acn,or_eq_true→adD,and_assoc→aee
open Value renaming int→abT,oneCell'→abX,pointer→ag6
open Hb renaming b→ac2
open Classical renaming not_not→adu
open List.Perm renaming append_left→adS,append_right→aen
open Go.IntKind renaming wrap_i64→aeM
open Decidable renaming of_not_not→afR
open Eq renaming trans→agv
open List.Sublist renaming append_left→ahe,cons₂→ahx
variable {c hi er m e n B x i k j g:Nat} {l q xs b:List Nat} {w W w':aiM} {A E:aiW} {fs:List aiX} {s:dF} {r:aiQ} {z:aiN}
structure Pr where
 nx:Nat
 cp:Nat
 cr:Nat
 gp:Nat
 gs:List Nat
 cl:List Nat
 cu:List Nat
 tk:Nat
 ts:List Nat
 sp:List Nat
 e1:Nat
 e2:Nat
 e3:Nat
 e4:Nat
 e5:Nat
 e6:Nat
 e7:Nat
section
variable {α:Type} {b:List Nat} {a x n u:Nat} {xs:List Nat}
def nY (b:List Nat) (a:Nat) (k:Nat->Nat->Except Nat α):Except Nat α:=if (aD (b.drop a)).2.2≠0 then .error 344 else k (aD (b.drop a)).1 (a+(aD (b.drop a)).2.1)
def mE (b:List Nat) (n a:Nat) (k:List Nat->Nat->Except Nat α):Except Nat α:=if (aV n (b.drop a)).2.2≠0 then .error 344 else k (aV n (b.drop a)).1 (a+(aV n (b.drop a)).2.1)
def cnt1 (b:List Nat) (a c hi:Nat) (k:Nat->Nat->Except Nat α):Except Nat α:=nY b a λx e=>if x<c\/hi<x then .error 345 else k x e
theorem TW {k:Nat->Nat->Except Nat α} (h:aD (b.drop a)=(x,n,0)):nY b a k=k x (a+n):=by unfold nY;rw [h];rfl
def N7 {k:Nat->Nat->Except Nat α} (h:(aD (b.drop a)).2.2≠0):nY b a k= .error 344:=if_pos h
def zkw {k:List Nat->Nat->Except Nat α} (h:aV n (b.drop a)=(xs,u,0)):mE b n a k=k xs (a+u):=by unfold mE;rw [h];rfl
def Fh {k:List Nat->Nat->Except Nat α} (h:(aV n (b.drop a)).2.2≠0):mE b n a k= .error 344:=if_pos h
def zkx {k:Nat->Nat->Except Nat α} (h:aD (b.drop a)=(x,n,0)) (d:¬(x<c\/hi<x)):cnt1 b a c hi k=k x (a+n):=by unfold cnt1;rw [TW h,if_neg d]
def zeo {k:Nat->Nat->Except Nat α} (h:aD (b.drop a)=(x,n,0)) (d:x<c\/hi<x):cnt1 b a c hi k= .error 345:=by unfold cnt1;rw [TW h,if_pos d]
def N8 {k:Nat->Nat->Except Nat α} {c hi:Nat} (h:(aD (b.drop a)).2.2≠0):cnt1 b a c hi k= .error 344:=N7 h
theorem zep (b:List Nat) (a:Nat):(aD (b.drop a)).2.2≠0\/∃x n,aD (b.drop a)=(x,n,0):=by grind
theorem zeq (b:List Nat) (k a:Nat):(aV k (b.drop a)).2.2≠0\/∃xs u,aV k (b.drop a)=(xs,u,0):=by grind
theorem qzb (c:a<=abo b) (h:aD (b.drop a)=(x,n,0)):0<n/\a+n<=abo b:=by grind [xJ,WR]
def zer (d:a<=abo b) (h:aV n (b.drop a)=(xs,u,0)):abo xs=n/\n<=u/\a+u<=abo b:=by
 have c:=zen _ _ _ _ h
 rw [abE] at c
 omega
def q8r (h:aD l=(x,n,er)) (c:(er:Int)≠0):(aD l).2.2≠0:=by rw [h];show er≠0;omega
theorem q8s (c:∀z∈b,z<256) (h:aD (b.drop a)=(x,n,0)):x<18446744073709551616:=by grind [FM]
end
def bK (b:List Nat) (p x e:Nat):Prop:=aD (b.drop p)=(x,e-p,0)/\p<=e
def zr (b:List Nat) (n p:Nat) (xs:List Nat) (e:Nat):Prop:=aV n (b.drop p)=(xs,e-p,0)/\p<=e
section
variable {α:Type} {b:List Nat} {p x e n:Nat} {xs:List Nat}
def bK.eq (h:bK b p x e):p+(e-p)=e:=by have:=h.2;omega
def zr.eq (h:zr b n p xs e):p+(e-p)=e:=by have:=h.2;omega
def bK.of (h:aD (b.drop p)=(x,m,0)):bK b p x (p+m):=⟨by rw [h,acJ],by omega⟩
def zr.of (h:aV n (b.drop p)=(xs,m,0)):zr b n p xs (p+m):=⟨by rw [h,acJ],by omega⟩
theorem Fj (b:List Nat) (p:Nat):(aD (b.drop p)).2.2≠0\/∃x e,bK b p x e:=by
 rcases zep b p with h|⟨x,n,h⟩
 ·exact .inl h
 ·exact .inr ⟨x,_,.of h⟩
def Fp (b:List Nat) (n p:Nat):(aV n (b.drop p)).2.2≠0\/∃xs e,zr b n p xs e:=by
 rcases zeq b n p with h|⟨xs,u,h⟩
 ·exact .inl h
 ·exact .inr ⟨xs,_,.of h⟩
def bK.go1 {k:Nat->Nat->Except Nat α} (h:bK b p x e):nY b p k=k x e:=by rw [TW h.1,h.eq]
def zr.goK {k:List Nat->Nat->Except Nat α} (h:zr b n p xs e):mE b n p k=k xs e:=by rw [zkw h.1,h.eq]
def bK.goC {k:Nat->Nat->Except Nat α} (h:bK b p x e) (d:¬(x<c\/hi<x)):cnt1 b p c hi k=k x e:=by rw [zkx h.1 d,h.eq]
def bK.bad {k:Nat->Nat->Except Nat α} (h:bK b p x e) (d:x<c\/hi<x):cnt1 b p c hi k= .error 345:=zeo h.1 d
def bK.in (h:bK b p x e) (c:p<=abo b):p<e/\e<=abo b:=by have:=qzb c h.1;have:=h.2;omega
def zr.in (h:zr b n p xs e) (c:p<=abo b):abo xs=n/\p+n<=e/\e<=abo b:=by have:=zer c h.1;have:=h.2;omega
theorem bK.lt (h:bK b p x e) (c:∀z∈b,z<256):x<18446744073709551616:=q8s c h.1
def bK.one {e2:Nat} (h:bK b p x e) (f:bK b p c e2):c=x/\e2=e:=by
 have d:=h.1.symm.trans f.1
 injection d with d g
 injection g with g
 have:=h.2
 have:=f.2
 exact ⟨d.symm,by omega⟩
def zr.one {R:List Nat} {e2:Nat} (h:zr b n p xs e) (d:zr b n p R e2):R=xs/\e2=e:=by
 have c:=h.1.symm.trans d.1
 injection c with c f
 injection f with f
 have:=h.2
 have:=d.2
 exact ⟨c.symm,by omega⟩
theorem zr.nil (b:List Nat) (p:Nat):zr b 0 p [] p:=⟨by rw [aeg];rfl,abu _⟩
def zr.snoc {y f:Nat} (h:zr b n p xs e) (c:bK b e y f):zr b (n+1) p (xs++[y]) f:=by
 have d:=h.2
 have g:=c.2
 have:=qox n _ xs (e-p) y (f-e) h.1 (by rw [acN,h.eq];exact c.1)
 exact ⟨by rw [this];congr 2;omega,by omega⟩
theorem zr.stuck (h:zr b n p xs e) (d:n<m) (c:(aD (b.drop e)).2.2≠0):(aV m (b.drop p)).2.2≠0:=by
 have:=qwo n (m- (n+1)) _ xs (e-p) h.1 (by rw [acN,h.eq];exact c)
 grind
end
def qR {x p e:Nat} (h:abo q<=p) (c:p<e):abo (q++[x])<=e:=by rw [abq];show abo q+1<=e;omega
def qU {p:Nat} (h:abo q<=p) (c:abo xs=n) (d:p+n<=e):abo (q++xs)<=e:=by rw [abq];omega
theorem N9 (b:List Nat) (p c hi:Nat):(aD (b.drop p)).2.2≠0\/(∃x e,bK b p x e/\(x<c\/hi<x))\/∃x e,bK b p x e/\¬(x<c\/hi<x):=by grind [Fj]
def qtv (h:m*n<=9223372036854775807):abT .i64 (Go.IntKind.i64.wrap ((m:Int)*(n:Int)))= .int .i64 ((m*n:Nat):Int):=by
 rw [<-Int.natCast_mul]
 exact zc rfl h
def lK (l:List jV):Nat:=(l.getD (abo l-1) jV.zero).to
def zes {l:List jV} (h:abo l=0):lK l=0:=by rw [List.length_eq_zero_iff] at h;subst h;rfl
def wO (b:List Nat) (nx:Nat) (e1:Nat) (cp:Nat) (c:Nat) (cr:Nat) (d:Nat) (gp:Nat) (e2:Nat) (gs:List Nat) (e3:Nat) (cl:List Nat) (e4:Nat) (cu:List Nat) (e5:Nat) (tk:Nat) (f:Nat) (ts:List Nat) (e6:Nat) (sp:List Nat) (e7:Nat):Except Nat Pr:=if e7≠abo b then .error 346 else .ok ⟨nx,cp,cr,gp,gs,cl,cu,tk,ts,sp,e1,e2,e3,e4,e5,e6,e7⟩
def TY (b:List Nat) (nx:Nat) (e1:Nat) (cp:Nat) (c:Nat) (cr:Nat) (d:Nat) (gp:Nat) (e2:Nat) (gs:List Nat) (e3:Nat) (cl:List Nat) (e4:Nat) (cu:List Nat) (e5:Nat) (tk:Nat) (f:Nat) (ts:List Nat) (e6:Nat):Except Nat Pr:=mE b (cp+3*cp*(gp-1)) e6 (wO b nx e1 cp c cr d gp e2 gs e3 cl e4 cu e5 tk f ts e6)
def T9 (b:List Nat) (nx:Nat) (e1:Nat) (cp:Nat) (d:Nat) (cr:Nat) (f:Nat) (gp:Nat) (e2:Nat) (gs:List Nat) (e3:Nat) (cl:List Nat) (e4:Nat) (cu:List Nat) (e5:Nat) (tk:Nat) (c:Nat):Except Nat Pr:=mE b (8*tk) c (TY b nx e1 cp d cr f gp e2 gs e3 cl e4 cu e5 tk c)
def Ua (b:List Nat) (nx:Nat) (e1:Nat) (cp:Nat) (c:Nat) (cr:Nat) (d:Nat) (gp:Nat) (e2:Nat) (gs:List Nat) (e3:Nat) (cl:List Nat) (e4:Nat) (cu:List Nat) (e5:Nat):Except Nat Pr:=cnt1 b e5 0 65535 (T9 b nx e1 cp c cr d gp e2 gs e3 cl e4 cu e5)
def Ub (b:List Nat) (nx:Nat) (e1:Nat) (cp:Nat) (c:Nat) (cr:Nat) (d:Nat) (gp:Nat) (e2:Nat) (gs:List Nat) (e3:Nat) (cl:List Nat) (e4:Nat):Except Nat Pr:=mE b cp e4 (Ua b nx e1 cp c cr d gp e2 gs e3 cl e4)
def Uc (b:List Nat) (nx:Nat) (e1:Nat) (cp:Nat) (c:Nat) (cr:Nat) (d:Nat) (gp:Nat) (e2:Nat) (gs:List Nat) (e3:Nat):Except Nat Pr:=mE b cp e3 (Ub b nx e1 cp c cr d gp e2 gs e3)
def Ud (b:List Nat) (nx:Nat) (e1:Nat) (cp:Nat) (c:Nat) (cr:Nat) (d:Nat) (gp:Nat) (e2:Nat):Except Nat Pr:=mE b (2*(gp-1)) e2 (Uc b nx e1 cp c cr d gp e2)
def Ue (b:List Nat) (nx:Nat) (e1:Nat) (cp:Nat) (d:Nat) (cr:Nat) (c:Nat):Except Nat Pr:=cnt1 b c 1 256 (Ud b nx e1 cp d cr c)
def Uf (b:List Nat) (nx:Nat) (e1:Nat) (cp:Nat) (c:Nat):Except Nat Pr:=nY b c (Ue b nx e1 cp c)
def Ug (b:List Nat) (nx:Nat) (e1:Nat):Except Nat Pr:=cnt1 b e1 1 64 (Uf b nx e1)
def sU (b:List Nat):Except Nat Pr:=nY b 3 (Ug b)
def Pr.nums (p:Pr):List Nat:=[p.nx,p.cp,p.cr,p.gp]++p.gs++p.cl++p.cu++[p.tk]++p.ts++p.sp
def Pr.secs (p:Pr):List jV:=[qh,⟨qb 0,3,p.e1⟩,⟨qb 1,p.e1,p.e2⟩,⟨qb 2,p.e2,p.e3⟩,⟨qb 3,p.e3,p.e4⟩,⟨qb 4,p.e4,p.e5⟩,⟨qb 5,p.e5,p.e6⟩,⟨qb 6,p.e6,p.e7⟩,⟨⟨#[115,117,109]⟩,p.e7,p.e7+4⟩]
section
variable {α:Type} {b:List Nat} {a n:Nat} {er:Nat}
theorem Uh {k:Nat->Nat->Except Nat α} (h:nY b a k= .error er):er=344\/∃x e,k x e= .error er:=by grind [nY]
theorem J9 {k:List Nat->Nat->Except Nat α} (h:mE b n a k= .error er):er=344\/∃x e,k x e= .error er:=by grind [mE]
theorem Ui {k:Nat->Nat->Except Nat α} (h:cnt1 b a c hi k= .error er):(er=344\/er=345)\/∃x e,k x e= .error er:=by grind [cnt1,Uh]
end
theorem q8t (h:sU b= .error er):344<=er/\er<=346:=by
 rcases Uh h with h|⟨_,_,h⟩; · omega
 rcases Ui h with h|⟨_,_,h⟩; · omega
 rcases Uh h with h|⟨_,_,h⟩; · omega
 rcases Ui h with h|⟨_,_,h⟩; · omega
 rcases J9 h with h|⟨_,_,h⟩; · omega
 rcases J9 h with h|⟨_,_,h⟩; · omega
 rcases J9 h with h|⟨_,_,h⟩; · omega
 rcases Ui h with h|⟨_,_,h⟩; · omega
 rcases J9 h with h|⟨_,_,h⟩; · omega
 rcases J9 h with h|⟨_,_,h⟩; · omega
 grind [wO]
def fZ (l:List Nat):Except Nat Pr:=
 if abo l<15 then .error 340 else if 16777216<abo l then .error 3 else if zn l=false then .error 341 else
 if ¬(l.getD 0 0=113/\l.getD 1 0=115) then .error 342 else if l.getD 2 0≠1 then .error 343 else sU (l.take (abo l-4))
section
variable {l:List Nat}
def q8u (h:abo l<15):fZ l= .error 340:=if_pos h
def zet (h:¬abo l<15) (c:16777216<abo l):fZ l= .error 3:=by unfold fZ;rw [if_neg h,if_pos c]
def zky (h:¬abo l<15) (c:¬16777216<abo l) (d:zn l=false):fZ l= .error 341:=by unfold fZ;rw [if_neg h,if_neg c,if_pos d]
theorem qtw (h:¬abo l<15) (c:¬16777216<abo l) (d:zn l=true) (f:¬(l.getD 0 0=113/\l.getD 1 0=115)):fZ l= .error 342:=by grind [fZ]
theorem qwr (h:¬abo l<15) (c:¬16777216<abo l) (d:zn l=true) (f:l.getD 0 0=113/\l.getD 1 0=115) (g:l.getD 2 0≠1):fZ l= .error 343:=by grind [fZ]
theorem q8v (h:¬abo l<15) (c:¬16777216<abo l) (d:zn l=true) (f:l.getD 0 0=113/\l.getD 1 0=115) (g:l.getD 2 0=1):fZ l=sU (l.take (abo l-4)):=by grind [fZ]
def Uj (h:fZ l= .error er):1<=er/\er<=346:=by
 unfold fZ at h
 split at h
 ·injection h with h;omega
 ·split at h
  ·injection h with h;omega
  ·split at h
   ·injection h with h;omega
   ·split at h
    ·injection h with h;omega
    ·split at h
     ·injection h with h;omega
     ·have:=q8t h;omega
end
section
variable {l:List Nat} {p:Pr} {k:Nat}
end
theorem Ka {a:Nat} (h:Rd w B 1 A (abo b) (b.map B8)) (d:a<=abo b) (hc:abo b<=c):Rd w B 1 (if c=a then A else A.map (·.add (a*1))) (abo (b.drop a)) ((b.drop a).map B8):=by
 have f:=h.xR (i:=a) (j:=abo b) d (abu _) hc
 grind
def zeu {c:Nat} (h:aD l=(x,n,er)) (hr:Rd w w.heap.size 1 A (abo l) (l.map B8)) (d:∀b∈l,b<256) (f:abo l<=200000000000000):
  Calls abp 52 #[.slice A (abo l) c] w (Is w (.tuple #[.int .u64 (x:Int),.int .i64 (n:Int),.int .i64 (er:Int)])):=by
 have:=LQ A (abo l) c l w hr d f
 rw [h] at this
 exact this
def gU:aiP:=27
def Oa (k:Int) (w:aiM) (c:Mem W w fs):Calls abp 283 #[.int .i64 k] w (kW W fs (rG gU k)):=by
 refine yI (vs:=[.int .i64 k]) Tryz.func283 rfl rfl kr (σ0:=[(0,.int .i64 k)]) rfl ?_
 intro a Z
 refine zu ?_
 refine fp Z 1 0 [(2,.int .i64 k)] λa Z=>fy Z c 1 rfl rfl rfl (Yl.makeInterface rfl rfl) λa Z=>?_
 refine fo Z 2 rfl rfl ?_
 refine zkt Z rfl rfl ?_
 exact Fg Z ⟨rfl,c⟩
def q8w {gs:List aiX} {i g:Nat} (k x:Int) (w:aiM) (c:Mem W w fs) (hi:fs[i]?=some (.blk g #[.int .i64 x] gU)) (f:fs.set i (.blk g #[.int .i64 k] gU)=gs):CallsD abp 278 [ag6 (some ⟨g,0,none⟩)].toArray (.panicking (rG gU k)) w (pq W gs):=by
 subst f
 refine qkp ahj rfl rfl kr (σ0:=[(0,.pointer (some ⟨g,0,none⟩))]) rfl λc₀ h a d Z=>?_
 refine wpS_seq (wpS_region ?_)
 refine qko (i:=0) (v:= .iface gU (.int .i64 k)) (cs':={c₀ with mode:= .panicking [{v:= .iface gU (.int .i64 k),recovered:=true}]}::h) Z rfl rfl rfl rfl de (.inl (by unfold rG at d;simp [recoverD,d])) λa Z=>?_
 refine qtt (i:=1) Z rfl rfl rfl rfl de λa Z=>?_
 refine wpS_of_wp (wp_seq ?_)
 refine zu ?_
 refine fp Z 1 0 [(6,.iface gU (.int .i64 k))] λa Z=>fy Z c 1 rfl rfl rfl (aa2 rfl rfl) λa Z=>?_
 refine fp Z 5 2 [(2,.int .i64 k),(3,.bool true)] λa Z=>yH rfl ?_
 refine wp_seq (wp_seq ?_)
 refine zu ?_
 refine fp Z 1 0 [(10,.iface gU (.int .i64 k))] λa Z=>fy Z c 1 rfl rfl rfl (aa8 rfl rfl rfl) λa Z=>?_
 refine fp Z 4 2 [(15,.bool false)] λa Z=>yH rfl ?_
 refine PS Z rfl (wp_skip ?_)
 refine zu ?_
 refine fp Z 1 0 [(17,.int .i64 k)] λa Z=>fo Z 1 rfl rfl ?_
 refine rz Z c (i:=i) rfl rfl rfl rfl kr rfl hi (by simp) λj c=>?_
 refine yH rfl ?_
 exact qtu rfl Z ⟨rfl,rfl,c⟩
def q2w {gs:List aiX} {i g:Nat} (x:Int) (w:aiM) (c:Mem W w fs) (hi:fs[i]?=some (.blk g #[.int .i64 x] gU)) (f:fs.set i (.blk g #[.int .i64 0] gU)=gs):CallsD abp 278 [ag6 (some ⟨g,0,none⟩)].toArray .returning w (pq W gs):=by
 subst f
 refine qkp ahj rfl rfl kr (σ0:=[(0,.pointer (some ⟨g,0,none⟩))]) rfl λc₀ h a d Z=>?_
 refine wpS_seq (wpS_region ?_)
 refine qko (i:=0) (v:= .nilIface) (cs':=c₀::h) Z rfl rfl rfl rfl de (.inr ⟨by simp [recoverD,d],rfl,rfl⟩) λa Z=>?_
 refine qtt (i:=1) Z rfl rfl rfl rfl de λa Z=>?_
 refine wpS_of_wp (wp_seq ?_)
 refine zu ?_
 refine fp Z 1 0 [(6,.nilIface)] λa Z=>fy Z c 1 rfl rfl rfl (abb (z:= .int .i64 0) rfl rfl kr) λa Z=>?_
 refine fp Z 5 2 [(2,.int .i64 0),(3,.bool false)] λa Z=>yH rfl ?_
 refine wp_seq (wp_seq ?_)
 refine zu ?_
 refine fp Z 1 0 [(10,.nilIface)] λa Z=>fy Z c 1 rfl rfl rfl (abj rfl rfl) λa Z=>?_
 refine fp Z 4 2 [(15,.bool false)] λa Z=>yH rfl ?_
 refine PS Z rfl (wp_skip ?_)
 refine zu ?_
 refine fp Z 1 0 [(17,.int .i64 0)] λa Z=>fo Z 1 rfl rfl ?_
 refine rz Z c (i:=i) rfl rfl rfl rfl kr rfl hi (by simp) λj c=>?_
 refine yH rfl ?_
 have hc:c₀={c₀ with mode:=FrameMode.returning}:=by cases c₀;simp at d;rw [d]
 rw [hc]
 exact qtu rfl Z ⟨rfl,rfl,c⟩
section
variable {b rest:List Nat} {p x:Nat} {xs:List Nat}
def bK.fwd (a:x<18446744073709551616) (h:b.drop p=ak x++rest):bK b p x (p+abo (ak x))/\b.drop (p+abo (ak x))=rest:=by
 refine ⟨⟨by rw [h,MF rest a,acJ],adC ..⟩,?_⟩
 rw [<-acN,h,ad4 rfl]
def zr.fwd (a:abo xs=n) (c:∀y∈xs,y<18446744073709551616) (h:b.drop p=xs.flatMap ak++rest):zr b n p xs (p+abo (xs.flatMap ak))/\b.drop (p+abo (xs.flatMap ak))=rest:=by
 subst a
 refine ⟨⟨by rw [h,MG xs rest c,acJ],adC ..⟩,?_⟩
 rw [<-acN,h,ad4 rfl]
end
def qua {α:Type} (f:Nat->List α):∀k i,i<k->∃R,dV k f=dV i f++(f i++R)
 |0,_,h=>absurd h (ag5 _)
 | k + 1, i, h => by
  rw [qz]
  rcases ab6 i k with a|a
  ·obtain ⟨R,c⟩:=qua f k i a
   exact ⟨R++f k,by rw [c,abv,abv]⟩
  ·obtain rfl:i=k:=by omega
   exact ⟨[],by rw [abM]⟩
section
variable {s:dF} {tail:List Nat}
def D8 (hi:i<7):(bR s++tail).drop (nJ s i)=(aI s i).flatMap ak++(bR s++tail).drop (nJ s (i+1)):=by
 obtain ⟨R,c⟩:=qua (aI s) 7 i hi
 have d:bR s++tail=([113,115,1]++(dV i (aI s)).flatMap ak)++((aI s i).flatMap ak++(R.flatMap ak++tail)):=by
  unfold bR eX
  rw [c]
  simp only [ab1,abv]
 have a:abo ([113,115,1]++(dV i (aI s)).flatMap ak)=nJ s i:=by
  rw [abq];rfl
 rw [d,ad4 a,AO,<-acN,ad4 a,ad4 rfl]
def at_end (s:dF):nJ s 7=abo (bR s):=by
 rw [Im];rfl
def qz2 {cp:Nat} {rs:List Rw} (h:∀g,g<abo rs->(rs.getD g Rw.zero).l.length=cp):∀k,k<=abo rs->abo (dV k λg=>kU g (rs.getD g Rw.zero).l)=if k=0 then 0 else cp+3*cp*(k-1)
 |0,_=>rfl
 | k + 1, d => by
  rw [qz,abq,qz2 h k om,if_neg (agW k),adr]
  have c:=h k om
  show _+abo (kU k (rs.getD k Rw.zero).l)=_
  unfold kU
  rcases ach k with a|a
  ·subst a
   rw [uq (m:=1) (λi=>by rw [CY de];rfl),if_pos rfl,c]
   omega
  ·rw [uq (m:=3) (λi=>by rw [AQ a];rfl),if_neg om,c]
   obtain ⟨j,rfl⟩:∃j,k=j+1:=⟨k-1,by omega⟩
   rw [adr,ae9]
   omega
def bG (s:dF):Pr:=⟨aK s.next,aK s.st.au,s.st.aj,abo s.st.gs,aI s 2,aI s 3,aI s 4,abo s.st.ts,dV (abo s.st.ts) λi=>kT (qq s.st.ts i) (s.st.ts.getD i Tk.zero),aI s 6,nJ s 1,nJ s 2,nJ s 3,nJ s 4,nJ s 5,nJ s 6,nJ s 7⟩
def q96 (s:dF):(bG s).nums=eX s:=by
 rw [Df]
 show [aK s.next,aK s.st.au,s.st.aj,abo s.st.gs]++aI s 2++aI s 3++aI s 4++[abo s.st.ts]++_++aI s 6=_
 simp only [abv]
 rfl
def q97 (h:dN s):sU (bR s++tail)=if tail=[] then .ok (bG s) else .error 346:=by
 have S:=h.sh.sh
 have U:1<=s.st.au/\s.st.au<=64:=S.au
 have cl:(abo s.st.cl:Int)=s.st.au:=S.cl
 have cu:(abo s.st.cu:Int)=s.st.au:=S.cu
 have g1:=(qt S.gs).1
 have j:=(qt S.gs).2.1
 replace g1:1<=abo s.st.gs:=g1
 replace j:abo s.st.gs<=256:=j
 have V:abo s.st.ts<=65535:=S.few
 have r1:abo s.st.rs=abo s.st.gs:=by rw [<-wC];exact S.sp
 have a:=q6p h.ok h.few
 have tc:aK s.st.au=abo s.st.cl:=by unfold aK;omega
 have L:=a 0;have d:=a 1;have M:=a 2;have N:=a 3;have O:=a 4;have k:=a 5;have P:=a 6
 -- the sections, one after the other
 have o:=D8 (s:=s) (tail:=tail) (i:=0) de
 have e:=D8 (s:=s) (tail:=tail) (i:=1) de
 have q:=D8 (s:=s) (tail:=tail) (i:=2) de
 have r:=D8 (s:=s) (tail:=tail) (i:=3) de
 have u:=D8 (s:=s) (tail:=tail) (i:=4) de
 have f:=D8 (s:=s) (tail:=tail) (i:=5) de
 have v:=D8 (s:=s) (tail:=tail) (i:=6) de
 generalize Q:bR s++tail=b at o e q r u f v⊢
 have e1:nJ s 1=3+abo (ak (aK s.next)):=by rw [AO];show 3+abo (ak _++[])=_;rw [abM]
 have w:=bK.fwd (b:=b) (p:=3) (x:=aK s.next) (rest:=b.drop (nJ s 1)) (L _ (acj ..)) (by
  have:b.drop 3=(ak (aK s.next)++[])++b.drop (nJ s 1):=o
  rwa [abM] at this)
 rw [<-e1] at w
 have z:(aI s 1).flatMap ak=ak (aK s.st.au)++(ak s.st.aj++ak (abo s.st.gs)):=by
  show ak _++(ak _++(ak _++[]))=_
  rw [abM]
 rw [z,abv,abv] at e
 have A:=bK.fwd (b:=b) (d _ (acj ..)) e
 have B:=bK.fwd (b:=b) (d s.st.aj (ab5 _ (acj ..))) A.2
 have C:=bK.fwd (b:=b) (d (abo s.st.gs) (ab5 _ (ab5 _ (acj ..)))) B.2
 have e2:nJ s 1+abo (ak (aK s.st.au))+abo (ak s.st.aj)+abo (ak (abo s.st.gs))=nJ s 2:=by
  rw [AO s 1,z,abq,abq];omega
 rw [e2] at C
 have D:=zr.fwd (n:=2*(abo s.st.gs-1)) (by show abo (dV _ _)=_;rw [uq (m:=2) (λi=>rfl)]) M q
 rw [<-AO] at D
 have E:=zr.fwd (n:=aK s.st.au) (by show abo (aff _ _)=_;rw [abw,tc]) N r
 rw [<-AO] at E
 have F:=zr.fwd (n:=aK s.st.au) (by show abo (aff _ _)=_;rw [abw,tc];omega) O u
 rw [<-AO] at F
 have G:(aI s 5).flatMap ak=ak (abo s.st.ts)++(bG s).ts.flatMap ak:=rfl
 rw [G,abv] at f
 have H:=bK.fwd (b:=b) (k (abo s.st.ts) (acj ..)) f
 have I:=zr.fwd (n:=8*abo s.st.ts) (xs:=(bG s).ts) (by show abo (dV _ _)=_;rw [uq (m:=8) (λi=>rfl)]) (λy R=>k y (ab5 _ R)) H.2
 have e6:nJ s 5+abo (ak (abo s.st.ts))+abo ((bG s).ts.flatMap ak)=nJ s 6:=by
  rw [AO s 5,G,abq];omega
 rw [e6] at I
 have T:∀g,g<abo s.st.rs->(s.st.rs.getD g Rw.zero).l.length=aK s.st.au:=λg J=>by
  have:((s.st.rs.getD g Rw.zero).l.length:Int)=s.st.au:=by rw [<-A9 J];exact S.rows g (by show g<abo (jw s.st);rw [wC];exact J)
  rw [tc];omega
 have K:=zr.fwd (n:=aK s.st.au+3*aK s.st.au*(abo s.st.gs-1)) (by show abo (dV _ _)=_;rw [qz2 T _ (abu _),if_neg om,r1]) P v
 rw [<-AO] at K
 have c:sU b=if nJ s 7≠abo b then .error 346 else .ok (bG s):=
  w.1.go1.trans ((A.1.goC (by rw [tc];omega)).trans (B.1.go1.trans ((C.1.goC om).trans (D.1.goK.trans (E.1.goK.trans (F.1.goK.trans ((H.1.goC om).trans (I.1.goK.trans K.1.goK))))))))
 rw [c,at_end,<-Q,abq]
 rcases tail with _|⟨y,t⟩
 ·rw [if_neg (by simp),if_pos rfl]
 ·rw [if_pos (by simp),if_neg (by simp)]
def zlv (h:dN s) (hm:abo (aY (bR s))<=16777216):fZ (aY (bR s))= .ok (bG s):=by
 have c:=h.len.1
 have a:aY (bR s)=113::115::1::((eX s).flatMap ak++rA (zy (bR s))):=rfl
 have ht:(aY (bR s)).take (abo (aY (bR s))-4)=bR s:=by
  rw [pY,adr]
  unfold aY
  rw [List.take_left' rfl]
 rw [q8v om om Qa (by rw [a];exact ⟨rfl,rfl⟩) (by rw [a];rfl),ht]
 have:=q97 (tail:=[]) h
 rwa [abM,if_pos rfl] at this
end
section
variable {α:Type} {b:List Nat} {a n:Nat} {p:α}
def qzd {k:Nat->Nat->Except Nat α} (h:nY b a k= .ok p):∃x e,bK b a x e/\k x e= .ok p:=by
 rcases Fj b a with c|⟨x,e,c⟩
 ·rw [N7 c] at h;cases h
 ·rw [c.go1] at h;exact ⟨x,e,c,h⟩
def Kc {k:List Nat->Nat->Except Nat α} (h:mE b n a k= .ok p):∃xs e,zr b n a xs e/\k xs e= .ok p:=by
 rcases Fp b n a with c|⟨x,e,c⟩
 ·rw [Fh c] at h;cases h
 ·rw [c.goK] at h;exact ⟨x,e,c,h⟩
def Uk {k:Nat->Nat->Except Nat α} (h:cnt1 b a c hi k= .ok p):∃x e,bK b a x e/\(c<=x/\x<=hi)/\k x e= .ok p:=by
 rcases N9 b a c hi with d|⟨x,e,d,f⟩|⟨x,e,d,f⟩
 ·rw [N8 d] at h;cases h
 ·rw [d.bad f] at h;cases h
 ·rw [d.goC f] at h;exact ⟨x,e,d,by omega,h⟩
end
section
variable {b:List Nat} {p x e n:Nat} {xs:List Nat}
def bK.bytes (h:bK b p x e) (c:∀z∈b,z<256):b.drop p=ak x++b.drop e:=by
 rw [QD (λz hz=>c z (abU hz)) h.1]
 have:=ab8 (e-p) (b.drop p)
 rw [acN,h.eq] at this
 exact this.symm
def zr.bytes (h:zr b n p xs e) (c:∀z∈b,z<256):b.drop p=xs.flatMap ak++b.drop e/\∀x∈xs,x<18446744073709551616:=by
 obtain ⟨d,_,f,_⟩:=YA n _ xs _ (λz hz=>c z (abU hz)) h.1
 refine ⟨?_,f⟩
 rw [d]
 have:=ab8 (e-p) (b.drop p)
 rw [acN,h.eq] at this
 exact this.symm
end
structure Pr.Fit (p:Pr):Prop where
 cp1:1<=p.cp
 cp2:p.cp<=64
 Ul:1<=p.gp
 Ke:p.gp<=256
 tk:p.tk<=65535
 gs:abo p.gs=2*(p.gp-1)
 cl:abo p.cl=p.cp
 cu:abo p.cu=p.cp
 ts:abo p.ts=8*p.tk
 sp:abo p.sp=p.cp+3*p.cp*(p.gp-1)
 lt:∀x∈p.nums,x<18446744073709551616
variable {p:Pr}
def q8x (hb:3<=abo b) (c:∀z∈b,z<256) (h:sU b= .ok p):p.Fit/\b.drop 3=p.nums.flatMap ak:=by
 obtain ⟨nx,e1,j,h⟩:=qzd h
 obtain ⟨cp,M,k,r,h⟩:=Uk h
 obtain ⟨cr,N,l,h⟩:=qzd h
 obtain ⟨gp,e2,m,s,h⟩:=Uk h
 obtain ⟨gs,e3,t,h⟩:=Kc h
 obtain ⟨cl,e4,u,h⟩:=Kc h
 obtain ⟨cu,e5,v,h⟩:=Kc h
 obtain ⟨tk,O,o,H,h⟩:=Uk h
 obtain ⟨ts,e6,w,h⟩:=Kc h
 obtain ⟨sp,e7,f,h⟩:=Kc h
 unfold wO at h
 split at h
 ·cases h
 rename_i P
 injection h with h
 subst h
 have I:=j.in hb
 have J:=k.in I.2
 have K:=l.in J.2
 have L:=m.in K.2
 have y:=t.in L.2
 have A:=u.in y.2.2
 have B:=v.in A.2.2
 have i8:=o.in B.2.2
 have C:=w.in i8.2
 have q:=f.in C.2.2
 have D:=t.bytes c
 have E:=u.bytes c
 have F:=v.bytes c
 have G:=w.bytes c
 have g:=f.bytes c
 have i:b.drop e7=[]:=ac6 om
 refine ⟨⟨r.1,r.2,s.1,s.2,H.2,y.1,A.1,B.1,C.1,q.1,λx d=>?_⟩,?_⟩
 ·simp only [Pr.nums,acg,abY,acv,or_false] at d
  rcases d with (((((((rfl|rfl|rfl|rfl)|d)|d)|d)|rfl)|d)|d)
  ·exact j.lt c
  ·exact k.lt c
  ·exact l.lt c
  ·exact m.lt c
  ·exact D.2 x d
  ·exact E.2 x d
  ·exact F.2 x d
  ·exact o.lt c
  ·exact G.2 x d
  ·exact g.2 x d
 ·rw [j.bytes c,k.bytes c,l.bytes c,m.bytes c,D.1,E.1,F.1,o.bytes c,G.1,g.1,i]
  simp [Pr.nums]
def bQ (x:Nat):Int:=Go.IntKind.i64.wrap (x:Int)
def aC:Nat:=4611686018427387904
def bV {α:Type} (n:Nat) (f:Nat->α):List α:=(aco n).map f
theorem zl {α:Type} (n:Nat) (f:Nat->α):abo (bV n f)=n:=by simp [bV]
def zL {α:Type} (n:Nat) (f:Nat->α):bV (n+1) f=bV n f++[f n]:=by unfold bV;rw [agT,abZ];rfl
theorem wP {α:Type} {f:Nat->α} {d:α} (h:i<n):(bV n f).getD i d=f i:=by grind [bV]
def zev {α β:Type} (n:Nat) (f:Nat->α) (g:α->β):(bV n f).map g=bV n λi=>g (f i):=by unfold bV;rw [aeZ];rfl
theorem qtx (h:abo l=n) (f:Nat->Int):(bV n λi=>f (l.getD i 0))=l.map f:=by
 subst h
 refine List.ext_getElem (by simp [bV]) λi a b=>?_
 grind [bV]
def Pr.iL (p:Pr) (g:Nat):Gr:=if g=0 then ⟨0,1⟩ else ⟨bQ (p.gs.getD (2*(g-1)) 0),bQ (p.gs.getD (2*(g-1)+1) 0)⟩
def Pr.tn (p:Pr) (i j:Nat):Nat:=p.ts.getD (8*i+j) 0
def Pr.sV (p:Pr):Nat->Int
 |0=>0
 |i+1=>if 65535<Go.IntKind.i64.wrap (p.sV i+bQ (p.tn i 0)) then 65535 else Go.IntKind.i64.wrap (p.sV i+bQ (p.tn i 0))
def Pr.l6 (p:Pr) (i:Nat):Int:=Go.IntKind.i64.wrap (p.sV i+bQ (p.tn i 0))
def Pr.uD (p:Pr) (i:Nat):Tk:=⟨p.l6 i,bQ (p.tn i 1),bQ (p.tn i 2),bQ (p.tn i 3),p.tn i 4,decide (p.tn i 5=1),p.tn i 6,p.tn i 7%4294967296⟩
def Pr.so (p:Pr) (g c:Nat):Nat:=if g=0 then c else p.cp+3*p.cp*(g-1)+3*c
def Pr.sn (p:Pr) (g c j:Nat):Nat:=p.sp.getD (p.so g c+j) 0
def Pr.rY (p:Pr) (g c:Nat):Sp:=if g=0 then ⟨0,0,p.sn g c 0⟩ else ⟨p.sn g c 0,p.sn g c 1%4294967296,p.sn g c 2⟩
def Pr.row (p:Pr) (g:Nat):List Sp:=bV p.cp (p.rY g)
def Pr.rH (p:Pr):dF:=⟨bQ p.nx,⟨(p.cp:Int),p.cr,none,0,bV p.gp p.iL,none,0,p.cl.map bQ,none,0,p.cu.map bQ,none,0,bV p.tk p.uD,none,0,bV p.gp λg=>⟨none,0,p.row g⟩⟩⟩
def dle (x m:Nat):Bool:=decide (x<=m)
def Pr.ok0 (p:Pr):Bool:=(((true&&dle p.nx aC)&&dle p.cp aC)&&dle p.cr 18446744073709551615)&&dle p.gp aC
def Pr.pV (p:Pr):Nat->Bool
 |0=>p.ok0
 |g+1=>if g=0 then p.ok0 else (p.pV g&&dle (p.gs.getD (2*(g-1)) 0) aC)&&dle (p.gs.getD (2*(g-1)+1) 0) aC
def Pr.zM (p:Pr):Nat->Bool
 |0=>p.pV p.gp
 |k+1=>p.zM k&&dle (p.cl.getD k 0) aC
def Pr.wQ (p:Pr):Nat->Bool
 |0=>p.zM p.cp
 |k+1=>p.wQ k&&dle (p.cu.getD k 0) aC
def Pr.jS (p:Pr):Nat->Bool
 |0=>p.wQ p.cp&&dle p.tk aC
 |i+1=>((((((((p.jS i&&dle (p.tn i 0) aC)&&dle (p.tn i 1) aC)&&dle (p.tn i 2) aC)&&dle (p.tn i 3) aC)&&dle (p.tn i 4) 18446744073709551615)&&dle (p.tn i 5) 1)&&dle (p.tn i 6) 18446744073709551615)&&dle (p.tn i 7) 4294967295)&&decide (p.l6 i<=65535)
def Pr.l7 (p:Pr) (base:Bool) (g:Nat):Nat->Bool
 |0=>base
 |c+1=>if g=0 then p.l7 base g c&&dle (p.sn g c 0) 18446744073709551615 else ((p.l7 base g c&&dle (p.sn g c 0) 18446744073709551615)&&dle (p.sn g c 1) 4294967295)&&dle (p.sn g c 2) 18446744073709551615
def Pr.mZ (p:Pr):Nat->Bool
 |0=>p.jS p.tk
 |g+1=>p.l7 (p.mZ g) g p.cp
def Pr.okB (p:Pr):Bool:=p.mZ p.gp
section
variable {p:Pr} (h:p.Fit)
def Pr.oC (p:Pr):Nat:=4+2*(p.gp-1)
def Pr.oT (p:Pr):Nat:=p.oC+2*p.cp
def Pr.oS (p:Pr):Nat:=p.oT+1+8*p.tk
theorem Ob {l m:List Nat} (hk:k<abo l):(l++m).getD k 0=l.getD k 0:=by grind
theorem Fq {l m:List Nat} (hk:k=abo l+j):(l++m).getD k 0=m.getD j 0:=by grind
def zew (p:Pr):p.nums.getD 0 0=p.nx/\p.nums.getD 1 0=p.cp/\p.nums.getD 2 0=p.cr/\p.nums.getD 3 0=p.gp:=by
 unfold Pr.nums
 simp [abv]
include h in
theorem zex:p.nums.length=p.oS+p.sp.length/\p.sp.length=p.cp+3*p.cp*(p.gp-1):=by
 unfold Pr.nums Pr.oS Pr.oT Pr.oC
 simp only [List.length_append,List.length_cons,List.length_nil,h.gs,h.cl,h.cu,h.ts]
 exact ⟨by omega,h.sp⟩
include h in
theorem q8y {j:Nat} (a:j<2*(p.gp-1)):p.nums.getD (4+j) 0=p.gs.getD j 0:=by
 have:=h.gs
 unfold Pr.nums
 rw [List.append_assoc,List.append_assoc,List.append_assoc,List.append_assoc,List.append_assoc,Fq (l:=[p.nx,p.cp,p.cr,p.gp]) (k:=4+j) (j:=j) rfl,Ob om]
include h in
theorem zkz {j:Nat} (a:j<p.cp):p.nums.getD (p.oC+j) 0=p.cl.getD j 0:=by
 have:=h.gs
 have:=h.cl
 unfold Pr.nums Pr.oC
 rw [List.append_assoc,List.append_assoc,List.append_assoc,List.append_assoc,Fq (j:=j) (by simp only [List.length_append,List.length_cons,List.length_nil];omega),Ob om]
include h in
theorem zk0 {j:Nat} (a:j<p.cp):p.nums.getD (p.oC+p.cp+j) 0=p.cu.getD j 0:=by
 have:=h.gs
 have:=h.cl
 have:=h.cu
 unfold Pr.nums Pr.oC
 rw [List.append_assoc,List.append_assoc,List.append_assoc,Fq (j:=j) (by simp only [List.length_append,List.length_cons,List.length_nil];omega),Ob om]
include h in
theorem zk1:p.nums.getD p.oT 0=p.tk:=by
 have:=h.gs
 have:=h.cl
 have:=h.cu
 unfold Pr.nums Pr.oT Pr.oC
 rw [List.append_assoc,List.append_assoc,Fq (j:=0) (by simp only [List.length_append,List.length_cons,List.length_nil];omega)]
 rfl
include h in
theorem Bh {j:Nat} (a:j<8*p.tk):p.nums.getD (p.oT+1+j) 0=p.ts.getD j 0:=by
 have:=h.gs
 have:=h.cl
 have:=h.cu
 have:=h.ts
 unfold Pr.nums Pr.oT Pr.oC
 rw [List.append_assoc,Fq (j:=j) (by simp only [List.length_append,List.length_cons,List.length_nil];omega),Ob om]
include h in
theorem Oc (j:Nat):p.nums.getD (p.oS+j) 0=p.sp.getD j 0:=by
 have:=h.gs
 have:=h.cl
 have:=h.cu
 have:=h.ts
 unfold Pr.nums Pr.oS Pr.oT Pr.oC
 rw [Fq (j:=j) (by simp only [List.length_append,List.length_cons,List.length_nil];omega)]
def zN (p:Pr) (c:Nat):p.so 0 c=c:=if_pos rfl
def uE (a:0<g) (c:Nat):p.so g c=p.cp+3*p.cp*(g-1)+3*c:=if_neg om
def Od {g:Nat}:p.so (g+1) 0=p.so g p.cp:=by
 rw [uE om]
 rcases ach g with a|a
 ·subst a;rw [zN];omega
 ·rw [uE a,show g+1-1=(g-1)+1 by omega,ae9];omega
include h in
theorem Kg (b:g<p.gp) (hc:c<p.cp):p.so g c+(if g=0 then 1 else 3)<=p.sp.length:=by
 rw [h.sp]
 rcases Nat.eq_zero_or_pos g with a|a
 ·subst a;rw [zN,if_pos rfl];omega
 ·rw [uE a,if_neg om]
  have:3*p.cp*(g-1)+3*p.cp<=3*p.cp*(p.gp-1):=by
   rw [<-Nat.mul_succ]
   exact Nat.mul_le_mul_left _ om
  omega
end
def d9 (A:aiW) (c:Nat):Nat->aiW
 |0=>A
 |k+1=>if c-k=1 then d9 A c k else (d9 A c k).map (·.add (1*1))
def Um {w:aiM} {B c:Nat} {A:aiW} {q:List Nat} (h:Rd w B 1 A (abo q) (q.map bF)) (hc:abo q<=c):∀k,k<=abo q->Rd w B 1 (d9 A c k) (abo q-k) ((q.drop k).map bF)
 |0,_=>h
 |k+1,d=>by
  have b:=Um h hc k om
  have a:=b.mid (i:=1) (j:=abo q-k) (c:=c-k) om (abu _) om
  simp only [Nat.mul_one] at a
  rw [<-List.map_take,<-List.map_drop,abL (by rw [abE];omega),acN] at a
  rw [show abo q- (k+1)=abo q-k-1 by omega]
  exact a
def zn7 {B c k m oS:Nat} (h:Rd w B 1 A (abo q) (q.map bF)) (hc:abo q<=c) (hk:k<abo q) (b:d9 A c k=some ⟨m,oS,none⟩):w.cell? ⟨m,oS,none⟩=some (.int .u64 (q.getD k 0:Int)):=by
 have a:=Um h hc k om
 rw [b] at a
 have d:=a.BS (k:=0) (vw (F:=bF) (x:=q.getD k 0) (by rw [adL,abt,acK,abr hk];rfl))
 rwa [Nat.zero_mul,acK] at d
def Oe (x:Nat):bQ x=((x:Int)+9223372036854775808)%18446744073709551616-9223372036854775808:=by unfold bQ;rw [aeM]
theorem Fu (h:x<18446744073709551616):aK (bQ x)=x:=by rw [Oe];unfold aK;omega
def zk2 (h:x<18446744073709551616) (a:0<=bQ x):bQ x=x:=by rw [Oe] at*;omega
def Un (h:x<=4611686018427387904):bQ x=x:=by rw [Oe];omega
def qze {a:Int} (h:x<18446744073709551616):aK (Go.IntKind.i64.wrap (a+bQ x)-a)=x:=by rw [aeM,Oe];unfold aK;omega
def Pr.nM (p:Pr):Nat->Int
 |0=>0
 |i+1=>Go.IntKind.i64.wrap (p.nM i+bQ (p.tn i 0))
def Pr.ni (p:Pr) (i:Nat):Tk:=⟨p.nM (i+1),bQ (p.tn i 1),bQ (p.tn i 2),bQ (p.tn i 3),p.tn i 4,decide (0<p.tn i 5),p.tn i 6,p.tn i 7%4294967296⟩
def Pr.jK (p:Pr):dF:=⟨bQ p.nx,⟨(p.cp:Int),p.cr,none,0,bV p.gp p.iL,none,0,p.cl.map bQ,none,0,p.cu.map bQ,none,0,bV p.tk p.ni,none,0,bV p.gp λg=>⟨none,0,p.row g⟩⟩⟩
def zg8 (p:Pr) (i:Nat):p.sV (i+1)=if 65535<p.l6 i then 65535 else p.l6 i:=rfl
theorem Kh {p:Pr}:∀i,(∀j,j<i->p.l6 j<=65535)->p.sV i=p.nM i
 |0,_=>rfl
 |i+1,h=>by
  have a:=Kh i λj b=>h j om
  have c:=h i om
  rw [zg8,if_neg om]
  unfold Pr.l6
  rw [a]
  rfl
def Ki {p:Pr}:∀i,(∀j,j<i->p.nM (j+1)<=65535)->p.sV i=p.nM i
 |0,_=>rfl
 |i+1,h=>by
  have a:=Ki i λj c=>h j om
  have d:=h i om
  have b:p.l6 i=p.nM (i+1):=by unfold Pr.l6;rw [a];rfl
  rw [zg8,if_neg om,b]
def Bj (h:p.sV i=p.nM i):p.l6 i=p.nM (i+1):=by unfold Pr.l6;rw [h];rfl
def Uo {α:Type} (l:List α) (o:Nat->Nat) (a:o 0=0) (b:∀i,o i<=o (i+1)):∀k,(dV k λi=>(l.drop (o i)).take (o (i+1)-o i))=l.take (o k)
 |0=>by rw [CW,a,List.take_zero]
 |k+1=>by
  rw [qz,Uo l o a b k,<-List.take_add]
  congr 1
  have:=b k
  omega
theorem zk3 (l:List Nat):∀(m a:Nat),a+m<=abo l->(l.drop a).take m=(aco m).map λj=>l.getD (a+j) 0:=by intro x;induction x<;>grind [abr,agT,List.take_add_one]
theorem uU {α:Type} {f g:Nat->List α} (h:∀i,i<k->f i=g i):dV k f=dV k g:=Nn k h
theorem Og (h:abo l=m*k):l=dV k λi=>(aco m).map λj=>l.getD (m*i+j) 0:=by
 have a:=Uo l (λi=>m*i) rfl (λi=>by show m*i<=m*(i+1);rw [ae9];omega) k
 rw [abL (show abo l<=m*k by omega)] at a
 refine a.symm.trans (uU λi hi=>?_)
 show (l.drop (m*i)).take (m*(i+1)-m*i)=_
 have b:m*(i+1)<=m*k:=agu _ hi
 grind [zk3]
theorem Oh {α:Type} {f g:Nat->List α}:∀k,(∀i,i<k->abo (f i)=abo (g i))->dV k f=dV k g->∀i,i<k->f i=g i:=by intro x;induction x<;>grind [dV,qz,adb,acW,abq,ab6]
def Fv {α:Type} {f g:Nat->List α}:∀k,(∀i,i<k->abo (f i)=abo (g i))->abo (dV k f)=abo (dV k g)
 |0,_=>rfl
 |k+1,h=>by rw [qz,qz,abq,abq,Fv k (λi hi=>h i om),h k om]
def Pr.sec (p:Pr):Nat->List Nat
 |0=>[p.nx]
 |1=>[p.cp,p.cr,p.gp]
 |2=>p.gs
 |3=>p.cl
 |4=>p.cu
 |5=>p.tk::p.ts
 |6=>p.sp
 |_=>[]
theorem qzf (p:Pr):p.nums=dV 7 p.sec:=by simp_all [Pr.nums,Pr.sec,qz,CW]
structure Pr.Low (p:Pr):Prop where
 t5:∀i,i<p.tk->p.tn i 5<=1
 t7:∀i,i<p.tk->p.tn i 7<=4294967295
 s1:∀g,g<p.gp->0<g->∀c,c<p.cp->p.sn g c 1<=4294967295
section
variable {p:Pr}
def zn8 (x:Nat) (h:x∈p.gs):x∈p.nums:=by simp [Pr.nums,h]
def zg9 (x:Nat) (h:x∈p.cl):x∈p.nums:=by simp [Pr.nums,h]
def zha (x:Nat) (h:x∈p.cu):x∈p.nums:=by simp [Pr.nums,h]
def zn9 (x:Nat) (h:x∈p.ts):x∈p.nums:=by simp [Pr.nums,h]
def zoa (x:Nat) (h:x∈p.sp):x∈p.nums:=by simp [Pr.nums,h]
theorem Kj (h:∀x∈l,x<n) (a:0<n) (k:Nat):l.getD k 0<n:=by grind [abr,List.getElem?_eq_none,List.getElem_mem,ab6]
variable (h:p.Fit)
include h
theorem wR (k:Nat):p.gs.getD k 0<18446744073709551616:=Kj (λx a=>h.lt x (zn8 x a)) de k
theorem Kk (k:Nat):p.cl.getD k 0<18446744073709551616:=Kj (λx a=>h.lt x (zg9 x a)) de k
theorem Bl (k:Nat):p.cu.getD k 0<18446744073709551616:=Kj (λx a=>h.lt x (zha x a)) de k
theorem jf (i j:Nat):p.tn i j<18446744073709551616:=Kj (λx a=>h.lt x (zn9 x a)) de _
theorem wT (g c j:Nat):p.sn g c j<18446744073709551616:=Kj (λx a=>h.lt x (zoa x a)) de _
theorem Bn:p.nx<18446744073709551616:=h.lt _ (by simp [Pr.nums])
theorem wU:p.cr<18446744073709551616:=h.lt _ (by simp [Pr.nums])
theorem zey:p.gs=dV (p.gp-1) λi=>[p.gs.getD (2*i) 0,p.gs.getD (2*i+1) 0]:=Og h.gs
theorem Oi:p.ts=dV p.tk λi=>[p.tn i 0,p.tn i 1,p.tn i 2,p.tn i 3,p.tn i 4,p.tn i 5,p.tn i 6,p.tn i 7]:=Og h.ts
theorem zob (e:g<p.gp):(p.sp.drop (p.so g 0)).take (p.so (g+1) 0-p.so g 0)=dV p.cp λc=>if g=0 then [p.sn g c 0] else [p.sn g c 0,p.sn g c 1,p.sn g c 2]:=by
 have hs:=h.sp
 rcases ach g with a|a
 ·subst a
  have e1:p.so (0+1) 0=p.cp:=by rw [Od,zN]
  rw [e1,zN,Nat.sub_zero,List.drop_zero]
  have b:abo (p.sp.take p.cp)=1*p.cp:=by rw [abx];omega
  refine (Og b).trans (uU λc hc=>?_)
  rw [if_pos rfl]
  show [(p.sp.take p.cp).getD (1*c+0) 0]=[p.sp.getD (p.so 0 c+0) 0]
  rw [zN,abt,abt,afT om,Nat.one_mul]
 ·have e1:p.so (g+1) 0=p.so g 0+3*p.cp:=by rw [Od,uE a,uE a,Nat.mul_zero,acK]
  have d:p.so g 0+3*p.cp<=abo p.sp:=by
   rw [uE a,hs]
   have:3*p.cp*(g-1)+3*p.cp<=3*p.cp*(p.gp-1):=by
    rw [<-ae9]
    exact agu _ om
   omega
  rw [e1,acJ]
  have b:abo ((p.sp.drop (p.so g 0)).take (3*p.cp))=3*p.cp:=by rw [abx,abE];omega
  refine (Og b).trans (uU λc hc=>?_)
  rw [if_neg om]
  have e2:∀j,j<3->((p.sp.drop (p.so g 0)).take (3*p.cp)).getD (3*c+j) 0=p.sn g c j:=λj f=>by
   unfold Pr.sn
   rw [abt,abt,afT om,adL,uE a,uE a]
   congr 2
   omega
  show [((p.sp.drop (p.so g 0)).take (3*p.cp)).getD (3*c+0) 0,((p.sp.drop (p.so g 0)).take (3*p.cp)).getD (3*c+1) 0,((p.sp.drop (p.so g 0)).take (3*p.cp)).getD (3*c+2) 0]=_
  rw [e2 0 om,e2 1 om,e2 2 om]
theorem Oj:p.sp=dV p.gp λg=>dV p.cp λc=>if g=0 then [p.sn g c 0] else [p.sn g c 0,p.sn g c 1,p.sn g c 2]:=by
 have b:=Uo p.sp (λg=>p.so g 0) (zN p 0) (λg=>by
  show p.so g 0<=p.so (g+1) 0
  rw [Od]
  rcases ach g with a|a
  ·subst a;rw [zN];omega
  ·rw [uE a,uE a];omega) p.gp
 have d:p.so p.gp 0=abo p.sp:=by rw [uE h.Ul,h.sp];omega
 rw [d,adv] at b
 exact b.symm.trans (uU λg e=>zob h e)
end
def Kl (p:Pr) {i:Nat} (hi:i<=p.tk):qq (bV p.tk p.ni) i=p.nM i:=by
 cases i with
 |zero=>rfl
 |succ i=>rw [H8,wP om];rfl
theorem zO (h:p.Fit):(∀i,i<7->abo (aI p.jK i)=abo (p.sec i))/\((∀i,i<7->aI p.jK i=p.sec i)↔p.Low):=by
 have j:aI p.jK 2=p.gs:=by
  show dV (abo (bV p.gp p.iL)-1) (uR (bV p.gp p.iL))=p.gs
  grind [Pr.iL,uR,wR,zey,wP,zl,Fu,uU]
 have hm:∀l:List Nat,(∀x∈l,x<18446744073709551616)->(l.map bQ).map aK=l:=λl a=>by
  rw [aeZ]
  exact (ae0 λx b=>Fu (a x b)).trans (List.map_id l)
 have e:aI p.jK 5=p.tk::dV p.tk λi=>[p.tn i 0,p.tn i 1,p.tn i 2,p.tn i 3,p.tn i 4,if decide (0<p.tn i 5)=true then 1 else 0,p.tn i 6,p.tn i 7%4294967296]:=by
  show (abo (bV p.tk p.ni)::dV (abo (bV p.tk p.ni)) λi=>kT (qq (bV p.tk p.ni) i) ((bV p.tk p.ni).getD i Tk.zero))=_
  rw [zl]
  congr 1
  refine uU λi hi=>?_
  rw [Kl p om,wP hi]
  show [aK (Go.IntKind.i64.wrap (p.nM i+bQ (p.tn i 0))-p.nM i),aK (bQ (p.tn i 1)),aK (bQ (p.tn i 2)),aK (bQ (p.tn i 3)),_,_,_,_]=_
  rw [qze (jf h i 0),Fu (jf h i 1),Fu (jf h i 2),Fu (jf h i 3)]
  rfl
 have f:aI p.jK 6=dV p.gp λg=>dV p.cp λc=>if g=0 then [p.sn g c 0] else [p.sn g c 0,p.sn g c 1%4294967296,p.sn g c 2]:=by
  show (dV (abo (bV p.gp λg=>(⟨none,0,p.row g⟩:Rw))) λg=>kU g ((bV p.gp λg=>(⟨none,0,p.row g⟩:Rw)).getD g Rw.zero).l)=_
  rw [zl]
  refine uU λg d=>?_
  rw [wP d]
  show dV (abo (p.row g)) (λc=>nI g ((p.row g).getD c Sp.zero))=_
  grind [Pr.row,Pr.rY,wP,zl,AQ,CY,uU]
 have k:aI p.jK 0=p.sec 0:=by show [aK (bQ p.nx)]=[p.nx];rw [Fu (Bn h)]
 have m:aI p.jK 1=p.sec 1:=by
  show [aK (p.cp:Int),p.cr,abo (bV p.gp p.iL)]=[p.cp,p.cr,p.gp]
  have:=h.cp2
  rw [zl,q6m om]
 have n:aI p.jK 3=p.sec 3:=hm p.cl λx b=>h.lt x (zg9 x b)
 have o:aI p.jK 4=p.sec 4:=hm p.cu λx b=>h.lt x (zha x b)
 constructor
 ·intro i hi
  match i,hi with
  |0,_=>rw [k]
  |1,_=>rw [m]
  |2,_=>rw [j];rfl
  |3,_=>rw [n]
  |4,_=>rw [o]
  |5,_=>
   rw [e]
   refine congrArg (· +1) (agv ?_ (congrArg acW (Oi h).symm))
   exact Fv p.tk λi _=>rfl
  |6,_=>
   rw [f]
   refine agv ?_ (congrArg acW (Oj h).symm)
   exact Fv p.gp λg _=>Fv p.cp λc _=>by split<;>rfl
 ·constructor
  ·intro q
   have e5:=q 5 om
   have e6:=q 6 om
   rw [e] at e5
   rw [f] at e6
   replace e5:=(List.cons.inj e5).2
   rw [Oi h] at e5
   replace e6:_=p.sp:=e6
   rw [Oj h] at e6
   have r:=Oh p.tk (λi _=>by rfl) e5
   have s:=Oh p.gp (λg _=>Fv p.cp λc _=>by split<;>rfl) e6
   refine ⟨λi hi=>?_,λi hi=>?_,λg d g0 c hc=>?_⟩
   ·grind
   ·grind
   ·grind [Oh]
  ·intro a i hi
   match i,hi with
   |0,_=>exact k
   |1,_=>exact m
   |2,_=>exact j
   |3,_=>exact n
   |4,_=>exact o
   |5,_=>
    rw [e]
    show _=p.tk::p.ts
    congr 1
    refine agv (uU λi hi=>?_) (Oi h).symm
    have t:=a.t5 i hi
    have u:=a.t7 i hi
    grind
   | 6, _ =>
    rw [f]
    refine agv (uU λg d=>uU λc hc=>?_) (Oj h).symm
    rcases ach g with g0|g0
    ·rw [if_pos g0,if_pos g0]
    ·have:=a.s1 g d g0 c hc
     grind
theorem wV (h:p.Fit):eX p.jK=p.nums↔p.Low:=by
 rw [qzf]
 exact ⟨λe=>(zO h).2.1 (Oh 7 (zO h).1 e),λe=>uU ((zO h).2.2 e)⟩
theorem pW (h:x<=m):dle x m=true:=decide_eq_true h
theorem zhb (h:dle x m=true):x<=m:=of_decide_eq_true h
section
variable {p:Pr}
theorem zoc {b:Bool} {g:Nat}:∀k,p.l7 b g k=true->b=true/\(0<g->∀c,c<k->p.sn g c 1<=4294967295):=by intro x;induction x<;>grind [Pr.l7,zhb]
theorem zhc:∀k,p.mZ k=true->p.jS p.tk=true/\∀g,g<k->0<g->∀c,c<p.cp->p.sn g c 1<=4294967295
 |0,h=>⟨h,λg b=>by omega⟩
 |k+1,h=>by
  obtain ⟨a,d⟩:=zoc p.cp h
  obtain ⟨e,f⟩:=zhc k a
  grind
theorem zod:∀k,p.jS k=true->∀i,i<k->p.tn i 5<=1/\p.tn i 7<=4294967295/\p.l6 i<=65535:=by intro x;induction x<;>grind [Pr.jS,zhb]
theorem q80 (h:p.okB=true):p.Low/\∀i,i<p.tk->p.l6 i<=65535:=by
 obtain ⟨b,c⟩:=zhc p.gp h
 have a:=zod p.tk b
 exact ⟨⟨λi hi=>(a i hi).1,λi hi=>(a i hi).2.1,c⟩,λi hi=>(a i hi).2.2⟩
theorem Bo (h:p.Low) (a:∀i,i<=p.tk->p.sV i=p.nM i):p.rH=p.jK:=by
 have e:bV p.tk p.uD=bV p.tk p.ni:=by
  unfold bV
  refine ae0 λi hi=>?_
  rw [aeS] at hi
  unfold Pr.uD Pr.ni
  rw [Bj (a i om),show decide (p.tn i 5=1)=decide (0<p.tn i 5) from decide_eq_decide.2 (by have:=h.t5 i hi;omega)]
 unfold Pr.rH Pr.jK
 rw [e]
end
section
variable {p:Pr} (h:p.Fit)
include h
theorem zhd (a:p.nx<=aC):p.ok0=true:=by
 unfold Pr.ok0
 have b:=h.cp2
 have c:=h.Ke
 have d:=wU h
 unfold aC at*
 rw [pW a,pW (show p.cp<=4611686018427387904 by omega),pW (show p.cr<=18446744073709551615 by omega),pW (show p.gp<=4611686018427387904 by omega)]
 rfl
theorem zhe (a:p.nx<=aC) (b:∀i,i<2*(p.gp-1)->p.gs.getD i 0<=aC):∀k,k<=p.gp->p.pV k=true
 |0,_=>zhd h a
 | k + 1, c => by
  rw [Pr.pV]
  split
  ·exact zhd h a
  ·rw [zhe a b k om,pW (b _ om),pW (b _ om)]
   rfl
end
section
variable {p:Pr}
theorem zoe (a:p.pV p.gp=true) (hc:∀i,i<p.cp->p.cl.getD i 0<=aC):∀k,k<=p.cp->p.zM k=true:=by intro x;induction x<;>grind [Pr.zM,pW]
theorem zof (a:p.zM p.cp=true) (hc:∀i,i<p.cp->p.cu.getD i 0<=aC):∀k,k<=p.cp->p.wQ k=true:=by intro x;induction x<;>grind [Pr.wQ,pW]
def zhf (h:p.Fit) (b:p.wQ p.cp=true) (a:p.Low) (ht:∀i,i<p.tk->p.tn i 0<=aC/\p.tn i 1<=aC/\p.tn i 2<=aC/\p.tn i 3<=aC) (hi:∀i,i<p.tk->p.l6 i<=65535):∀k,k<=p.tk->p.jS k=true
 |0,_=>by
  rw [Pr.jS,b,pW (by have:=h.tk;unfold aC;omega)];rfl
 |k+1,g=>by
  obtain ⟨c,d,e,f⟩:=ht k om
  have j:=jf h k 4
  have m:=jf h k 6
  rw [Pr.jS,zhf h b a ht hi k om,pW c,pW d,pW e,pW f,pW (show p.tn k 4<=18446744073709551615 by omega),pW (a.t5 k om),pW (show p.tn k 6<=18446744073709551615 by omega),pW (a.t7 k om),decide_eq_true (hi k om)]
  rfl
theorem zog (h:p.Fit) {b:Bool} (hb:b=true) {g:Nat} (a:0<g->∀c,c<p.cp->p.sn g c 1<=4294967295):∀k,k<=p.cp->p.l7 b g k=true:=by intro x;induction x<;>grind [Pr.l7,pW,wT]
def zhg (h:p.Fit) (a:p.jS p.tk=true) (b:p.Low):∀k,k<=p.gp->p.mZ k=true
 |0,_=>a
 |k+1,d=>zog h (zhg h a b k om) (λg0 c hc=>b.s1 k om g0 c hc) p.cp (abu _)
end
def Uq (x:Int):aX (Go.IntKind.i64.wrap x):=by rw [aeM];unfold aX;omega
def yD (x:Nat):aX (bQ x):=Uq _
def Fw {α:Type} {f:Nat->α} {q:α->Prop} (h:∀i,i<n->q (f i)):∀x∈bV n f,q x:=by
 intro x a
 obtain ⟨i,hi,rfl⟩:=ab7.1 a
 exact h i (aeS.1 hi)
section
variable {p:Pr} (h:p.Fit)
include h
theorem zhh (g:Nat):(p.iL g).Ok:=by
 unfold Pr.iL
 split
 ·exact ⟨by unfold aX;decide,by unfold aX;decide⟩
 ·exact ⟨yD _,yD _⟩
theorem zoh (g c:Nat):(p.rY g c).Ok:=by
 have a:=wT h g c 0
 have b:=wT h g c 2
 unfold Pr.rY
 split
 ·exact ⟨show 0<18446744073709551616 by decide,show 0<4294967296 by decide,a⟩
 ·exact ⟨a,ad1 _ de,b⟩
theorem Bp:aX (p.cp:Int):=by have:=h.cp2;unfold aX;omega
theorem Ol (l:List Nat):∀x∈l.map bQ,aX x:=by
 intro x a
 obtain ⟨y,_,rfl⟩:=ab7.1 a
 exact yD y
theorem rows_ok:∀l∈(bV p.gp λg=>(⟨none,0,p.row g⟩:Rw)).map Rw.l,∀x∈l,Sp.Ok x:=by
 intro l a
 obtain ⟨y,b,rfl⟩:=ab7.1 a
 obtain ⟨g,_,rfl⟩:=ab7.1 b
 exact Fw λc _=>zoh h g c
theorem zk4 (i:Nat):(p.uD i).Ok:=⟨Uq _,yD _,yD _,yD _,jf h i 4,jf h i 6,ad1 _ de⟩
theorem zk5 (i:Nat):(p.ni i).Ok:=⟨Uq _,yD _,yD _,yD _,jf h i 4,jf h i 6,ad1 _ de⟩
theorem zhi:p.rH.st.ay.Ok:=⟨Bp h,wU h,Fw λg _=>zhh h g,Ol h _,Ol h _,Fw λi _=>zk4 h i,rows_ok h⟩
theorem zhj:p.jK.st.ay.Ok:=⟨Bp h,wU h,Fw λg _=>zhh h g,Ol h _,Ol h _,Fw λi _=>zk5 h i,rows_ok h⟩
theorem Om (a:abo l=n) (b:n<=1000000):abo (l.map bQ)<=1000000:=by rw [abw];omega
theorem qzg:∀y∈bV p.gp λg=>(⟨none,0,p.row g⟩:Rw),abo y.l<=1000000:=Fw λg _=>by
 have:=h.cp2
 show abo (p.row g)<=1000000
 unfold Pr.row
 rw [zl]
 omega
theorem Ur (s:dF) (hs:s=p.rH\/s=p.jK):cK s.st:=by
 have a:=h.cp2
 have b:=h.Ke
 have c:=h.tk
 rcases hs with rfl|rfl
 ·exact ⟨by show abo (bV _ _)<=_;rw [zl];omega,Om h h.cl om,Om h h.cu om,by show abo (bV _ _)<=_;rw [zl];omega,by show abo (bV _ _)<=_;rw [zl];omega,qzg h⟩
 ·exact ⟨by show abo (bV _ _)<=_;rw [zl];omega,Om h h.cl om,Om h h.cu om,by show abo (bV _ _)<=_;rw [zl];omega,by show abo (bV _ _)<=_;rw [zl];omega,qzg h⟩
end
theorem q82 (h:p.Fit) (hk:dP p.jK=0) (v:p.Low):p.okB=true/\p.rH=p.jK:=by
 have D:=(A8 hk).1
 have w:=(A8 hk).2
 have o:=ER hk
 have e:aC=4611686018427387904:=rfl
 have big:∀{x:Nat} {n:Int},x<18446744073709551616->0<=bQ x->bQ x<=n->n<=4611686018427387904->x<=aC:=λ{x n} b c d q=>by
  rw [zk2 b c] at d;omega
 have I:abo p.jK.st.gs=p.gp:=zl _ _
 have J:abo p.jK.st.ts=p.tk:=zl _ _
 have y:abo p.jK.st.rs=p.gp:=zl _ _
 have z:∀g,g<p.gp->p.jK.st.gs.getD g Gr.zero=p.iL g:=λg A=>wP A
 have f:∀i,i<p.tk->p.jK.st.ts.getD i Tk.zero=p.ni i:=λi hi=>wP hi
 obtain ⟨K,L,_,s⟩:=mM o.cfg
 have B:p.nx<=aC:=big (Bn h) (by have:=D.1;show (0:Int)<=p.jK.next;omega) D.2 om
 have M:∀i,i<2*(p.gp-1)->p.gs.getD i 0<=aC:=λi hi=>by
  have A:i/2+1<p.gp:=by omega
  have b:=(qt s).2.2.2 (i/2+1) om
  have c:=M6 b om
  have d:=qI s (g:=i/2+1) om
  unfold fq at c
  rw [z _ A] at c d
  unfold Pr.iL at c d
  rw [if_neg om] at c d
  rw [adr] at c d
  dsimp only at c d
  rcases Nat.mod_two_eq_zero_or_one i with q|q
  ·rw [show i=2*(i/2) by omega]
   exact big (n:=256) (wR h _) c.1 (by have:=c.2;have:=h.Ke;show bQ _<=256;omega) om
  ·rw [show i=2*(i/2)+1 by omega]
   exact big (wR h _) (by have:=d.1;show 0<=bQ _;omega) d.2 om
 have m:∀(l:List Nat) (k:Nat),k<abo l->(l.map bQ).getD k 0=bQ (l.getD k 0):=λl k hk=>by
  grind
 have N:∀i,i<p.cp->p.cl.getD i 0<=aC:=λi hi=>by
  have t:=h.cl
  have b:=o.cls i (by show i<abo (p.cl.map bQ);rw [abw];omega)
  rw [show p.jK.st.cl.getD i 0=bQ (p.cl.getD i 0) from m p.cl i om] at b
  unfold iQ at b
  rw [decide_eq_true_eq] at b
  exact big (Kk h _) b.1 b.2 om
 have u:∀i,i<p.tk->_:=λi hi=>EO (o.tk i om)
 have r:∀i,i<p.tk->(1<=p.nM (i+1)/\p.nM (i+1)<=65535)/\p.tn i 1<=aC/\p.tn i 2<=aC/\p.tn i 3<=aC:=λi hi=>by
  have b:=(u i hi).2
  rw [f i hi] at b
  unfold eF mo at b
  simp only [abG,decide_eq_true_eq] at b
  obtain ⟨⟨O,P,Q,C,R,E⟩,⟨F,S⟩,_⟩:=b
  rw [lJ,y] at C
  have:=h.Ke
  have:=h.cp2
  refine ⟨⟨O,P⟩,big (n:=256) (jf h i 1) Q (by show bQ _<=256;have C:bQ (p.tn i 1)<p.gp:=C;omega) om,big (jf h i 2) (by have F:1<=bQ (p.tn i 2):=F;omega) S om,big (n:=64) (jf h i 3) R (by have E:bQ (p.tn i 3)<(p.cp:Int):=E;omega) om⟩
 have G:∀i,i<=p.tk->p.sV i=p.nM i:=λi hi=>Ki i λj H=>(r j om).1.2
 have T:∀i,i<p.tk->p.l6 i<=65535:=λi hi=>by rw [Bj (G i om)];exact (r i hi).1.2
 have U:∀i,i<p.tk->p.tn i 0<=aC:=λi hi=>by
  have b:=(u i hi).1
  have c:0<=p.nM i/\p.nM i<p.nM (i+1):=by
   rcases i with _|i
   ·have:=(r 0 hi).1.1
    exact ⟨Int.le_refl _,by show (0:Int)<_;omega⟩
   ·have d:=(r i om).1.1
    rw [adr,f i om,f (i+1) hi] at b
    rcases b with b|b
    ·omega
    ·exact ⟨by omega,b⟩
  have d:=qze (a:=p.nM i) (jf h i 0)
  have q:Go.IntKind.i64.wrap (p.nM i+bQ (p.tn i 0))=p.nM (i+1):=rfl
  grind [aK]
 have V:∀i,i<p.cp->p.cu.getD i 0<=aC:=λi hi=>by
  have W:=h.cu
  have t:i<abo p.jK.st.cu:=by show i<abo (p.cu.map bQ);rw [abw];omega
  unfold lu at w
  rw [abG] at w
  have b:=vV w.2 (i:=i) t
  rw [abG] at b
  have c:=b.1
  unfold fu at c
  have hz:p.jK.st.ay.cu.getD i 0=bQ (p.cu.getD i 0):=m p.cu i om
  rw [hz] at c
  rw [adD,decide_eq_true_eq] at c
  rcases c with c|c
  ·exact big (Bl h _) om (Int.le_of_eq c) om
  ·split at c
   ·rename_i j H
    obtain ⟨d,q⟩:=RG H
    have d:j<p.tk:=by have:j<abo p.jK.st.ts:=d;omega
    rw [show p.jK.st.ay.ts.getD j Tk.zero=p.ni j from f j d] at q
    have X:=(r j d).1
    have q:p.nM (j+1)=bQ (p.cu.getD i 0):=q
    exact big (n:=65535) (Bl h _) om om om
   ·cases c
 refine ⟨zhg h (zhf h (zof (zoe (zhe h B M p.gp (abu _)) N p.cp (abu _)) V p.cp (abu _)) v (λi hi=>⟨U i hi,(r i hi).2⟩) T p.tk (abu _)) v p.gp (abu _),Bo v G⟩
theorem q83 (hb:p.okB=true):p.rH=p.jK:=by grind [Kh,q80,Bo]
theorem zez {ys:List Nat} (a:∀x∈xs,x<18446744073709551616) (hy:∀x∈ys,x<18446744073709551616) (b:abo xs=abo ys) (h:xs.flatMap ak=ys.flatMap ak):xs=ys:=by
 have c:=MG xs [] a
 grind [MG]
theorem Us (i:∀z∈l,z<256) (h:fZ l= .ok p):15<=abo l/\abo l<=16777216/\p.Fit/\l=aY ([113,115,1]++p.nums.flatMap ak):=by
 unfold fZ at h
 split at h
 ·cases h
 rename_i d
 split at h
 ·cases h
 rename_i q
 split at h
 ·cases h
 rename_i m
 split at h
 ·cases h
 rename_i f
 split at h
 ·cases h
 rename_i g
 have f:l.getD 0 0=113/\l.getD 1 0=115:=afR f
 have g:l.getD 2 0=1:=afR g
 have hs:zn l=true:=by cases hq:zn l with|true=>rfl|false=>exact absurd hq m
 have j:abo (l.take (abo l-4))=abo l-4:=by rw [abx];omega
 obtain ⟨n,o⟩:=q8x om (λz hz=>i z (acG hz)) h
 refine ⟨by omega,by omega,n,?_⟩
 rw [<-o]
 have e:([113,115,1]:List Nat)=(l.take (abo l-4)).take 3:=by
  rw [List.take_take,show min 3 (abo l-4)=3 by omega]
  match l,d,f,g with
  |a::b::c::r,_,f,g=>
   grind
  |[],d,_,_=>exact absurd de d
  |[_],d,_,_=>exact absurd (by simp) d
  |[_,_],d,_,_=>exact absurd (by simp) d
 rw [e,ab8,XK i hs]
def ze0 {a:List Nat} (h:aY a=aY b):a=b:=by
 have c:=congrArg acW h
 rw [pY,pY] at c
 exact (adb h om).1
theorem q84 (d:∀z∈l,z<256) (h:fZ l= .ok p):(p.okB=true/\dP p.rH=0)↔(dP p.jK=0/\dz p.jK=l):=by
 obtain ⟨_,_,a,e⟩:=Us d h
 constructor
 ·grind [bR,wV,q80,q83,y9]
 ·rintro ⟨f,b⟩
  rw [y9 f] at b
  have c:=ze0 (b.trans e)
  unfold bR at c
  have g:=zez (qyi (zhj a) (Ur a _ (.inr rfl))) a.lt (by rw [qzf];exact Fv 7 (zO a).1) (List.append_cancel_left c)
  grind [wV,q82]
def oG (l:List Nat):Nat:=match fZ l with
 | .ok p=>if p.okB=true/\dP p.rH=0 then 0 else 347
 | .error k=>k
def wW:dF:=⟨0,⟨0,0,none,0,[],none,0,[],none,0,[],none,0,[],none,0,[]⟩⟩
def lM (l:List Nat):dF:=match fZ l with
 | .ok p=>if p.okB=true/\dP p.rH=0 then p.rH else wW
 | .error _=>wW
section
variable {l:List Nat} {p:Pr} {k:Nat}
def wX (h:fZ l= .error k):oG l=k/\lM l=wW:=by unfold oG lM;rw [h];exact ⟨rfl,rfl⟩
def Oo (h:fZ l= .ok p) (a:¬(p.okB=true/\dP p.rH=0)):oG l=347/\lM l=wW:=by unfold oG lM;rw [h];exact ⟨if_neg a,if_neg a⟩
def Ut (h:fZ l= .ok p) (a:p.okB=true/\dP p.rH=0):oG l=0/\lM l=p.rH:=by unfold oG lM;rw [h];exact ⟨if_pos a,if_pos a⟩
theorem q86 (b:∀z∈l,z<256) (h:fZ l= .ok p) (c:dP p.jK=0/\dz p.jK=l):oG l=0/\lM l=p.jK:=by
 have a:=(q84 b h).2 c
 rw [<-q83 a.1]
 exact Ut h a
end
section
variable {a b:List Nat} {p q:Pr} {k:Nat} {X Y:List jV} {i:Nat}
end
theorem Mem.DN (h:Mem W w []):Mem W w (jP wW.st):=((((h.nil 176 1).nil 232 8).nil 3 1).nil 3 1).nil 198 2
def qzh:gD wW.st:=⟨abu _,abu _,abu _,abu _,abu _,λy c=>by cases c⟩
def qty (s:dF):dM s s:=qN rfl (q1r _)
def Oq (w:aiM) (er:Nat) (s:dF) (r:aiQ) (c:aiM):Prop:=∃z:dF,r= .returned (.tuple #[.agg z.cells,.int .i64 (er:Int)])/\dM s z/\gD z.st/\Mem w c (jP z.st)
def Uu (h:er=k/\s=wW) (hr:r= .returned (.tuple #[.agg wW.cells,.int .i64 (k:Int)])) (c:Mem w W []):Oq w er s r W:=by
 obtain ⟨rfl,rfl⟩:=h
 exact ⟨wW,hr,qty _,qzh,c.DN⟩
def q87 {t z:dF} (h:er=0/\s=t) (hr:r= .returned (.tuple #[.agg z.cells,.int .i64 0])) (hz:dM t z) (hc:gD z.st) (c:Mem w W (jP z.st)):Oq w er s r W:=by
 obtain ⟨rfl,rfl⟩:=h
 exact ⟨z,hr,hz,hc,c⟩
def zhk {z:dF} (h:dM s z) (c:s.st.ay.Ok):z.st.ay.Ok:=by rw [Nl (Di h)];exact c
structure Loose (b:dF):Prop where
 nx:aX b.next
 ok:b.st.ay.Ok
 cp:0<=b.st.au
 cl:(abo b.st.cl:Int)=b.st.au
 cu:(abo b.st.cu:Int)=b.st.au
 g1:1<=abo b.st.gs
 g0:b.st.gs.getD 0 Gr.zero=⟨0,1⟩
 rs:abo b.st.rs=abo b.st.gs
 row:∀g,g<abo b.st.rs->((b.st.rs.getD g Rw.zero).l.length:Int)=b.st.au
 z0:∀c,c<(b.st.rs.getD 0 Rw.zero).l.length->((b.st.rs.getD 0 Rw.zero).l.getD c Sp.zero).v=0/\((b.st.rs.getD 0 Rw.zero).l.getD c Sp.zero).r=0
def BF {x y:Int} (a:aX x) (hy:aX y) (h:aK x=aK y):x=y:=by
 unfold aX at a hy
 unfold aK at h
 omega
def zlw {p:Int} {t u:Tk} (ht:t.Ok) (b:u.Ok) (h:kT p t=kT p u):t=u:=by
 unfold kT at h
 simp only [List.cons.injEq,and_true] at h
 obtain ⟨n,o,q,r,d,e,f,g⟩:=h
 have i:t.id=u.id:=by
  have c:=ht.id;have a:=b.id
  unfold aX at c a
  unfold aK at n
  omega
 have j:=BF ht.group b.group o
 have k:=BF ht.weight b.weight q
 have l:=BF ht.cpu b.cpu r
 have m:t.ready=u.ready:=by
  cases c:t.ready<;>cases a:u.ready<;>rw [c,a] at e<;>first|rfl|(exact absurd e de)
 cases t;cases u
 simp only at i j k l d m f g
 rw [Tk.mk.injEq]
 exact ⟨i,j,k,l,d,m,f,g⟩
def zhv {x y:Sp} (h1:x.v=y.v) (a:x.r=y.r) (b:x.floor=y.floor):x=y:=by
 cases x;cases y
 rw [Sp.mk.injEq]
 exact ⟨h1,a,b⟩
def q98 {a b:dF} (A:Loose a) (B:Loose b) (h:eX a=eX b):dM a b:=by
 have R:=A.cl;have S:=B.cl;have T:=A.cu;have U:=B.cu;have V:=A.rs;have W:=B.rs;have X:=A.cp;have Y:=B.cp;have Z:=A.g1;have gb:=B.g1
 rw [Df,Df] at h
 simp only [abv] at h
 obtain ⟨n,h⟩:=adb h rfl
 obtain ⟨z,h⟩:=adb h rfl
 simp only [aI,List.cons.injEq,and_true] at n z
 have E:a.next=b.next:=BF A.nx B.nx n
 obtain ⟨t,e2,e3⟩:=z
 have e1:a.st.au=b.st.au:=BF A.ok.au B.ok.au t
 obtain ⟨F,h⟩:=adb h (by show abo (dV _ _)=abo (dV _ _);rw [uq (m:=2) (λi=>rfl),uq (m:=2) (λi=>rfl),e3])
 obtain ⟨q,h⟩:=adb h (by show abo (aff _ _)=abo (aff _ _);rw [abw,abw];omega)
 obtain ⟨G,h⟩:=adb h (by show abo (aff _ _)=abo (aff _ _);rw [abw,abw];omega)
 have e7:abo a.st.ts=abo b.st.ts:=by
  have u:(abo a.st.ts::_)=(abo b.st.ts::_):=h
  injection u
 obtain ⟨u,H⟩:=adb h (by show abo (_::dV _ _)=abo (_::dV _ _);rw [abV,abV,uq (m:=8) (λi=>rfl),uq (m:=8) (λi=>rfl),e7])
 have I:a.st.gs=b.st.gs:=by
  refine K3 Gr.zero e3 λi hi=>?_
  rcases ach i with rfl|o
  ·exact A.g0.trans B.g0.symm
  ·have e:=D7 (f:=uR a.st.gs) (g:=uR b.st.gs) (abo a.st.gs-1) (λi hi=>rfl) (F.trans (by show dV _ _=_;rw [e3])) (i-1) om
   unfold uR at e
   rw [Nat.sub_add_cancel o] at e
   simp only [List.cons.injEq,and_true] at e
   have C:=A.ok.gs _ (qf Gr.zero hi)
   have D:=B.ok.gs _ (qf Gr.zero (show i<abo b.st.gs by omega))
   exact zop (BF C.parent D.parent e.1) (BF C.weight D.weight e.2)
 have mp:∀{l m:List Int},(∀x∈l,aX x)->(∀x∈m,aX x)->abo l=abo m->l.map aK=m.map aK->l=m:=λ{l m} J hm K L=>by
  refine K3 0 K λi hi=>BF (J _ (qf 0 hi)) (hm _ (qf 0 om)) ?_
  have q:(l.map aK)[i]?=(m.map aK)[i]?:=by rw [L]
  rw [acM,acM,getD_at 0 hi,getD_at 0 (show i<abo m by omega)] at q
  injection q
 have v:a.st.cl=b.st.cl:=mp A.ok.cl B.ok.cl om q
 have w:a.st.cu=b.st.cu:=mp A.ok.cu B.ok.cu om G
 have M:a.st.ts=b.st.ts:=by
  have k:(abo a.st.ts::dV (abo a.st.ts) λi=>kT (qq a.st.ts i) (a.st.ts.getD i Tk.zero))=(abo b.st.ts::dV (abo b.st.ts) λi=>kT (qq b.st.ts i) (b.st.ts.getD i Tk.zero)):=u
  injection k with _ k
  rw [<-e7] at k
  have e:∀i,i<abo a.st.ts->kT (qq a.st.ts i) (a.st.ts.getD i Tk.zero)=kT (qq b.st.ts i) (b.st.ts.getD i Tk.zero):=D7 (f:=λi=>kT (qq a.st.ts i) (a.st.ts.getD i Tk.zero)) (g:=λi=>kT (qq b.st.ts i) (b.st.ts.getD i Tk.zero)) (abo a.st.ts) (λi _=>rfl) k
  refine K3 Tk.zero e7 λi hi=>?_
  induction i using Nat.strongRecOn with
  | _ i N =>
   have O:qq b.st.ts i=qq a.st.ts i:=by
    unfold qq
    split
    ·rfl
    ·rw [N (i-1) om om]
   have d:=e i hi
   rw [O] at d
   exact zlw (A.ok.ts _ (qf Tk.zero hi)) (B.ok.ts _ (qf Tk.zero (show i<abo b.st.ts by omega))) d
 have P:jw a.st=jw b.st:=by
  refine K3 [] (by rw [wC,wC];omega) λg Q=>?_
  have j:g<abo a.st.rs:=by rwa [wC] at Q
  have y:g<abo b.st.rs:=by omega
  have r:∀g,g<abo a.st.rs->(a.st.rs.getD g Rw.zero).l.length=(b.st.rs.getD g Rw.zero).l.length:=λg h=>by have:=A.row g h;have:=B.row g om;omega
  have p:dV (abo a.st.rs) (λg=>kU g (a.st.rs.getD g Rw.zero).l)=dV (abo b.st.rs) (λg=>kU g (b.st.rs.getD g Rw.zero).l):=H
  rw [show abo b.st.rs=abo a.st.rs by omega] at p
  have e:kU g (a.st.rs.getD g Rw.zero).l=kU g (b.st.rs.getD g Rw.zero).l:=D7 (f:=λg=>kU g (a.st.rs.getD g Rw.zero).l) (g:=λg=>kU g (b.st.rs.getD g Rw.zero).l) (abo a.st.rs) (λi hi=>zfh i (r i hi)) p g j
  rw [A9 j,A9 y]
  refine K3 Sp.zero (r g j) λc hc=>?_
  unfold kU at e
  rw [<-r g j] at e
  have d:nI g ((a.st.rs.getD g Rw.zero).l.getD c Sp.zero)=nI g ((b.st.rs.getD g Rw.zero).l.getD c Sp.zero):=D7 (f:=λc=>nI g ((a.st.rs.getD g Rw.zero).l.getD c Sp.zero)) (g:=λc=>nI g ((b.st.rs.getD g Rw.zero).l.getD c Sp.zero)) _ (λc _=>qzw g _ _) e c hc
  rcases ach g with rfl|n
  ·have za:=A.z0 c hc
   have zb:=B.z0 c (by rw [<-r 0 j];exact hc)
   rw [CY om,CY om] at d
   injection d with d
   exact zhv om om d
  ·rw [AQ n,AQ n] at d
   simp only [aei,acZ,List.cons.injEq,and_true] at d
   exact zhv d.1 d.2.1 d.2.2
 exact ⟨E,e1,e2,I,v,w,M,P⟩
section
variable {s:dF}
def dN.loose (h:dN s):Loose s:=by
 have S:=h.sh.sh
 have k:=(A8 h.qY).1
 have e:=qt S.gs
 have i:abo s.st.rs=abo s.st.gs:=by rw [<-wC];exact S.sp
 have j:1<=abo s.st.gs:=e.1
 have b:abo s.st.ay.sp=abo s.st.rs:=wC _
 have a:∀g,g<abo s.st.rs->((s.st.rs.getD g Rw.zero).l.length:Int)=s.st.au:=λg f=>by rw [<-A9 f];exact S.rows g (by rw [b];exact f)
 refine ⟨by unfold aX;omega,h.ok,by have m:1<=s.st.au:=S.au.1;omega,S.cl,S.cu,j,e.2.2.1,i,a,λc hc=>?_⟩
 have n:=a 0 om
 have d:=S.spots 0 c (by rw [b];omega) (by show (c:Int)<s.st.au;omega)
 unfold bH.spot at d
 rw [show s.st.ay.sp.getD 0 []=_ from A9 (show 0<abo s.st.rs by omega)] at d
 unfold eZ at d
 rw [abG,adD,decide_eq_true_eq,bne_iff_ne] at d
 exact d.2.resolve_left om
def VO (h:dN s):(bG s).Fit:=by
 have a:=q97 (tail:=[]) h
 rw [if_pos rfl,abM] at a
 exact (q8x (by have:=h.len;rw [pY] at this;omega) (Nj s) a).1
def zlx (h:dN s):(bG s).Low:=by
 have F:=VO h
 have S:=h.sh.sh
 have L:=h.loose
 have ht:=Oi F
 have o:∀i,i<abo s.st.ts->[(bG s).tn i 0,(bG s).tn i 1,(bG s).tn i 2,(bG s).tn i 3,(bG s).tn i 4,(bG s).tn i 5,(bG s).tn i 6,(bG s).tn i 7]=kT (qq s.st.ts i) (s.st.ts.getD i Tk.zero):=
  D7 (f:=λi=>[(bG s).tn i 0,(bG s).tn i 1,(bG s).tn i 2,(bG s).tn i 3,(bG s).tn i 4,(bG s).tn i 5,(bG s).tn i 6,(bG s).tn i 7]) (g:=λi=>kT (qq s.st.ts i) (s.st.ts.getD i Tk.zero)) (abo s.st.ts) (λi _=>rfl) ht.symm
 have e:=Oj F
 have hc:(bG s).cp=aK s.st.au:=rfl
 have w:1<=s.st.au/\s.st.au<=64:=S.au
 have tc:((aK s.st.au:Nat):Int)=s.st.au:=by unfold aK;omega
 refine ⟨λi hi=>?_,λi hi=>?_,λg t p c k=>?_⟩
 ·have a:=o i hi
  unfold kT at a
  simp only [List.cons.injEq,and_true] at a
  rw [a.2.2.2.2.2.1]
  split<;>decide
 ·have a:=o i hi
  unfold kT at a
  simp only [List.cons.injEq,and_true] at a
  rw [a.2.2.2.2.2.2.2]
  have b:(s.st.ts.getD i Tk.zero).r<4294967296:=(h.ok.ts _ (qf Tk.zero (show i<abo s.st.ts from hi))).r
  show (s.st.ts.getD i Tk.zero).r<=4294967295
  omega
 ·have d:g<abo s.st.rs:=by rw [L.rs];exact t
  have q:=L.row g d
  have e1:(bG s).gp=abo s.st.rs:=L.rs.symm
  rw [e1] at e
  have j:∀i,i<abo s.st.rs->abo (dV (bG s).cp λc=>if i=0 then [(bG s).sn i c 0] else [(bG s).sn i c 0,(bG s).sn i c 1,(bG s).sn i c 2])=abo (kU i (s.st.rs.getD i Rw.zero).l):=λi hi=>by
   have u:=L.row i hi
   unfold kU
   rcases ach i with n|n
   ·rw [uq (m:=1) (λc=>by rw [if_pos n];rfl),uq (m:=1) (λc=>by rw [CY om];rfl)];omega
   ·rw [uq (m:=3) (λc=>by rw [if_neg om];rfl),uq (m:=3) (λc=>by rw [AQ n];rfl)];omega
  have a:(dV (bG s).cp λc=>if g=0 then [(bG s).sn g c 0] else [(bG s).sn g c 0,(bG s).sn g c 1,(bG s).sn g c 2])=kU g (s.st.rs.getD g Rw.zero).l:=
   D7 (f:=λg=>dV (bG s).cp λc=>if g=0 then [(bG s).sn g c 0] else [(bG s).sn g c 0,(bG s).sn g c 1,(bG s).sn g c 2]) (g:=λg=>kU g (s.st.rs.getD g Rw.zero).l) (abo s.st.rs) j e.symm g d
  unfold kU at a
  rw [show (s.st.rs.getD g Rw.zero).l.length=(bG s).cp by rw [hc];omega] at a
  have b:(if g=0 then [(bG s).sn g c 0] else [(bG s).sn g c 0,(bG s).sn g c 1,(bG s).sn g c 2])=nI g ((s.st.rs.getD g Rw.zero).l.getD c Sp.zero):=
   D7 (f:=λc=>if g=0 then [(bG s).sn g c 0] else [(bG s).sn g c 0,(bG s).sn g c 1,(bG s).sn g c 2]) (g:=λc=>nI g ((s.st.rs.getD g Rw.zero).l.getD c Sp.zero)) (bG s).cp (λc _=>by rw [if_neg om,AQ p];rfl) a c k
  rw [if_neg om,AQ p] at b
  simp only [aei,acZ,List.cons.injEq,and_true] at b
  rw [b.2.1]
  have v:=(h.ok.sp (s.st.rs.getD g Rw.zero).l (ac5 (qf Rw.zero d)) _ (qf Sp.zero (show c<(s.st.rs.getD g Rw.zero).l.length by omega))).r
  omega
def zou (h:dN s):Loose (bG s).jK:=by
 have F:=VO h
 have g1:1<=(bG s).gp:=F.Ul
 refine ⟨yD _,zhj F,by show (0:Int)<=((bG s).cp:Int);omega,by show (abo ((bG s).cl.map bQ):Int)=_;rw [abw,F.cl];rfl,by show (abo ((bG s).cu.map bQ):Int)=_;rw [abw,F.cu];rfl,by show 1<=abo (bV (bG s).gp (bG s).iL);rw [zl];exact g1,?_,?_,λg b=>?_,λc hc=>?_⟩
 ·show (bV (bG s).gp (bG s).iL).getD 0 Gr.zero=_
  rw [wP om];rfl
 ·show abo (bV _ _)=abo (bV _ _);rw [zl,zl]
 ·have a:g<(bG s).gp:=by have d:g<abo (bV (bG s).gp λg=>(⟨none,0,(bG s).row g⟩:Rw)):=b;rwa [zl] at d
  show (((bV (bG s).gp λg=>(⟨none,0,(bG s).row g⟩:Rw)).getD g Rw.zero).l.length:Int)=((bG s).cp:Int)
  rw [wP a]
  show (abo ((bG s).row g):Int)=_
  unfold Pr.row
  rw [zl]
 ·have e:((bG s).jK.st.rs.getD 0 Rw.zero).l=(bG s).row 0:=by
   show ((bV (bG s).gp λg=>(⟨none,0,(bG s).row g⟩:Rw)).getD 0 Rw.zero).l=_
   rw [wP om]
  rw [e] at hc⊢
  unfold Pr.row at hc⊢
  rw [zl] at hc
  rw [wP hc]
  exact ⟨rfl,rfl⟩
def zov (h:dN s):oG (aY (bR s))=0/\dM s (lM (aY (bR s))):=by
 have F:=VO h
 have c:eX (bG s).jK=eX s:=((wV F).2 (zlx h)).trans (q96 s)
 have a:dM s (bG s).jK:=q98 h.loose (zou h) c.symm
 have b:=q86 (l:=aY (bR s)) (Mk (Nj s)) (zlv h (by have:=h.len;omega)) ⟨by rw [Iz a];exact h.qY,by rw [q6z a,y9 h.qY]⟩
 exact ⟨b.1,by rw [b.2];exact a⟩
end
structure Pl where
 nx:Nat
 sn:Nat
 st:Nat
 en:Nat
deriving DecidableEq
def Pl.zero:Pl:=⟨0,0,0,0⟩
def Pl.cells (p:Pl):Array aiN:= #[.int .i64 (p.nx:Int),.int .i64 (p.sn:Int),.int .i64 (p.st:Int),.int .i64 (p.en:Int)]
def iJ (p:Pl):List aiN:=[.int .i64 (p.nx:Int),.int .i64 (p.sn:Int),.int .i64 (p.st:Int),.int .i64 (p.en:Int)]
def rZ (p:Pl):abo (iJ p)=4:=rfl
def eu (b:List Nat) (p m:Nat):Nat:=aA m (b.drop p)
def bI (b:List Nat) (p:Nat):Nat:=p+(aD (b.drop p)).2.1
def fO (b:List Nat) (p m:Nat):Bool:=bn m (b.drop p)
section
variable {b:List Nat} {p m k last sum q s a:Nat} {l:List Pl}
def Uv:eu b p m<=m:=rD _ _
def Uw:p<=bI b p:=adC _ _
theorem wY (h:p<=abo b):bI b p<=abo b:=by grind [bI,xJ]
theorem Ot (hb:∀x∈b,x<256) (c:p<=abo b) (h:fO b p m=true):b.take (bI b p)=b.take p++ak (eu b p m):=by
 obtain ⟨d,e⟩:=of_decide_eq_true h
 grind [bI,eu,aA,aD,QD]
def uF (b:List Nat) (p:Nat):Bool:=fO b p 4611686018427387904&& (fO b (bI b p) 16777216&&fO b (bI b (bI b p)) 16777216)
def rowP (b:List Nat) (p:Nat):Nat:=bI b (bI b (bI b p))
def lN (b:List Nat) (p:Nat):Nat:=eu b p 4611686018427387904
def lQ (b:List Nat) (p:Nat):Nat:=eu b (bI b p) 16777216
def nk (b:List Nat) (p:Nat):Nat:=eu b (bI b (bI b p)) 16777216
def zk6 (h:p<=abo b):rowP b p<=abo b:=wY (wY (wY h))
def kF (b:List Nat):Nat->Nat->Nat->Nat->Option (List Pl×Nat×Nat)
 |0,p,_,sum=>some ([],p,sum)
 | k + 1, p, last, sum => if uF b p = true /\ last <= lN b p then
   (kF b k (rowP b p) (lN b p) (sum+lQ b p+nk b p)).map λr=>(⟨lN b p,sum,sum+lQ b p,sum+lQ b p+nk b p⟩::r.1,r.2)
  else none
def kX (b:List Nat) (ok:Bool) (k p last sum:Nat):Option (List Pl×Nat×Nat):=if ok=true then kF b k p last sum else none
theorem q88:kX b false k p last sum=none:=rfl
theorem Km:kX b true k p last sum=kF b k p last sum:=rfl
def Pl.up (a:Nat) (x:Pl):Pl:=⟨x.nx,x.sn+a,x.st+a,x.en+a⟩
def dn (b:List Nat):List Pl×Nat:=
 if 16777216<abo b then ([],3)
 else if ¬(b.take 3=[113,97,1]) then ([],410)
 else match kX b (fO b 3 1024) (eu b 3 1024) (bI b 3) 0 0 with
  |none=>([],410)
  |some (l,p,s)=>if p+4<=abo b/\zn (b.take (p+4))=true/\p+4+s=abo b then (l.map (Pl.up (p+4)),0) else ([],410)
def ze1 (h:16777216<abo b):dn b=([],3):=by unfold dn;rw [if_pos h]
def qzj (h:¬16777216<abo b) (c:¬(b.take 3=[113,97,1])):dn b=([],410):=by unfold dn;rw [if_neg h,if_pos c]
def Ux (h:¬16777216<abo b) (c:b.take 3=[113,97,1]) (d:kX b (fO b 3 1024) (eu b 3 1024) (bI b 3) 0 0=none):dn b=([],410):=by unfold dn;rw [if_neg h,if_neg (λx=>x c),d]
theorem Uy (h:¬16777216<abo b) (c:b.take 3=[113,97,1]) (d:kX b (fO b 3 1024) (eu b 3 1024) (bI b 3) 0 0=some (l,p,s)) (e:¬(p+4<=abo b/\zn (b.take (p+4))=true/\p+4+s=abo b)):dn b=([],410):=by grind [dn]
theorem zhl (h:¬16777216<abo b) (c:b.take 3=[113,97,1]) (d:kX b (fO b 3 1024) (eu b 3 1024) (bI b 3) 0 0=some (l,p,s)) (e:p+4<=abo b/\zn (b.take (p+4))=true/\p+4+s=abo b):dn b=(l.map (Pl.up (p+4)),0):=by grind [dn]
def j5:Nat->Nat->List Pl->Nat->Prop
 |_,sum,[],s=>sum=s
 |last,sum,x::t,s=>(x.sn=sum/\x.sn<=x.st/\x.st<=x.en/\last<=x.nx/\x.nx<=4611686018427387904)/\j5 x.nx x.en t s
theorem j5.le:∀{l:List Pl} {last sum s:Nat},j5 last sum l s->sum<=s
 |[],_,_,_,h=>Nat.le_of_eq h
 |x::t,_,_,_,h=>by have:=j5.le h.2;have:=h.1;omega
theorem j5.mem:∀{l:List Pl} {last sum s:Nat},j5 last sum l s->∀x∈l,sum<=x.sn/\x.sn<=x.st/\x.st<=x.en/\x.en<=s/\x.nx<=4611686018427387904
 |[],_,_,_,_=>λx c=>by cases c
 |y::t,_,_,_,h=>λx c=>by
  have d:=h.1
  have e:=j5.le h.2
  rcases abY.1 c with rfl|c
  ·omega
  ·have:=j5.mem h.2 x c;omega
def zP (x:Pl):List Nat:=[x.nx,x.st-x.sn,x.en-x.st]
theorem qo1 (hb:∀x∈b,x<256):∀(k p last sum:Nat) {l:List Pl} {q s:Nat},p<=abo b->kF b k p last sum=some (l,q,s)->abo l=k/\j5 last sum l s/\p<=q/\q<=abo b/\b.take q=b.take p++(l.flatMap zP).flatMap ak
 |0,p,last,sum,l,q,s,c,h=>by
  have h:some (([]:List Pl),p,sum)=some (l,q,s):=h
  injection h with h;injection h with g h;injection h with d e
  subst g d e
  exact ⟨rfl,rfl,abu _,c,by simp⟩
 | k + 1, p, last, sum, l, q, s, c, h => by
  rw [kF] at h
  split at h
  ·rename_i hc
   obtain ⟨f,j⟩:=hc
   obtain ⟨⟨z,A,B⟩,g,d⟩:=Option.map_eq_some_iff.1 h
   injection d with d e;injection e with e i
   dsimp only at d e i
   subst d e i
   obtain ⟨n,o,r,t,u⟩:=qo1 hb k _ _ _ (zk6 c) g
   unfold uF at f
   rw [abG,abG] at f
   have v:=Ot hb c f.1
   have w:=Ot hb (wY c) f.2.1
   have y:=Ot hb (wY (wY c)) f.2.2
   refine ⟨by rw [abV,n],⟨⟨rfl,adC _ _,adC _ _,j,Uv⟩,o⟩,?_,t,?_⟩
   ·exact ada (ada Uw (ada Uw Uw)) r
   ·rw [u]
    show b.take (bI b (bI b (bI b p)))++_=_
    rw [y,w,v,abR]
    unfold zP lN lQ nk
    simp_all
  ·cases h
structure wZ (b:List Nat) (L:List Pl):Prop where
 form:∃(l:List Pl) (p s:Nat),L=l.map (Pl.up (p+4))/\j5 0 0 l s/\p+4+s=abo b/\abo l<=1024/\b.take (p+4)=aY ([113,97,1]++(abo l::l.flatMap zP).flatMap ak)
 few:abo b<=16777216
theorem Uz (hb:∀x∈b,x<256) {L:List Pl} (h:dn b=(L,0)):wZ b L:=by
 unfold dn at h
 split at h
 ·injection h with _ h;cases h
 ·rename_i d
  split at h
  ·injection h with _ h;cases h
  ·rename_i c
   have c:b.take 3=[113,97,1]:=adu.1 c
   split at h
   ·injection h with _ h;cases h
   ·rename_i l p s hi
    split at h
    ·rename_i hc
     obtain ⟨r,g,i⟩:=hc
     injection h with h _
     have e:3<=abo b:=by
      grind
     have f:fO b 3 1024=true:=by
      grind [q88,fO]
     rw [f,Km] at hi
     obtain ⟨j,n,u,v,w⟩:=qo1 hb _ _ _ _ (wY e) hi
     have t:=Ot hb e f
     refine ⟨⟨l,p,s,h.symm,n,i,by rw [j];exact Uv,?_⟩,by omega⟩
     have y:=XK (l:=b.take (p+4)) (λx o=>hb x (acG o)) g
     grind
    ·injection h with _ h;cases h
end
def dD (b:List Nat) (i j:Nat):List Nat:=(b.take j).drop i
theorem Fx {i j:Nat} (h:j<=abo b):abo (dD b i j)=j-i:=by grind [dD]
def Ou (h:∀x∈b,x<256) (i j:Nat):∀x∈dD b i j,x<256:=λx c=>h x (acG (abU c))
def dI (b:List Nat) (x:Pl):Nat:=
 if oG (dD b x.sn x.st)≠0 then oG (dD b x.sn x.st)
 else if (lM (dD b x.sn x.st)).next≠(x.nx:Int) then 412
 else (readAll (dD b x.st x.en)).2
def zk7 {x:Pl} (h:oG (dD b x.sn x.st)≠0):dI b x=oG (dD b x.sn x.st):=by unfold dI;rw [if_pos h]
def zk8 {x:Pl} (h:oG (dD b x.sn x.st)=0) (c:(lM (dD b x.sn x.st)).next≠(x.nx:Int)):dI b x=412:=by unfold dI;rw [if_neg (λn=>n h),if_pos c]
def UA {x:Pl} (h:oG (dD b x.sn x.st)=0) (c:(lM (dD b x.sn x.st)).next=(x.nx:Int)):dI b x=(readAll (dD b x.st x.en)).2:=by unfold dI;rw [if_neg (λn=>n h),if_neg (λn=>n c)]
def lS (b:List Nat):List Pl->Nat->Option (Nat×Nat)
 |[],_=>none
 |x::t,i=>if dI b x≠0 then some (i,dI b x) else lS b t (i+1)
def jT (b:List Nat):List Pl->Nat->List Nat
 |[],_=>[]
 |x::t,i=>if dI b x=0 then i::jT b t (i+1) else jT b t (i+1)
structure Pv where
 s:dF
 bs:List Bk
def Pv.zero:Pv:=⟨wW,[]⟩
def lT:List Pv->Int->Nat->Int×Nat
 |[],_,_=>(-1,0)
 |x::t,last,i=>if dP x.s≠0 then ((i:Int),dP x.s) else if fV x.bs≠0 then ((i:Int),fV x.bs) else if x.s.next<last then ((i:Int),411) else lT t x.s.next (i+1)
def pX (l:List Pv):Int×Nat:=if 1024<abo l then (-1,5) else lT l 0 0
def jL (x:Pv):List Nat:=[aK x.s.next,abo (dz x.s),(q9 x.bs).1.length]
def l8 (l:List Pv) (i:Nat):List Nat:=abo l::(l.take i).flatMap jL
def qV (d:List Nat×Bool) (x:Pv):List Nat×Bool:=
 if (d.2||decide ((q9 x.bs).2≠0)||decide (16777216<abo d.1+abo (dz x.s)+(q9 x.bs).1.length))=true then (d.1,true) else (d.1++dz x.s++(q9 x.bs).1,false)
def stA (l:List Pv):Nat->List Nat×Bool
 |0=>([],false)
 |i+1=>qV (stA l i) (l.getD i Pv.zero)
def headA (l:List Pv):List Nat:=aY ([113,97,1]++(l8 l (abo l)).flatMap ak)
def nZ (l:List Pv):List Nat×Nat:=
 if (pX l).2≠0 then ([],(pX l).2)
 else if (stA l (abo l)).2=true\/16777216<abo (headA l)+(stA l (abo l)).1.length then ([],3)
 else (headA l++(stA l (abo l)).1,0)
theorem zoi (d:∀z∈l,z<256) (h:oG l=0):dP (lM l)=0/\dz (lM l)=l:=by
 cases ho:fZ l with
 |error k=>
  rw [(wX ho).1] at h
  have:=Uj ho
  omega
 | ok p =>
  by_cases c:p.okB=true/\dP p.rH=0
  ·grind [q84,q86]
  ·rw [(Oo ho c).1] at h
   cases h
section
variable {b:List Nat} {L:List Pl} {l:List Pv} {a:Nat}
def qW (a:Nat) (L:List Pl) (i:Nat):Nat:=match i with
 |0=>a
 |i+1=>(L.getD i Pl.zero).en
theorem j5.at:∀{l:List Pl} {last c s i:Nat},j5 last c l s->i<abo l->(l.getD i Pl.zero).sn=qW c l i/\(0<i->(l.getD (i-1) Pl.zero).nx<=(l.getD i Pl.zero).nx)/\(i=0->last<=(l.getD i Pl.zero).nx)
 |x::t,last,c,s,0,h,_=>⟨h.1.1,λh=>absurd h (Nat.lt_irrefl 0),λ_=>h.1.2.2.2.1⟩
 | x :: t, last, c, s, i + 1, h, hi => by
  have hi:i<abo t:=adU hi
  obtain ⟨d,e,f⟩:=j5.at h.2 hi
  refine ⟨?_,λ_=>?_,λh=>absurd h (agW i)⟩
  ·show (t.getD i Pl.zero).sn=_
   rw [d]
   cases i with
   |zero=>rfl
   |succ i=>rfl
  ·grind
def j5.last:∀{l:List Pl} {last c s:Nat},j5 last c l s->qW c l (abo l)=s
 |[],_,_,_,h=>h
 |x::t,last,c,s,h=>by
  have d:=j5.last h.2
  rw [<-d]
  cases t with
  |nil=>rfl
  |cons y t=>rfl
theorem Fy (h:i<abo L):(L.map (Pl.up a)).getD i Pl.zero=(L.getD i Pl.zero).up a:=by grind
def q89 {s i:Nat} (h:i<=abo L):qW (s+a) (L.map (Pl.up a)) i=qW s L i+a:=by
 cases i with
 |zero=>rfl
 |succ i=>show ((L.map (Pl.up a)).getD i Pl.zero).en=_;rw [Fy om];rfl
theorem zoj (x:Pl):zP (x.up a)=zP x:=by grind [Pl.up,zP]
structure zQ (b:List Nat) (L:List Pl) (a:Nat):Prop where
 sn:∀i,i<abo L->(L.getD i Pl.zero).sn=qW a L i/\(L.getD i Pl.zero).sn<=(L.getD i Pl.zero).st/\(L.getD i Pl.zero).st<=(L.getD i Pl.zero).en/\(L.getD i Pl.zero).en<=abo b/\(L.getD i Pl.zero).nx<=4611686018427387904
 nx:∀i,0<i->i<abo L->(L.getD (i-1) Pl.zero).nx<=(L.getD i Pl.zero).nx
 low:a<=abo b
 last:qW a L (abo L)=abo b
 few:abo L<=1024
 head:b.take a=aY ([113,97,1]++(abo L::L.flatMap zP).flatMap ak)
theorem wZ.at (h:wZ b L):∃a,zQ b L a:=by
 obtain ⟨l,p,s,rfl,hc,m,e,g⟩:=h.form
 have c:abo (l.map (Pl.up (p+4)))=abo l:=abw ..
 refine ⟨p+4,λi hi=>?_,λi j hi=>?_,by omega,?_,by rw [c];exact e,?_⟩
 ·rw [c] at hi
  have n:=hc.at hi
  have o:=hc.mem _ (qf Pl.zero hi)
  have d:=q89 (a:=p+4) (s:=0) (L:=l) (i:=i) om
  grind [Pl.up,Fy]
 ·rw [c] at hi
  rw [Fy hi,Fy om]
  exact (hc.at hi).2.1 j
 ·have d:=q89 (a:=p+4) (s:=0) (L:=l) (i:=abo l) (abu _)
  rw [Nat.zero_add] at d
  rw [c,d,hc.last]
  omega
 ·rw [c,g]
  have k:(l.map (Pl.up (p+4))).flatMap zP=l.flatMap zP:=by
   rw [agO]
   exact congrArg (λf=>l.flatMap f) (funext λx=>zoj x)
  rw [k]
end
structure Pm where
 z:dF
 A:aiW
 c:Nat
 q:List Hb
def Pm.zero:Pm:=⟨wW,none,0,[]⟩
def Pm.v (p:Pm):Pv:=⟨p.z,p.q.map ac2⟩
def Pm.cells (p:Pm):Array aiN:= #[.int .i64 p.z.next,.int .i64 p.z.st.au,.int .u64 (p.z.st.aj:Int),.slice p.z.st.gA (abo p.z.st.gs) p.z.st.gc,.slice p.z.st.lA (abo p.z.st.cl) p.z.st.lc,.slice p.z.st.uA (abo p.z.st.cu) p.z.st.uc,.slice p.z.st.tA (abo p.z.st.ts) p.z.st.tc,.slice p.z.st.sA (abo p.z.st.rs) p.z.st.sc,.slice p.A (abo p.q) p.c]
def gQ (p:Pm):List aiN:=p.cells.toList
def Ov (p:Pm):abo (gQ p)=9:=rfl
structure gq (w:aiM) (p:Pm):Prop where
 st:fA w p.z.st
 bl:Rd w w.heap.size 5 p.A (abo p.q) (p.q.flatMap hbL)
 ev:oQ w p.q
theorem gq.old {p:Pm} (h:gq W p) (a:Mem W w fs):gq w p:=⟨h.st.old a,a.old h.bl,h.ev.old a⟩
structure fB (p:Pm):Prop where
 ok:p.z.st.ay.Ok
 few:cK p.z.st
 cap:gD p.z.st
 nx:aX p.z.next
 Ow:∀h∈p.q,h.b.Ok
 UC:∀h∈p.q,abo h.b.evs<=1000000
 len:abo p.q<=1000000
 pc:abo p.q<=p.c
def iK (p:Pm):List aiX:=jP p.z.st++(.row (.slice p.A (abo p.q) p.c) (abo p.q) (p.q.flatMap hbL) 85 5::iU 73 p.q)
def bY (l:List Pm):List aiX:=l.flatMap iK
section
variable {W w w':aiM} {F T:List aiX} {p:Pm} {l:List Pm}
theorem Mem.zR (h:Mem W w F) (hs:∀f∈iK p,f∈F):gq w p:=
 ⟨h.Dh λf a=>hs f (adQ _ a),h.kg (hs _ (acP _ (acj ..))),h.QV λf a=>hs f (acP _ (ab5 _ a))⟩
theorem Mem.UD (h:Mem W w F) (hs:∀f∈bY l,f∈F):∀p∈l,gq w p:=λp a=>h.zR λf b=>hs f (acV.2 ⟨p,a,b⟩)
def qtz:bY (l++[p])=bY l++iK p:=by unfold bY;rw [ab1];simp
end
def cO:SI abp 53 9:=⟨by kernel_rfl,by kernel_rfl⟩
def ny:EI abp 24 53 (.agg #[.int .i64 0,.int .i64 0,.int .u64 0,.slice none 0 0,.slice none 0 0,.slice none 0 0,.slice none 0 0,.slice none 0 0,.slice none 0 0]) 9 168:=⟨by kernel_rfl,by kernel_rfl,rfl,by omega⟩
def kY:SI abp 57 4:=⟨by kernel_rfl,by kernel_rfl⟩
def Bq:EI abp 35 57 (.agg #[.int .i64 0,.int .i64 0,.int .i64 0,.int .i64 0]) 4 32:=⟨by kernel_rfl,by kernel_rfl,rfl,by omega⟩
def zk9:SI abp 131 5:=⟨by kernel_rfl,by kernel_rfl⟩
def Br:SI abp 126 10:=⟨by kernel_rfl,by kernel_rfl⟩
def zS (p:Pm):∀v∈p.cells.toList,v.oneCell'=true:=by
 intro v a
 simp only [Pm.cells,abY,acv,or_false] at a
 rcases a with rfl|rfl|rfl|rfl|rfl|rfl|rfl|rfl|rfl<;>rfl
def UE (p:Pl):∀v∈p.cells.toList,v.oneCell'=true:=by
 intro v a
 simp only [Pl.cells,abY,acv,or_false] at a
 rcases a with rfl|rfl|rfl|rfl<;>rfl
section
variable {l:List Pm} {i:Nat} {last:Int}
def zla (h:i<abo l):lT ((l.map Pm.v).drop i) last i=if dP (l.getD i Pm.zero).z≠0 then ((i:Int),dP (l.getD i Pm.zero).z) else if fV ((l.getD i Pm.zero).q.map ac2)≠0 then ((i:Int),fV ((l.getD i Pm.zero).q.map ac2)) else if (l.getD i Pm.zero).z.next<last then ((i:Int),411) else lT ((l.map Pm.v).drop (i+1)) (l.getD i Pm.zero).z.next (i+1):=by
 rw [List.drop_eq_getElem_cons (by rw [abw];exact h),lT,List.getElem_map,abt,abr h]
 rfl
def q9b:lT ((l.map Pm.v).drop (abo l)) last i=(-1,0):=by
 rw [ac6 (by rw [abw];exact abu _)]
 rfl
def Bt {R:Int×Nat} {v n:Int} (h:R=(v,m)) (a:n=(m:Int)) (hb:Below w.heap.size w w'):Is w (.tuple #[.int .i64 R.1,.int .i64 (R.2:Int)]) (.returned (.tuple #[.int .i64 v,.int .i64 n])) w':=by
 subst h a
 exact ⟨rfl,hb⟩
end
theorem qzk (s:dF):abo (dz s)<=6000007:=by grind [dP,ER,RZ,q6s,y9]
section
variable {l:List Pm} {lv:List Pv} {i:Nat} {x:Pm} {d wb:List Nat} {lg:Bool} {we ce:Nat} {ci:Int}
theorem UF (hi:i<abo l) (c:l.getD i Pm.zero=x) (a:stA (l.map Pm.v) i=(d,lg)) (e:q9 (x.q.map ac2)=(wb,we)) (h:lg=true\/we≠0\/16777216<abo d+abo (dz x.z)+abo wb):stA (l.map Pm.v) (i+1)=(d,true):=by grind [Pm.v,Pm.zero,Pv.zero,getD_at,stA,qV]
theorem zok (hi:i<abo l) (c:l.getD i Pm.zero=x) (a:stA (l.map Pm.v) i=(d,lg)) (e:q9 (x.q.map ac2)=(wb,we)) (h:¬(lg=true\/we≠0\/16777216<abo d+abo (dz x.z)+abo wb)):stA (l.map Pm.v) (i+1)=(d++dz x.z++wb,false):=by grind [Pm.v,Pm.zero,Pv.zero,getD_at,stA,qV]
def dB (l:List Pm) (i:Nat):List Nat:=abo l::(l.take i).flatMap λp=>jL p.v
theorem q2x (hi:i<abo l) (a:l.getD i Pm.zero=x) (c:q9 (x.q.map ac2)=(wb,we)):dB l (i+1)=dB l i++[aK x.z.next,abo (dz x.z),abo wb]:=by grind [Pm.v,Pm.zero,dB,dz,jL,qc6,aK]
theorem q9c:dB l (abo l)=l8 (l.map Pm.v) (abo (l.map Pm.v)):=by grind [dB,l8,agO,abw,adv]
theorem Kn:∀i,i<=abo l->abo (dB l i)=1+3*i:=λi h=>by
 unfold dB
 rw [abV]
 have key:∀m:List Pm,abo (m.flatMap λp=>jL p.v)=3*abo m:=λm=>by
  induction m with
  |nil=>rfl
  |cons a t b=>rw [abR,abq,b,abV];show 3+_=_;omega
 grind
theorem q9d:0<abo ((dB l i).flatMap ak):=by grind [dB,GU]
theorem ze2 (h:abo l<=1000000):∀i,∀x∈dB l i,x<18446744073709551616:=λi x c=>by
 rcases abY.1 c with rfl|c
 ·omega
 ·obtain ⟨p,_,a⟩:=acV.1 c
  have e:=qzk p.z
  have f:=MZ (p.q.map ac2)
  rcases abY.1 a with rfl|a
  ·exact CX _
  ·rcases abY.1 a with rfl|a
   ·show abo (dz p.z)<_;omega
   ·grind [q9]
def q2y (h:pX lv=(ci,ce)) (a:ce≠0):nZ lv=([],ce):=by unfold nZ;rw [h];exact if_pos a
theorem qmw (h:pX lv=(ci,ce)) (b:ce=0) (a:stA lv (abo lv)=(d,lg)) (c:lg=true\/16777216<abo (headA lv)+abo d):nZ lv=([],3):=by grind [nZ]
theorem q9e (h:pX lv=(ci,ce)) (b:ce=0) (a:stA lv (abo lv)=(d,lg)) (c:¬(lg=true\/16777216<abo (headA lv)+abo d)):nZ lv=(headA lv++d,0):=by grind [nZ]
end
def BA (W:aiM) (d e f:Nat) (b:List Nat) (A:aiW) (c p:Nat) (a:Bool) (most:Nat) (fr:List aiX) (r:aiQ) (g:aiM):Prop:=
 r= .returned (.int .i64 (eu b p most:Int))/\Mem W g (ahS d A (abo b) c::.blk e #[.int .i64 (bI b p:Int)] 3::aiw f (a&&fO b p most)::fr)
def Vv {p most:Nat} {a d:Bool} {fr:List aiX} {q:Nat} (h1:bI b p=q) (f:(a&&fO b p most)=d)
  (h:Mem W w (.blk m #[.slice A (abo b) c] 30:: .blk g #[.int .i64 (q:Int)] 3:: .blk e #[.bool d] 4::fr)):BA W m g e b A c p a most fr (.returned (.int .i64 (eu b p most:Int))) w:=by
 subst h1 f
 exact ⟨rfl,h⟩
section
variable {b:List Nat} {p k last sum i K p0:Nat} {ok ok0 o1 o2 o3:Bool} {out:List Pl}
def iF (b:List Nat) (ok0:Bool) (K p0:Nat) (ok:Bool) (k p last sum:Nat) (out:List Pl):Prop:=kX b ok0 K p0 0 0=(kX b ok k p last sum).map λr=>(out++r.1,r.2)
def zlh:iF b ok0 K p0 ok0 K p0 0 0 []:=by
 unfold iF
 cases kX b ok0 K p0 0 0<;>rfl
def l9 (b:List Nat) (p sum:Nat):Pl:=⟨lN b p,sum,sum+lQ b p,sum+lQ b p+nk b p⟩
theorem iF.step (h:iF b ok0 K p0 ok (k+1) p last sum out) (a:(((ok&&fO b p 4611686018427387904)&&fO b (bI b p) 16777216)&&fO b (bI b (bI b p)) 16777216)=true) (c:last<=lN b p):iF b ok0 K p0 true k (rowP b p) (lN b p) (sum+lQ b p+nk b p) (out++[l9 b p sum]):=by
 rw [aee,aee,abG] at a
 unfold iF at h⊢
 rw [h,a.1,Km,Km,kF,if_pos ⟨by unfold uF;rw [<-aee];rw [<-aee] at a;exact a.2,c⟩,Option.map_map]
 congr 1
 funext r
 show (out++(_::r.1),r.2)=((out++[_])++r.1,r.2)
 rw [abv]
 rfl
theorem iF.stop (h:iF b ok0 K p0 ok (k+1) p last sum out) (c:¬((((ok&&fO b p 4611686018427387904)&&fO b (bI b p) 16777216)&&fO b (bI b (bI b p)) 16777216)=true/\last<=lN b p)):kX b ok0 K p0 0 0=none:=by
 unfold iF at h
 rw [h]
 cases ok with
 |false=>rfl
 | true =>
  rw [Km,kF,if_neg]
  ·rfl
  ·rintro ⟨a,d⟩
   refine c ⟨?_,d⟩
   unfold uF at a
   rw [acn,aee]
   exact a
theorem iF.fin (h:iF b ok0 K p0 true 0 p last sum out):kX b ok0 K p0 0 0=some (out,p,sum):=by grind [iF,Km,kF]
theorem iF.bad (h:iF b ok0 K p0 false k p last sum out):kX b ok0 K p0 0 0=none:=by
 unfold iF at h
 rw [h,q88]
 rfl
def zli:lN b p<=4611686018427387904:=rD _ _
def zlj:lQ b p<=16777216:=rD _ _
def zlk:nk b p<=16777216:=rD _ _
end
def FC (w:aiM) (R:List Pl×Nat) (r:aiQ) (a:aiM):Prop:=
 (∃A c,r= .returned (.tuple #[.slice A (abo R.1) c,.int .i64 (R.2:Int)])/\a.ownsRow w.heap.size 57 4 (.slice A (abo R.1) c) (abo R.1) (R.1.flatMap iJ)/\abo R.1<=c)/\Below w.heap.size w a
def zY {R:List Pl×Nat} {n:Int} (hb:Below w.heap.size w W) (a:R=([],er)) (c:n=er):FC w R (.returned (.tuple #[.slice none 0 0,.int .i64 n])) W:=by
 subst a c
 exact ⟨⟨none,0,rfl,World.ownsRow_nil _ _ _ _,abu _⟩,hb⟩
def q9r {R:List Pl×Nat} {L:List Pl} (a:R=(L,0)) (d:n=abo L) (e:W.ownsRow w.heap.size 57 4 (.slice A n c) n (L.flatMap iJ)) (hc:n<=c) (hb:Below w.heap.size w W):FC w R (.returned (.tuple #[.slice A n c,.int .i64 0])) W:=by
 subst a d
 exact ⟨⟨A,c,rfl,e,hc⟩,hb⟩
def Pl.zZ (a:Nat) (x:Pl):Pl:={x with sn:=x.sn+a}
def Pl.D6 (a:Nat) (x:Pl):Pl:={x with sn:=x.sn+a,st:=x.st+a}
theorem q9s {f:Pl->Pl} {l:List Pl} (h:abo l<=k):gL f l k=l.map f:=by grind [gL,ac6,abL]
abbrev ah8 {α:Type}:=λa b (c:List α) d e f g h i j k=>(.blk a #[.slice b (abo c) d,vI e,.slice f g h,i] 300::.row (.slice f g h) g j 41 1::k:List aiX)
def xw (W:aiM) (g p:Nat) (A:aiW) (c:Nat) (b q:List Nat) (h:aiN) (fs:List aiX) (r:aiQ) (d:aiM):Prop:=
 (∃x e f a,bK b p x e/\r= .returned (vQ x)/\abo (q++[x])<=a/\Mem W d (ah8 g A b c e f (abo (q++[x])) a h ((q++[x]).map bF) fs))\/((aD (b.drop p)).2.2≠0/\kW W fs (rG gU 344) r d)
def ze6 {g p:Nat} {A:aiW} {c:Nat} {b q:List Nat} {z:aiN} (h:(aD (b.drop p)).2.2≠0) (a:kW W fs (rG gU 344) r w):xw W g p A c b q z fs r w:= .inr ⟨h,a⟩
def ze7 {p:Nat} (h:bK b p x e) (hr:r= .returned (vQ x)) (hc:abo (q++[x])<=m) (hm:Mem W w (.blk g #[.slice A (abo b) c,vI e,.slice E (abo (q++[x])) m,z] 300:: .row (.slice E (abo (q++[x])) m) (abo (q++[x])) ((q++[x]).map bF) 41 1::fs)):xw W g p A c b q z fs r w:= .inl ⟨x,e,E,m,h,hr,hc,hm⟩
def qo3 (W w:aiM) (g p:Nat) (A D:aiW) (c E:Nat) (b q:List Nat) (m:aiN) (fs:List aiX) (I:Mem W w (.blk g #[.slice A (abo b) c,vI p,.slice D (abo q) E,m] 300:: .row (.slice D (abo q) E) (abo q) (q.map bF) 41 1::fs)) (o:Rd W W.heap.size 1 A (abo b) (b.map B8)) (r:abo b<=c) (J:∀z∈b,z<256) (hb:abo b<=16777216) (F:p<=abo b) (R:abo q<=p):
    Calls abp 280 #[vP g 0] w (xw W g p A c b q m fs):=by
 refine (fE Tryz.func280 42) ?_
 refine (JC (h:=by exact λd=>I)) ?_
 have l:∃x n s,aD (b.drop p)=(x,n,s):=⟨_,_,_,rfl⟩
 obtain ⟨x,n,s,l⟩:=l
 have t:∀z∈b.drop p,z<256:=λz hz=>J z (abU hz)
 have K:abo (b.drop p)=abo b-p:=abE
 refine (dh 1) λa Z d=>?_
 refine wp_seq ?_
 refine Jb Z d ((Vs .n []) λL=>(Vp [0,4]∘Vn 1∘Vf 2 0∘Vc 3 O0∘Vn 5∘Vf 6 1∘Vc 7 O0∘Vy 8 (v:= .slice (if c=p then A else A.map (·.add (p*1))) (abo b-p) (c-p)) (h:=by exact aaf bA (j:=p) rfl rfl rfl om)∘Vo (.slice (if c=p then A else A.map (·.add (p*1))) (abo (b.drop p)) (c-p)) (by rw [abE])∘VI 9 .n (h:=by exact λd=>zeu l (Ka (d.old o) F r) t om)) λM N=>(Vp [10]∘Vx 11∘Vx 12∘Vx 13∘Vp [14,15,16]∘Vd∘bN 2∘bU∘Jj) (Jh (λf=>?_) λf=>?_))
 ·
  refine (JT∘JR) λa Z d=>?_
  refine fo Z 0 rfl rfl ?_
  exact o9 Z [vI 344] rfl (Oa 344 _ (d.pt 2 [])) λS d=>Fg Z (ze6 (q8r l f) ⟨rfl,d⟩)
 have u:s=0:=by omega
 subst u
 have G:=qzb F l
 refine (aQ∘aM 1∘Jn∘Jg 1 O0∘Jp 1∘Ja∘Jn∘Jf 1∘JW aO gu) λH=>(iZ∘bg 2∘Jn∘Jg 2 O0∘Jp 1∘JU kM #[vQ x]) λO P=>(JD [bF x] 2 (λ_ _=>iG) kM (hr:=by exact λd=>d.bB (i:=0) (n:=1) (size:=1) rfl rfl) (h1:=by simp [abX,bF,B8])) λQ y B k=>(Jn∘Jf 2∘JW gu iG) λC=>(iZ∘Jq) ?_
 have e:abo q+1=abo (q++[x]):=nS rfl
 rw [e] at k
 exact (JC (h:=by exact λd=>d.bC (i:=2) (ys:=(q++[x]).map bF) rfl e (by simp))∘JC (h:=by exact λd=>d.dX (i:=1) (ds:= #[abl A b c,vI (p+n:Nat),abl y (q++[x]) B,m]) rfl (by rw [e];try rfl))∘JG∘aM 2∘lq∘aP∘aW) λd=>ze7 (.of l) rfl k (d.pt 3 [1,2])
def OC (W w:aiM) (g p:Nat) (A d:aiW) (c a:Nat) (b q:List Nat) (i:aiN) (fs:List aiX) (m:Mem W w (.blk g #[.slice A (abo b) c,vI p,.slice d (abo q) a,i] 300:: .row (.slice d (abo q) a) (abo q) (q.map bF) 41 1::fs)) (j:Rd W W.heap.size 1 A (abo b) (b.map B8)) (k:abo b<=c) (n:∀z∈b,z<256) (hb:abo b<=16777216) (o:p<=abo b) (s:abo q<=p) {x e:Nat} (h:bK b p x e):
  Calls abp 280 #[vP g 0] w (λr l=>r= .returned (vQ x)/\∃d a,abo (q++[x])<=a/\Mem W l (ah8 g A b c e d (abo (q++[x])) a i ((q++[x]).map bF) fs)):=
 (qo3 W w g p A d c a b q i fs m j k n hb o s).mono λr l t => by
  rcases t with ⟨B,e2,d,a,f,u,v,y⟩|⟨f,_⟩
  ·obtain ⟨rfl,rfl⟩:=bK.one h f
   exact ⟨u,d,a,v,y⟩
  ·rw [h.1] at f;exact absurd rfl f
def OD (W w:aiM) (g p:Nat) (A a:aiW) (c d:Nat) (b q:List Nat) (j:aiN) (fs:List aiX) (k:Mem W w (.blk g #[.slice A (abo b) c,vI p,.slice a (abo q) d,j] 300:: .row (.slice a (abo q) d) (abo q) (q.map bF) 41 1::fs)) (e:Rd W W.heap.size 1 A (abo b) (b.map B8)) (f:abo b<=c) (l:∀z∈b,z<256) (hb:abo b<=16777216) (m:p<=abo b) (n:abo q<=p) (h:(aD (b.drop p)).2.2≠0):
  Calls abp 280 #[vP g 0] w (kW W fs (rG gU 344)):=
 (qo3 W w g p A a c d b q j fs k e f l hb m n).mono λr s o => by
  rcases o with ⟨t,e2,a,d,i,u,v,x⟩|⟨_,i⟩
  ·rw [i.1] at h;exact absurd rfl h
  ·exact i
def sZ (W:aiM) (g p:Nat) (A:aiW) (c:Nat) (b q:List Nat) (i:aiN) (f hi:Nat) (fs:List aiX) (r:aiQ) (a:aiM):Prop:=
 (∃x e h d,bK b p x e/\¬(x<f\/hi<x)/\r= .returned (vI x)/\abo (q++[x])<=d/\Mem W a (ah8 g A b c e h (abo (q++[x])) d i ((q++[x]).map bF) fs))\/((∃x e,bK b p x e/\(x<f\/hi<x))/\kW W fs (rG gU 345) r a)\/((aD (b.drop p)).2.2≠0/\kW W fs (rG gU 344) r a)
def ze8 {g p:Nat} {A:aiW} {c:Nat} {b q:List Nat} {z:aiN} {m hi:Nat} (h:(aD (b.drop p)).2.2≠0) (a:kW W fs (rG gU 344) r w):sZ W g p A c b q z m hi fs r w:= .inr (.inr ⟨h,a⟩)
def qt4 {g p:Nat} {A:aiW} {c:Nat} {b q:List Nat} {z:aiN} (h:bK b p x e) (a:x<m\/hi<x) (d:kW W fs (rG gU 345) r w):sZ W g p A c b q z m hi fs r w:= .inr (.inl ⟨⟨x,e,h,a⟩,d⟩)
def ze9 {p:Nat} (h:bK b p x e) (a:¬(x<m\/hi<x)) (hr:r= .returned (vI x)) (hc:abo (q++[x])<=k) (hm:Mem W w (.blk g #[.slice A (abo b) c,vI e,.slice E (abo (q++[x])) k,z] 300:: .row (.slice E (abo (q++[x])) k) (abo (q++[x])) ((q++[x]).map bF) 41 1::fs)):sZ W g p A c b q z m hi fs r w:= .inl ⟨x,e,E,k,h,a,hr,hc,hm⟩
def U7 (W w:aiM) (g p:Nat) (A m:aiW) (c n:Nat) (b q:List Nat) (o:aiN) (fs:List aiX) (u hi:Nat) (C:hi<9223372036854775808) (D:Mem W w (.blk g #[.slice A (abo b) c,vI p,.slice m (abo q) n,o] 300:: .row (.slice m (abo q) n) (abo q) (q.map bF) 41 1::fs)) (i:Rd W W.heap.size 1 A (abo b) (b.map B8)) (j:abo b<=c) (r:∀z∈b,z<256) (hb:abo b<=16777216) (v:p<=abo b) (y:abo q<=p):
    Calls abp 281 #[vP g 0,vQ u,vQ hi] w (sZ W g p A c b q o u hi fs):=by
 refine (uL Tryz.func281 21) ?_
 refine (JC (h:=by exact λd=>D)∘dh 1∘JQ) λa Z d=>?_
 rcases Fj b p with f|⟨x,e,f⟩
 ·
  refine Jb Z d ((JR∘Jp 1) λa Z d=>?_)
  refine fo Z 1 rfl rfl ?_
  exact o9 Z [vP g 0] rfl (OD W _ g p A m c n b q o _ (d.pt 2 [0,1]) i j r hb v y f) λB d=>Fg Z (ze8 f ⟨rfl,(d)⟩)
 ·
  have E:=f.lt r
  refine Jb Z d ((JR∘Jp 1∘JL (h:=by exact λd=>OC W _ g p A m c n b q o _ (d.pt 2 [0,1]) i j r hb v y f)) ?_)
  rintro d _ F ⟨rfl,G,H,s,t⟩
  refine ⟨_,rfl,_,t,?_⟩
  refine (Jp 1∘bU∘Jj∘bN 4) (Ji (λk=>?_) λk=>?_)
  ·
   refine (Jp 4∘aJ∘Jj∘JT∘JR) λa Z d=>?_
   refine fo Z 0 rfl rfl ?_
   exact o9 Z [vI 345] rfl (Oa 345 _ (d.pt 2 [])) λB d=>Fg Z (qt4 f (.inl om) ⟨rfl,d⟩)
  refine (Jp 4∘aJ∘Jj) (Ji (λl=>?_) λl=>?_)
  ·
   refine (JT∘JR) λa Z d=>?_
   refine fo Z 0 rfl rfl ?_
   exact o9 Z [vI 345] rfl (Oa 345 _ (d.pt 2 [])) λB d=>Fg Z (qt4 f (.inr om) ⟨rfl,d⟩)
  exact (aQ∘aM 1∘Jw .i64∘Jp 1∘bU∘aP∘aW) λd=>ze9 f om rfl s (d.pt 2 [0,1])
def OE (W w:aiM) (g p:Nat) (A d:aiW) (c a:Nat) (b q:List Nat) (i:aiN) (fs:List aiX) (j hi:Nat) (k:hi<9223372036854775808) (s:Mem W w (.blk g #[.slice A (abo b) c,vI p,.slice d (abo q) a,i] 300:: .row (.slice d (abo q) a) (abo q) (q.map bF) 41 1::fs)) (l:Rd W W.heap.size 1 A (abo b) (b.map B8)) (m:abo b<=c) (t:∀z∈b,z<256) (hb:abo b<=16777216) (u:p<=abo b) (v:abo q<=p) {x e:Nat} (h:bK b p x e) (y:¬(x<j\/hi<x)):
  Calls abp 281 #[vP g 0,vQ j,vQ hi] w (λr o=>r= .returned (vI x)/\∃d a,abo (q++[x])<=a/\Mem W o (ah8 g A b c e d (abo (q++[x])) a i ((q++[x]).map bF) fs)):=
 (U7 W w g p A d c a b q i fs j hi k s l m t hb u v).mono λr o B => by
  rcases B with ⟨C,e2,d,a,f,_,n,D,E⟩|⟨⟨C,e2,f,n⟩,_⟩|⟨f,_⟩
  ·obtain ⟨rfl,rfl⟩:=bK.one h f
   exact ⟨n,d,a,D,E⟩
  ·obtain ⟨rfl,rfl⟩:=bK.one h f
   exact absurd n y
  ·rw [h.1] at f;exact absurd rfl f
def U8 (W w:aiM) (g p:Nat) (A d:aiW) (c f:Nat) (b q:List Nat) (m:aiN) (fs:List aiX) (i hi:Nat) (j:hi<9223372036854775808) (n:Mem W w (.blk g #[.slice A (abo b) c,vI p,.slice d (abo q) f,m] 300:: .row (.slice d (abo q) f) (abo q) (q.map bF) 41 1::fs)) (k:Rd W W.heap.size 1 A (abo b) (b.map B8)) (l:abo b<=c) (o:∀z∈b,z<256) (hb:abo b<=16777216) (s:p<=abo b) (t:abo q<=p) {x e:Nat} (h:bK b p x e) (u:x<i\/hi<x):
  Calls abp 281 #[vP g 0,vQ i,vQ hi] w (kW W fs (rG gU 345)):=
 (U7 W w g p A d c f b q m fs i hi j n k l o hb s t).mono λr B v => by
  rcases v with ⟨C,e2,d,f,a,y,_⟩|⟨_,a⟩|⟨a,_⟩
  ·obtain ⟨rfl,rfl⟩:=bK.one h a
   exact absurd u y
  ·exact a
  ·rw [h.1] at a;exact absurd rfl a
def U9 (W w:aiM) (g p:Nat) (A d:aiW) (c e:Nat) (b q:List Nat) (k:aiN) (fs:List aiX) (l hi:Nat) (f:hi<9223372036854775808) (m:Mem W w (.blk g #[.slice A (abo b) c,vI p,.slice d (abo q) e,k] 300:: .row (.slice d (abo q) e) (abo q) (q.map bF) 41 1::fs)) (i:Rd W W.heap.size 1 A (abo b) (b.map B8)) (j:abo b<=c) (n:∀z∈b,z<256) (hb:abo b<=16777216) (o:p<=abo b) (s:abo q<=p) (h:(aD (b.drop p)).2.2≠0):
  Calls abp 281 #[vP g 0,vQ l,vQ hi] w (kW W fs (rG gU 344)):=
 (U7 W w g p A d c e b q k fs l hi f m i j n hb o s).mono λr v t => by
  rcases t with ⟨u,e2,d,e,a,_⟩|⟨⟨u,e2,a,_⟩,_⟩|⟨_,a⟩
  ·rw [a.1] at h;exact absurd rfl h
  ·rw [a.1] at h;exact absurd rfl h
  ·exact a
def Ve (W:aiM) (g p:Nat) (A:aiW) (c:Nat) (b q:List Nat) (h:aiN) (n:Nat) (fs:List aiX) (r:aiQ) (d:aiM):Prop:=
 (∃xs e f a,zr b n p xs e/\r= .returned (.tuple #[])/\abo (q++xs)<=a/\Mem W d (ah8 g A b c e f (abo (q++xs)) a h ((q++xs).map bF) fs))\/((aV n (b.drop p)).2.2≠0/\kW W fs (rG gU 344) r d)
def q9l {g p:Nat} {A:aiW} {c:Nat} {b q:List Nat} {z:aiN} (h:(aV n (b.drop p)).2.2≠0) (a:kW W fs (rG gU 344) r w):Ve W g p A c b q z n fs r w:= .inr ⟨h,a⟩
def q9m {p:Nat} (h:zr b n p xs e) (hr:r= .returned (.tuple #[])) (hc:abo (q++xs)<=m) (hm:Mem W w (.blk g #[.slice A (abo b) c,vI e,.slice E (abo (q++xs)) m,z] 300:: .row (.slice E (abo (q++xs)) m) (abo (q++xs)) ((q++xs).map bF) 41 1::fs)):Ve W g p A c b q z n fs r w:= .inl ⟨xs,e,E,m,h,hr,hc,hm⟩
def qzp (W w:aiM) (g p:Nat) (A i:aiW) (c f:Nat) (b q:List Nat) (o:aiN) (fs:List aiX) (n:Nat) (F:n<=1000000) (l:abo q<=f) (G:Mem W w (.blk g #[.slice A (abo b) c,vI p,.slice i (abo q) f,o] 300:: .row (.slice i (abo q) f) (abo q) (q.map bF) 41 1::fs)) (r:Rd W W.heap.size 1 A (abo b) (b.map B8)) (s:abo b<=c) (C:∀z∈b,z<256) (hb:abo b<=16777216) (H:p<=abo b) (N:abo q<=p):
    Calls abp 282 #[vP g 0,vI n] w (Ve W g p A c b q o n fs):=by
 refine (iP Tryz.func282 10) ?_
 refine (JC (h:=by exact λd=>G)∘aM 2∘Jq) λa Z d=>?_
 rw [<-abM q] at d
 refine Jb Z d ((JG∘JB) λa Z d=>?_)
 refine qg (λD I J=>∃(k:Nat) (xs:List Nat) (e:Nat) (i:aiW) (f:Nat),(zr b k p xs e)/\(k<=n)/\(abo (q++xs)<=f)/\D=n-k/\Fr I 10 [] [(0,vP g 0),(4,vI n),(5,vI k)]/\Mem W J (.blk g #[abl A b c,vI e,abl i (q++xs) f,o] 300:: abm i (q++xs) f bF 41 1::fs)) (m:=n-0) ⟨0,[],p,i,f,zr.nil b p,abz _,(by rw [abM];exact l),rfl,Z.sub kr,d.pt 2 [0,1]⟩ ?_
 clear Z d;rintro D a O ⟨k,xs,e,i,f,j,K,l,rfl,Z,d⟩
 have E:=j.in H
 refine Jb Z d ((dh 1∘JQ) (Ji (λv=>?_) λv=>?_))
 ·
  refine (eY) ?_
  have t:k<n:=by omega
  intro a Z d
  rcases Fj b e with u|⟨x,e2,u⟩
  ·
   refine Jb Z d ((JR∘Jp 1) λa Z d=>?_)
   refine fo Z 1 rfl rfl ?_
   exact o9 Z [vP g 0] rfl (OD W _ g e A i c f b (q++xs) o _ (d.pt 2 [0,1]) r s C hb om (by rw [abq];omega) u) λP d=>Fg Z (q9l (j.stuck t u) ⟨rfl,d⟩)
  ·
   refine Jb Z d ((JR∘Jp 1∘JL (h:=by exact λd=>OC W _ g e A i c f b (q++xs) o _ (d.pt 2 [0,1]) r s C hb om (by rw [abq];omega) u)) ?_)
   rintro d _ Q ⟨rfl,L,M,y,B⟩
   refine ⟨_,rfl,_,B,?_⟩
   refine (nE∘Jq) λa Z d=>?_
   rw [abv] at d
   refine Jb Z d ((JG∘JR∘dA 1∘Jp 1∘aL∘Jq) λa Z d=>?_)
   exact ⟨_,om,k+1,(xs++[x]),e2,L,M,j.snoc u,t,(by rwa [abv] at y),rfl,Z.sub kr,d.pt 2 [0,1]⟩
 refine (JF∘JX) ?_
 obtain rfl:k=n:=by omega
 intro a Z d
 exact iB rfl Z (q9m j rfl l d)
def KD (W w:aiM) (g p:Nat) (A d:aiW) (c a:Nat) (b q:List Nat) (i:aiN) (fs:List aiX) (n:Nat) (j:n<=1000000) (k:abo q<=a) (s:Mem W w (.blk g #[.slice A (abo b) c,vI p,.slice d (abo q) a,i] 300:: .row (.slice d (abo q) a) (abo q) (q.map bF) 41 1::fs)) (l:Rd W W.heap.size 1 A (abo b) (b.map B8)) (m:abo b<=c) (t:∀z∈b,z<256) (hb:abo b<=16777216) (u:p<=abo b) (v:abo q<=p) {xs:List Nat} {e:Nat} (h:zr b n p xs e):
  Calls abp 282 #[vP g 0,vI n] w (λr o=>r= .returned (.tuple #[])/\∃d a,abo (q++xs)<=a/\Mem W o (ah8 g A b c e d (abo (q++xs)) a i ((q++xs).map bF) fs)):=
 (qzp W w g p A d c a b q i fs n j k s l m t hb u v).mono λr o x => by
  rcases x with ⟨D,e2,d,a,f,y,B,C⟩|⟨f,_⟩
  ·obtain ⟨rfl,rfl⟩:=zr.one h f
   exact ⟨y,d,a,B,C⟩
  ·rw [h.1] at f;exact absurd rfl f
def KE (W w:aiM) (g p:Nat) (A d:aiW) (c a:Nat) (b q:List Nat) (l:aiN) (fs:List aiX) (n:Nat) (e:n<=1000000) (f:abo q<=a) (m:Mem W w (.blk g #[.slice A (abo b) c,vI p,.slice d (abo q) a,l] 300:: .row (.slice d (abo q) a) (abo q) (q.map bF) 41 1::fs)) (i:Rd W W.heap.size 1 A (abo b) (b.map B8)) (j:abo b<=c) (o:∀z∈b,z<256) (hb:abo b<=16777216) (s:p<=abo b) (t:abo q<=p) (h:(aV n (b.drop p)).2.2≠0):
  Calls abp 282 #[vP g 0,vI n] w (kW W fs (rG gU 344)):=
 (qzp W w g p A d c a b q l fs n e f m i j o hb s t).mono λr v u => by
  rcases u with ⟨x,e2,d,a,k,y,B,C⟩|⟨_,k⟩
  ·rw [k.1] at h;exact absurd rfl h
  ·exact k
def zon (W w:aiM) (g p:Nat) (u y:aiN) (q:aiW) (sc:Nat) (l:List jV) (nm:ByteArray) (fs:List aiX) (D:Mem W w (.blk g #[u,vI p,y,abl q l sc] 300:: abn q l sc iy 435 3::fs)) (E:abo l<=1000):
    Calls abp 279 #[vP g 0,.string nm] w (λr F=>r= .returned (.tuple #[])/\∃q sc,abo (l++[(⟨nm,lK l,p⟩:jV)])<=sc/\Mem W F (.blk g #[u,vI p,y,.slice q (abo (l++[(⟨nm,lK l,p⟩:jV)])) sc] 300:: .row (.slice q (abo (l++[(⟨nm,lK l,p⟩:jV)])) sc) (abo (l++[(⟨nm,lK l,p⟩:jV)])) ((l++[(⟨nm,lK l,p⟩:jV)]).flatMap iy) 435 3::fs)):=by
 refine (iP Tryz.func279 38) ?_
 refine (JC (h:=by exact λb=>D)∘dh 1∘bN 1∘Jn∘Jg 3 O0∘Jl∘Jp 1∘fJ∘bg 2∘aL∘Jj) (Ji (λs=>?_) λs=>?_)
 ·
  refine (JT∘JR∘Jp 1∘Jn∘Jg 3 O0∘Jp 1∘Al 1) ?_
  repeat (first|clear Z|clear b)
  intro a Z b
  obtain ⟨G,rfl⟩:=b.rat 1 (abo l-1)
  refine Jb Z b ((nG (abo l-1) 3∘Jf 2∘Jy (v:=vI ((l.getD (abo l-1) jV.zero).to)) (h:=by exact Pd rfl rfl kr (λ_ h=>h.qw zda (i:=1) rfl (k:=(abo l-1)) (off:=2) (x:=(l.getD (abo l-1) jV.zero)) ((getD_at jV.zero om)) rfl))∘Jo (vI (lK l)) (by exact rfl)∘Jp 1∘aJ∘Jj∘Vs (.t (.f .n)) [16]) λz=>(Vp [0,1,5,6,7]∘Vn 2∘Vf 3 3∘Vc 4 O0∘Vn 8∘Vf 9 1∘Vc 10 O0∘Vy 11 (v:= .agg #[.string nm,vI (lK l),vI p]) (h:=by exact Yl.build (vs:=((0,.string nm)::ahY 1 (lK l) 2 p [])) rfl kr kr)) λa Z b m=>?_)
  refine s_on Z 12 rfl (jA Z b OB [(0,.agg #[.string nm,vI (lK l),vI p])] #[.string nm,vI (lK l),vI p] ?_)
  clear Z b;intro a A B Z b
  refine av (b.pt 3 [1]) (λm=>?_)
  refine s_on Z 13 rfl (rO Z b (i:=2) rfl OB rfl rfl rfl (news:=([(⟨nm,lK l,p⟩:jV)].flatMap iy)) (b.bB (i:=0) (n:=1) (size:=3) rfl rfl) (q6t _) om om rfl de ?_)
  clear Z b;intro a C e j Z b d
  refine av (b.pt 3 [1]) (λm=>?_)
  refine Vb Z b m ((Vn 14∘Vf 15 3) λa Z b m=>?_)
  refine s_on Z 16 rfl (eO Z b 1 λo b=>?_)
  refine dU kr ?_
  refine qe kr ?_
  have c:abo l+1=abo (l++[(⟨nm,lK l,p⟩:jV)]):=nS rfl
  rw [c] at d
  replace b:=b.bC (i:=2) (ys:=(l++[(⟨nm,lK l,p⟩:jV)]).flatMap iy) rfl c (List.flatMap_append.symm)
  replace Z:=Z.sp 35 (abl e (l++[(⟨nm,lK l,p⟩:jV)]) j) rfl (iW c)
  replace b:=b.dX (i:=1) (ds:= #[u,vI p,y,abl e (l++[(⟨nm,lK l,p⟩:jV)]) j]) rfl (by rw [c];try rfl)
  exact iB rfl Z ⟨rfl,e,j,d,b.pt 3 [1,2]⟩
 intro a Z b
 replace Z:=Z.sp 4 (vI (lK l)) rfl (by rw [zes (l:=l) om];rfl)
 refine Jb Z b ((aQ∘Vs (.t (.f .n)) [16]) λz=>(Vp [0,1,5,6,7]∘Vn 2∘Vf 3 3∘Vc 4 O0∘Vn 8∘Vf 9 1∘Vc 10 O0∘Vy 11 (v:= .agg #[.string nm,vI (lK l),vI p]) (h:=by exact Yl.build (vs:=((0,.string nm)::ahY 1 (lK l) 2 p [])) rfl kr kr)) λa Z b m=>?_)
 refine s_on Z 12 rfl (jA Z b OB [(0,.agg #[.string nm,vI (lK l),vI p])] #[.string nm,vI (lK l),vI p] ?_)
 clear Z b;intro a A B Z b
 refine av (b.pt 3 [1]) (λm=>?_)
 refine s_on Z 13 rfl (rO Z b (i:=2) rfl OB rfl rfl rfl (news:=([(⟨nm,lK l,p⟩:jV)].flatMap iy)) (b.bB (i:=0) (n:=1) (size:=3) rfl rfl) (q6t _) om om rfl de ?_)
 clear Z b;intro a C e j Z b d
 refine av (b.pt 3 [1]) (λm=>?_)
 refine Vb Z b m ((Vn 14∘Vf 15 3) λa Z b m=>?_)
 refine s_on Z 16 rfl (eO Z b 1 λo b=>?_)
 refine dU kr ?_
 refine qe kr ?_
 have c:abo l+1=abo (l++[(⟨nm,lK l,p⟩:jV)]):=nS rfl
 rw [c] at d
 replace b:=b.bC (i:=2) (ys:=(l++[(⟨nm,lK l,p⟩:jV)]).flatMap iy) rfl c (List.flatMap_append.symm)
 replace Z:=Z.sp 35 (abl e (l++[(⟨nm,lK l,p⟩:jV)]) j) rfl (iW c)
 replace b:=b.dX (i:=1) (ds:= #[u,vI p,y,abl e (l++[(⟨nm,lK l,p⟩:jV)]) j]) rfl (by rw [c];try rfl)
 exact iB rfl Z ⟨rfl,e,j,d,b.pt 3 [1,2]⟩
def zX (W w:aiM) (g p:Nat) (e f:aiN) (d:aiW) (sc:Nat) (l:List jV) (nm:ByteArray) (fs:List aiX) (m:Mem W w (.blk g #[e,vI p,f,.slice d (abo l) sc] 300:: .row (.slice d (abo l) sc) (abo l) (l.flatMap iy) 435 3::fs)) (j:abo l<=1000) {l2:List jV} (h:l++[(⟨nm,lK l,p⟩:jV)]=l2):
  Calls abp 279 #[vP g 0,.string nm] w (λr o=>r= .returned (.tuple #[])/\∃d sc,abo l2<=sc/\Mem W o (.blk g #[e,vI p,f,.slice d (abo l2) sc] 300:: .row (.slice d (abo l2) sc) (abo l2) (l2.flatMap iy) 435 3::fs)):=by
 subst h
 exact zon W w g p e f d sc l nm fs m j
abbrev ait {α β:Type}:=λa (b:List α) c d e (f:List β) g h i=>(.row (.slice a (abo b) c) (abo b) d 41 1::.row (.slice e (abo f) g) (abo f) h 435 3::i:List aiX)
def OG (W:aiM) (g:Nat) (A:aiW) (c:Nat) (b:List Nat) (fs:List aiX) (r:aiQ) (e:aiM):Prop:=
 (∃p f d h sc,sU b= .ok p/\r= .returned (vI 0)/\abo p.nums<=d/\abo p.secs<=sc/\Mem W e (.blk g #[.slice A (abo b) c,vI ((abo b+4:Nat):Int),.slice f (abo p.nums) d,.slice h (abo p.secs) sc] 300::ait f p.nums d (p.nums.map bF) h p.secs sc (p.secs.flatMap iy) fs))\/(∃k:Nat,sU b= .error k/\r= .returned (vI k)/\Mem W e fs)
section
variable {W w:aiM} {g g2 c k i n:Nat} {A:aiW} {b:List Nat} {fs ks:List aiX} {σ:List (Nat×aiN)} {a:Act}
def tq (Z:Fr a n [{target:= .fn (.func 278) [Value.pointer (some ⟨g2,0,none⟩)].toArray,args:= #[]}] σ) (d:σ.lookup 2=some (vP g2 0)) (e:Mem W w ks) (hi:ks[i]?=some (.blk g2 #[vI 0] gU)) (f:sU b= .error k) (j:List Nat) (h:j.Nodup) (l:picks (ks.set i (.blk g2 #[vI k] gU)) j=fs):
  Leaves abp Tryz.f240 a.tmps (OG W g A c b fs) a.defers (.panicking (rG gU k)) w:=by
 refine q2v (v:=vI k) Z kr (q8w k 0 w e hi rfl) rfl λo hm=>⟨?_,.inr ⟨k,f,rfl,hm.picks j h l⟩⟩
 have m:=(abB.1 hi).1
 exact mG.cell1 (i:=i) Z hm d (adf m) kr rfl
def zfa (Z:Fr a n [{target:= .fn (.func 278) [Value.pointer (some ⟨g2,0,none⟩)].toArray,args:= #[]}] σ) (e:σ.lookup 2=some (vP g2 0)) (f:Mem W w ks) (hi:ks[i]?=some (.blk g2 #[vI 0] gU)) (hk:∀d,Mem W d (ks.set i (.blk g2 #[vI 0] gU))->OG W g A c b fs (.returned (vI 0)) d):
  Leaves abp Tryz.f240 a.tmps (OG W g A c b fs) a.defers .returning w:=by
 refine q8q (v:=vI 0) Z kr (q2w 0 w f hi rfl) rfl λd hm=>⟨?_,hk d hm⟩
 have h:=(abB.1 hi).1
 exact mG.cell1 (i:=i) Z hm e (adf h) kr rfl
end
def qzr (nx cp cr gp:Nat) (gs cl cu:List Nat) (tk:Nat) (ts sp:List Nat) (e1 e2 e3 e4 e5 e6 e7:Nat):(⟨nx,cp,cr,gp,gs,cl,cu,tk,ts,sp,e1,e2,e3,e4,e5,e6,e7⟩:Pr).nums=((((((((((([]:List Nat)++[nx])++[cp])++[cr])++[gp])++gs)++cl)++cu)++[tk])++ts)++sp):=by simp [Pr.nums]
def qzs (W w : aiM) (g : Nat) (A : aiW) (c : Nat) (b : List Nat) (HW : Mem W w [.blk g #[.slice A (abo b) c, vI 0, vN, vN] 300]) (j : Rd W W.heap.size 1 A (abo b) (b.map B8)) (l : abo b <= c) (F : ∀ z ∈ b, z < 256) (hb : abo b <= 16777216) (hb3 : 3 <= abo b) :
    Calls abp 240 #[vP g 0] w (OG W g A c b []):=by
 refine qts (vs:=[vP g 0]) Tryz.func240 rfl rfl kr (σ0:=[(0,vP g 0)]) rfl ?_
 intro a Z
 have d:=Mem.start w
 replace d:=(HW.nil 435 3).nil 41 1
 have hc0:abo ([]:List Nat)<=0:=abu _
 have r:sU b=sU b:=rfl
 have hq0:abo ([]:List Nat)<=3:=abz _
 refine Jb Z d ((JP∘JA #[vI 0]) λw2 g2=>(Jr∘Jy (h:=by exact Yl.makeFunc (fst:=[]) (caps:=[vP g2 0]) rfl rfl rfl)) λa Z d=>?_)
 refine fo Z 1 rfl rfl ?_
 refine zkv Z (f:=278) (caps:=[vP g2 0]) rfl rfl rfl ?_
 clear Z;intro a Z
 refine Jb Z d ((mJ∘bg 1∘Jn∘Jf 1∘JW og gu) λarT=>(oo∘bg 1∘JL (h:=by exact λd=>zX (l2:=[qh]) W _ g 3 _ _ none 0 ([]:List jV) _ _ (d.pk [3,2,0,1]) (acE rfl) rfl)) ?_)
 rintro d _ sG ⟨rfl,KF,k10,hk10,e⟩
 refine ⟨_,rfl,_,e,?_⟩
 refine (nE∘Jq∘JC (h:=by exact λd=>(show Mem W _ [.blk g #[.slice A (abo b) c,vI 3,abl none ([]:List Nat) 0,.slice KF ([qh].length) k10] 300,.row (.slice KF ([qh].length) k10) ([qh].length) ([qh].flatMap iy) 435 3,.blk g2 #[vI 0] 27,abm none ([]:List Nat) 0 bF 41 1] from d))∘JG∘JQ) λa Z d=>?_
 rcases Fj b 3 with t|⟨nx,e1,t⟩
 ·
  refine Jb Z d ((JR∘Jp 1) λa Z d=>?_)
  refine fo Z 1 rfl rfl ?_
  exact o9 Z [vP g 0] rfl (OD W _ g 3 A none c 0 b ([]:List Nat) (.slice KF ([qh].length) k10) _ (d.pk [0,3,1,2]) j l F hb hb3 hq0 t) λw2 d=>tq Z rfl d (i:=1) rfl (r.trans (N7 t)) [] de rfl
 ·
  have r:=r.trans t.go1
  have G:=t.in hb3
  have Q:=qR (x:=nx) hq0 G.1
  refine Jb Z d ((JR∘Jp 1∘JL (h:=by exact λd=>OC W _ g 3 A none c 0 b ([]:List Nat) (.slice KF ([qh].length) k10) _ (d.pk [0,3,1,2]) j l F hb hb3 hq0 t)) ?_)
  rintro d _ xZ ⟨rfl,KG,c12,arU,e⟩
  refine ⟨_,rfl,_,e,?_⟩
  refine (nE∘bg 1∘JL (h:=by exact λd=>zX (l2:=[qh,⟨qb 0,3,e1⟩]) W _ g e1 _ _ KF k10 ([qh]) _ _ (d.pk [0,2,1,3]) (acE rfl) rfl)) ?_
  rintro d _ ME ⟨rfl,H,I,arV,e⟩
  refine ⟨_,rfl,_,e,?_⟩
  refine (nE∘Jq∘JC (h:=by exact λd=>(show Mem W _ [.blk g #[.slice A (abo b) c,vI e1,abl KG (([]:List Nat)++[nx]) c12,.slice H ([qh,⟨qb 0,3,e1⟩].length) I] 300,.row (.slice H ([qh,⟨qb 0,3,e1⟩].length) I) ([qh,⟨qb 0,3,e1⟩].length) ([qh,⟨qb 0,3,e1⟩].flatMap iy) 435 3,abm KG (([]:List Nat)++[nx]) c12 bF 41 1,.blk g2 #[vI 0] 27] from d))∘JG∘JQ) λa Z d=>?_
  rcases N9 b e1 1 64 with p|⟨cp,a1,p,J⟩|⟨cp,a1,p,J⟩
  ·
   refine Jb Z d ((JR∘Jp 1) λa Z d=>?_)
   refine fo Z 1 rfl rfl ?_
   exact o9 Z [vP g 0,vQ 1,vQ 64] rfl (U9 W _ g e1 A KG c c12 b (([]:List Nat)++[nx]) (.slice H ([qh,⟨qb 0,3,e1⟩].length) I) _ 1 64 de (d.pk [0,2,1,3]) j l F hb G.2 Q p) λw2 d=>tq Z rfl d (i:=1) rfl (r.trans (N8 p)) [] de rfl
  ·
   refine Jb Z d ((JR∘Jp 1) λa Z d=>?_)
   refine fo Z 1 rfl rfl ?_
   exact o9 Z [vP g 0,vQ 1,vQ 64] rfl (U8 W _ g e1 A KG c c12 b (([]:List Nat)++[nx]) (.slice H ([qh,⟨qb 0,3,e1⟩].length) I) _ 1 64 de (d.pk [0,2,1,3]) j l F hb G.2 Q p J) λw2 d=>tq Z rfl d (i:=1) rfl (r.trans (p.bad J)) [] de rfl
  ·
   have r:=r.trans (p.goC J)
   have R:=p.in G.2
   have Y:=qR (x:=cp) Q R.1
   refine Jb Z d ((JR∘Jp 1∘JL (h:=by exact λd=>OE W _ g e1 A KG c c12 b (([]:List Nat)++[nx]) (.slice H ([qh,⟨qb 0,3,e1⟩].length) I) _ 1 64 de (d.pk [0,2,1,3]) j l F hb G.2 Q p J)) ?_)
   rintro d _ w16 ⟨rfl,A16,c16,hc16,e⟩
   refine ⟨_,rfl,_,e,?_⟩
   refine (Jp 1∘bU∘Jj∘JQ) λa Z d=>?_
   rcases Fj b a1 with u|⟨cr,a2,u⟩
   ·
    refine Jb Z d ((JR∘Jp 1) λa Z d=>?_)
    refine fo Z 1 rfl rfl ?_
    exact o9 Z [vP g 0] rfl (OD W _ g a1 A A16 c c16 b ((([]:List Nat)++[nx])++[cp]) (.slice H ([qh,⟨qb 0,3,e1⟩].length) I) _ (d.pk [0,1,2,3]) j l F hb R.2 Y u) λw2 d=>tq Z rfl d (i:=1) rfl (r.trans (N7 u)) [] de rfl
   ·
    have r:=r.trans u.go1
    have K:=u.in R.2
    have S:=qR (x:=cr) Y K.1
    refine Jb Z d ((JR∘Jp 1∘JL (h:=by exact λd=>OC W _ g a1 A A16 c c16 b ((([]:List Nat)++[nx])++[cp]) (.slice H ([qh,⟨qb 0,3,e1⟩].length) I) _ (d.pk [0,1,2,3]) j l F hb R.2 Y u)) ?_)
    rintro d _ xW ⟨rfl,OH,c18,hc18,e⟩
    refine ⟨_,rfl,_,e,?_⟩
    refine (nE∘Jj∘JQ) λa Z d=>?_
    rcases N9 b a2 1 256 with q|⟨gp,e2,q,L⟩|⟨gp,e2,q,L⟩
    ·
     refine Jb Z d ((JR∘Jp 1) λa Z d=>?_)
     refine fo Z 1 rfl rfl ?_
     exact o9 Z [vP g 0,vQ 1,vQ 256] rfl (U9 W _ g a2 A OH c c18 b (((([]:List Nat)++[nx])++[cp])++[cr]) (.slice H ([qh,⟨qb 0,3,e1⟩].length) I) _ 1 256 de (d.pk [0,1,2,3]) j l F hb K.2 S q) λw2 d=>tq Z rfl d (i:=1) rfl (r.trans (N8 q)) [] de rfl
    ·
     refine Jb Z d ((JR∘Jp 1) λa Z d=>?_)
     refine fo Z 1 rfl rfl ?_
     exact o9 Z [vP g 0,vQ 1,vQ 256] rfl (U8 W _ g a2 A OH c c18 b (((([]:List Nat)++[nx])++[cp])++[cr]) (.slice H ([qh,⟨qb 0,3,e1⟩].length) I) _ 1 256 de (d.pk [0,1,2,3]) j l F hb K.2 S q L) λw2 d=>tq Z rfl d (i:=1) rfl (r.trans (q.bad L)) [] de rfl
    ·
     have r:=r.trans (q.goC L)
     have T:=q.in K.2
     have xA:=qR (x:=gp) S T.1
     refine Jb Z d ((JR∘Jp 1∘JL (h:=by exact λd=>OE W _ g a2 A OH c c18 b (((([]:List Nat)++[nx])++[cp])++[cr]) (.slice H ([qh,⟨qb 0,3,e1⟩].length) I) _ 1 256 de (d.pk [0,1,2,3]) j l F hb K.2 S q L)) ?_)
     rintro d _ Cr ⟨rfl,OI,c20,KH,e⟩
     refine ⟨_,rfl,_,e,?_⟩
     refine (Jp 1∘bU∘Jq) ?_
     have h3:3*cp*(gp-1)<=192*255:=Nat.mul_le_mul om om
     refine (JG∘aM 1∘JL (h:=by exact λd=>zX (l2:=[qh,⟨qb 0,3,e1⟩,⟨qb 1,e1,e2⟩]) W _ g e2 _ _ H I ([qh,⟨qb 0,3,e1⟩]) _ _ (d.pk [0,2,1,3]) (acE rfl) rfl)) ?_
     rintro d _ Ql ⟨rfl,KI,k22,arW,e⟩
     refine ⟨_,rfl,_,e,?_⟩
     refine (nE∘Jq∘JC (h:=by exact λd=>(show Mem W _ [.blk g #[.slice A (abo b) c,vI e2,.slice OI (abo ((((([]:List Nat)++[nx])++[cp])++[cr])++[gp])) c20,.slice KI ([qh,⟨qb 0,3,e1⟩,⟨qb 1,e1,e2⟩].length) k22] 300,.row (.slice KI ([qh,⟨qb 0,3,e1⟩,⟨qb 1,e1,e2⟩].length) k22) ([qh,⟨qb 0,3,e1⟩,⟨qb 1,e1,e2⟩].length) ([qh,⟨qb 0,3,e1⟩,⟨qb 1,e1,e2⟩].flatMap iy) 435 3,.row (.slice OI (abo ((((([]:List Nat)++[nx])++[cp])++[cr])++[gp])) c20) (abo ((((([]:List Nat)++[nx])++[cp])++[cr])++[gp])) (((((([]:List Nat)++[nx])++[cp])++[cr])++[gp]).map bF) 41 1,.blk g2 #[vI 0] 27] from d))∘JG∘JQ) λa Z d=>?_
     rcases Fp b (2*(gp-1)) e2 with v|⟨gs,e3,v⟩
     ·
      refine Jb Z d ((JR∘Jp 2∘Al 1∘Jp 1∘Jo (vI (2*(gp-1):Nat)) (by exact zc om om)) λa Z d=>?_)
      refine fo Z 4 rfl rfl ?_
      exact o9 Z [vP g 0,vI (2*(gp-1):Nat)] rfl (KE W _ g e2 A OI c c20 b ((((([]:List Nat)++[nx])++[cp])++[cr])++[gp]) (.slice KI ([qh,⟨qb 0,3,e1⟩,⟨qb 1,e1,e2⟩].length) k22) _ (2*(gp-1)) om KH (d.pk [0,2,1,3]) j l F hb T.2 xA v) λw2 d=>tq Z rfl d (i:=1) rfl (r.trans (Fh v)) [] de rfl
     ·
      have r:=r.trans v.goK
      have M:=v.in T.2
      have xB:=qU (xs:=gs) xA M.1 M.2.1
      refine Jb Z d ((JR∘Jp 2∘Al 1∘Jp 1∘Jo (vI (2*(gp-1):Nat)) (by exact zc om om)∘JL (h:=by exact λd=>KD W _ g e2 A OI c c20 b ((((([]:List Nat)++[nx])++[cp])++[cr])++[gp]) (.slice KI ([qh,⟨qb 0,3,e1⟩,⟨qb 1,e1,e2⟩].length) k22) _ (2*(gp-1)) om KH (d.pk [0,2,1,3]) j l F hb T.2 xA v)) ?_)
      rintro d _ EU ⟨rfl,OJ,OL,hc27,e⟩
      refine ⟨_,rfl,_,e,?_⟩
      refine (qC∘bg 1∘JL (h:=by exact λd=>zX (l2:=[qh,⟨qb 0,3,e1⟩,⟨qb 1,e1,e2⟩,⟨qb 2,e2,e3⟩]) W _ g e3 _ _ KI k22 ([qh,⟨qb 0,3,e1⟩,⟨qb 1,e1,e2⟩]) _ _ (d.pk [0,2,1,3]) (acE rfl) rfl)) ?_
      rintro d _ w29 ⟨rfl,KJ,KL,arX,e⟩
      refine ⟨_,rfl,_,e,?_⟩
      refine (nE∘Jq∘JC (h:=by exact λd=>(show Mem W _ [.blk g #[.slice A (abo b) c,vI e3,.slice OJ (abo (((((([]:List Nat)++[nx])++[cp])++[cr])++[gp])++gs)) OL,.slice KJ ([qh,⟨qb 0,3,e1⟩,⟨qb 1,e1,e2⟩,⟨qb 2,e2,e3⟩].length) KL] 300,.row (.slice KJ ([qh,⟨qb 0,3,e1⟩,⟨qb 1,e1,e2⟩,⟨qb 2,e2,e3⟩].length) KL) ([qh,⟨qb 0,3,e1⟩,⟨qb 1,e1,e2⟩,⟨qb 2,e2,e3⟩].length) ([qh,⟨qb 0,3,e1⟩,⟨qb 1,e1,e2⟩,⟨qb 2,e2,e3⟩].flatMap iy) 435 3,.row (.slice OJ (abo (((((([]:List Nat)++[nx])++[cp])++[cr])++[gp])++gs)) OL) (abo (((((([]:List Nat)++[nx])++[cp])++[cr])++[gp])++gs)) ((((((([]:List Nat)++[nx])++[cp])++[cr])++[gp])++gs).map bF) 41 1,.blk g2 #[vI 0] 27] from d))∘JG∘JQ) λa Z d=>?_
      rcases Fp b cp e3 with y|⟨cl,e4,y⟩
      ·
       refine Jb Z d ((JR∘Jp 2) λa Z d=>?_)
       refine fo Z 2 rfl rfl ?_
       exact o9 Z [vP g 0,vI cp] rfl (KE W _ g e3 A OJ c OL b (((((([]:List Nat)++[nx])++[cp])++[cr])++[gp])++gs) (.slice KJ ([qh,⟨qb 0,3,e1⟩,⟨qb 1,e1,e2⟩,⟨qb 2,e2,e3⟩].length) KL) _ cp om hc27 (d.pk [0,2,1,3]) j l F hb M.2.2 xB y) λw2 d=>tq Z rfl d (i:=1) rfl (r.trans (Fh y)) [] de rfl
      ·
       have r:=r.trans y.goK
       have N:=y.in M.2.2
       have xC:=qU (xs:=cl) xB N.1 N.2.1
       refine Jb Z d ((JR∘Jp 2∘JL (h:=by exact λd=>KD W _ g e3 A OJ c OL b (((((([]:List Nat)++[nx])++[cp])++[cr])++[gp])++gs) (.slice KJ ([qh,⟨qb 0,3,e1⟩,⟨qb 1,e1,e2⟩,⟨qb 2,e2,e3⟩].length) KL) _ cp om hc27 (d.pk [0,2,1,3]) j l F hb M.2.2 xB y)) ?_)
       rintro d _ w32 ⟨rfl,OM,c32,hc32,e⟩
       refine ⟨_,rfl,_,e,?_⟩
       refine (oo∘bg 1∘JL (h:=by exact λd=>zX (l2:=[qh,⟨qb 0,3,e1⟩,⟨qb 1,e1,e2⟩,⟨qb 2,e2,e3⟩,⟨qb 3,e3,e4⟩]) W _ g e4 _ _ KJ KL ([qh,⟨qb 0,3,e1⟩,⟨qb 1,e1,e2⟩,⟨qb 2,e2,e3⟩]) _ _ (d.pk [0,2,1,3]) (acE rfl) rfl)) ?_
       rintro d _ Q5 ⟨rfl,KM,KN,arY,e⟩
       refine ⟨_,rfl,_,e,?_⟩
       refine (nE∘Jq∘JC (h:=by exact λd=>(show Mem W _ [.blk g #[.slice A (abo b) c,vI e4,.slice OM (abo ((((((([]:List Nat)++[nx])++[cp])++[cr])++[gp])++gs)++cl)) c32,.slice KM ([qh,⟨qb 0,3,e1⟩,⟨qb 1,e1,e2⟩,⟨qb 2,e2,e3⟩,⟨qb 3,e3,e4⟩].length) KN] 300,.row (.slice KM ([qh,⟨qb 0,3,e1⟩,⟨qb 1,e1,e2⟩,⟨qb 2,e2,e3⟩,⟨qb 3,e3,e4⟩].length) KN) ([qh,⟨qb 0,3,e1⟩,⟨qb 1,e1,e2⟩,⟨qb 2,e2,e3⟩,⟨qb 3,e3,e4⟩].length) ([qh,⟨qb 0,3,e1⟩,⟨qb 1,e1,e2⟩,⟨qb 2,e2,e3⟩,⟨qb 3,e3,e4⟩].flatMap iy) 435 3,.row (.slice OM (abo ((((((([]:List Nat)++[nx])++[cp])++[cr])++[gp])++gs)++cl)) c32) (abo ((((((([]:List Nat)++[nx])++[cp])++[cr])++[gp])++gs)++cl)) (((((((([]:List Nat)++[nx])++[cp])++[cr])++[gp])++gs)++cl).map bF) 41 1,.blk g2 #[vI 0] 27] from d))∘JG∘JQ) λa Z d=>?_
       rcases Fp b cp e4 with B|⟨cu,e5,B⟩
       ·
        refine Jb Z d ((JR∘Jp 2) λa Z d=>?_)
        refine fo Z 2 rfl rfl ?_
        exact o9 Z [vP g 0,vI cp] rfl (KE W _ g e4 A OM c c32 b ((((((([]:List Nat)++[nx])++[cp])++[cr])++[gp])++gs)++cl) (.slice KM ([qh,⟨qb 0,3,e1⟩,⟨qb 1,e1,e2⟩,⟨qb 2,e2,e3⟩,⟨qb 3,e3,e4⟩].length) KN) _ cp om hc32 (d.pk [0,2,1,3]) j l F hb N.2.2 xC B) λw2 d=>tq Z rfl d (i:=1) rfl (r.trans (Fh B)) [] de rfl
       ·
        have r:=r.trans B.goK
        have s:=B.in N.2.2
        have O:=qU (xs:=cu) xC s.1 s.2.1
        refine Jb Z d ((JR∘Jp 2∘JL (h:=by exact λd=>KD W _ g e4 A OM c c32 b ((((((([]:List Nat)++[nx])++[cp])++[cr])++[gp])++gs)++cl) (.slice KM ([qh,⟨qb 0,3,e1⟩,⟨qb 1,e1,e2⟩,⟨qb 2,e2,e3⟩,⟨qb 3,e3,e4⟩].length) KN) _ cp om hc32 (d.pk [0,2,1,3]) j l F hb N.2.2 xC B)) ?_)
        rintro d _ EJ ⟨rfl,Fz,c37,arZ,e⟩
        refine ⟨_,rfl,_,e,?_⟩
        refine (oo∘bg 1∘JL (h:=by exact λd=>zX (l2:=[qh,⟨qb 0,3,e1⟩,⟨qb 1,e1,e2⟩,⟨qb 2,e2,e3⟩,⟨qb 3,e3,e4⟩,⟨qb 4,e4,e5⟩]) W _ g e5 _ _ KM KN ([qh,⟨qb 0,3,e1⟩,⟨qb 1,e1,e2⟩,⟨qb 2,e2,e3⟩,⟨qb 3,e3,e4⟩]) _ _ (d.pk [0,2,1,3]) (acE rfl) rfl)) ?_
        rintro d _ NQ ⟨rfl,U,V,ar0,e⟩
        refine ⟨_,rfl,_,e,?_⟩
        refine (nE∘Jq∘JC (h:=by exact λd=>(show Mem W _ [.blk g #[.slice A (abo b) c,vI e5,.slice Fz (abo (((((((([]:List Nat)++[nx])++[cp])++[cr])++[gp])++gs)++cl)++cu)) c37,.slice U ([qh,⟨qb 0,3,e1⟩,⟨qb 1,e1,e2⟩,⟨qb 2,e2,e3⟩,⟨qb 3,e3,e4⟩,⟨qb 4,e4,e5⟩].length) V] 300,.row (.slice U ([qh,⟨qb 0,3,e1⟩,⟨qb 1,e1,e2⟩,⟨qb 2,e2,e3⟩,⟨qb 3,e3,e4⟩,⟨qb 4,e4,e5⟩].length) V) ([qh,⟨qb 0,3,e1⟩,⟨qb 1,e1,e2⟩,⟨qb 2,e2,e3⟩,⟨qb 3,e3,e4⟩,⟨qb 4,e4,e5⟩].length) ([qh,⟨qb 0,3,e1⟩,⟨qb 1,e1,e2⟩,⟨qb 2,e2,e3⟩,⟨qb 3,e3,e4⟩,⟨qb 4,e4,e5⟩].flatMap iy) 435 3,.row (.slice Fz (abo (((((((([]:List Nat)++[nx])++[cp])++[cr])++[gp])++gs)++cl)++cu)) c37) (abo (((((((([]:List Nat)++[nx])++[cp])++[cr])++[gp])++gs)++cl)++cu)) ((((((((([]:List Nat)++[nx])++[cp])++[cr])++[gp])++gs)++cl)++cu).map bF) 41 1,.blk g2 #[vI 0] 27] from d))∘JG∘JQ) λa Z d=>?_
        rcases N9 b e5 0 65535 with o|⟨tk,a3,o,C⟩|⟨tk,a3,o,C⟩
        ·
         refine Jb Z d ((JR∘Jp 2) λa Z d=>?_)
         refine fo Z 2 rfl rfl ?_
         exact o9 Z [vP g 0,vQ 0,vQ 65535] rfl (U9 W _ g e5 A Fz c c37 b (((((((([]:List Nat)++[nx])++[cp])++[cr])++[gp])++gs)++cl)++cu) (.slice U ([qh,⟨qb 0,3,e1⟩,⟨qb 1,e1,e2⟩,⟨qb 2,e2,e3⟩,⟨qb 3,e3,e4⟩,⟨qb 4,e4,e5⟩].length) V) _ 0 65535 de (d.pk [0,2,1,3]) j l F hb s.2.2 O o) λw2 d=>tq Z rfl d (i:=1) rfl (r.trans (N8 o)) [] de rfl
        ·
         refine Jb Z d ((JR∘Jp 2) λa Z d=>?_)
         refine fo Z 2 rfl rfl ?_
         exact o9 Z [vP g 0,vQ 0,vQ 65535] rfl (U8 W _ g e5 A Fz c c37 b (((((((([]:List Nat)++[nx])++[cp])++[cr])++[gp])++gs)++cl)++cu) (.slice U ([qh,⟨qb 0,3,e1⟩,⟨qb 1,e1,e2⟩,⟨qb 2,e2,e3⟩,⟨qb 3,e3,e4⟩,⟨qb 4,e4,e5⟩].length) V) _ 0 65535 de (d.pk [0,2,1,3]) j l F hb s.2.2 O o C) λw2 d=>tq Z rfl d (i:=1) rfl (r.trans (o.bad C)) [] de rfl
        ·
         have r:=r.trans (o.goC C)
         have X:=o.in s.2.2
         have xD:=qR (x:=tk) O X.1
         rcases Fp b (8*tk) a3 with D|⟨ts,e6,D⟩
         ·
          refine Jb Z d ((JR∘Jp 2∘JL (h:=by exact λd=>OE W _ g e5 A Fz c c37 b (((((((([]:List Nat)++[nx])++[cp])++[cr])++[gp])++gs)++cl)++cu) (.slice U ([qh,⟨qb 0,3,e1⟩,⟨qb 1,e1,e2⟩,⟨qb 2,e2,e3⟩,⟨qb 3,e3,e4⟩,⟨qb 4,e4,e5⟩].length) V) _ 0 65535 de (d.pk [0,2,1,3]) j l F hb s.2.2 O o C)) ?_)
          rintro d _ w42 ⟨rfl,Vg,Vh,DW,e⟩
          refine ⟨_,rfl,_,e,?_⟩
          refine (Jp 1∘Jo (vI (8*tk:Nat)) (by exact zc om om)) λa Z d=>?_
          refine fo Z 4 rfl rfl ?_
          exact o9 Z [vP g 0,vI (8*tk:Nat)] rfl (KE W _ g a3 A Vg c Vh b ((((((((([]:List Nat)++[nx])++[cp])++[cr])++[gp])++gs)++cl)++cu)++[tk]) (.slice U ([qh,⟨qb 0,3,e1⟩,⟨qb 1,e1,e2⟩,⟨qb 2,e2,e3⟩,⟨qb 3,e3,e4⟩,⟨qb 4,e4,e5⟩].length) V) _ (8*tk) om DW (d.pk [0,1,2,3]) j l F hb X.2 xD D) λw2 d=>tq Z rfl d (i:=1) rfl (r.trans (Fh D)) [] de rfl
         ·
          have r:=r.trans D.goK
          have P:=D.in X.2
          have xE:=qU (xs:=ts) xD P.1 P.2.1
          refine Jb Z d ((JR∘Jp 2∘JL (h:=by exact λd=>OE W _ g e5 A Fz c c37 b (((((((([]:List Nat)++[nx])++[cp])++[cr])++[gp])++gs)++cl)++cu) (.slice U ([qh,⟨qb 0,3,e1⟩,⟨qb 1,e1,e2⟩,⟨qb 2,e2,e3⟩,⟨qb 3,e3,e4⟩,⟨qb 4,e4,e5⟩].length) V) _ 0 65535 de (d.pk [0,2,1,3]) j l F hb s.2.2 O o C)) ?_)
          rintro d _ w42 ⟨rfl,Vg,Vh,DW,e⟩
          refine ⟨_,rfl,_,e,?_⟩
          refine (Jp 1∘Jo (vI (8*tk:Nat)) (by exact zc om om)∘JL (h:=by exact λd=>KD W _ g a3 A Vg c Vh b ((((((((([]:List Nat)++[nx])++[cp])++[cr])++[gp])++gs)++cl)++cu)++[tk]) (.slice U ([qh,⟨qb 0,3,e1⟩,⟨qb 1,e1,e2⟩,⟨qb 2,e2,e3⟩,⟨qb 3,e3,e4⟩,⟨qb 4,e4,e5⟩].length) V) _ (8*tk) om DW (d.pk [0,1,2,3]) j l F hb X.2 xD D)) ?_
          rintro d _ QK ⟨rfl,KO,KP,DX,e⟩
          refine ⟨_,rfl,_,e,?_⟩
          refine (qC∘bg 1∘JL (h:=by exact λd=>zX (l2:=[qh,⟨qb 0,3,e1⟩,⟨qb 1,e1,e2⟩,⟨qb 2,e2,e3⟩,⟨qb 3,e3,e4⟩,⟨qb 4,e4,e5⟩,⟨qb 5,e5,e6⟩]) W _ g e6 _ _ U V ([qh,⟨qb 0,3,e1⟩,⟨qb 1,e1,e2⟩,⟨qb 2,e2,e3⟩,⟨qb 3,e3,e4⟩,⟨qb 4,e4,e5⟩]) _ _ (d.pk [0,2,1,3]) (acE rfl) rfl)) ?_
          rintro d _ EB ⟨rfl,KQ,KR,ar2,e⟩
          refine ⟨_,rfl,_,e,?_⟩
          refine (nE∘Jq∘JC (h:=by exact λd=>(show Mem W _ [.blk g #[.slice A (abo b) c,vI e6,.slice KO (abo (((((((((([]:List Nat)++[nx])++[cp])++[cr])++[gp])++gs)++cl)++cu)++[tk])++ts)) KP,.slice KQ ([qh,⟨qb 0,3,e1⟩,⟨qb 1,e1,e2⟩,⟨qb 2,e2,e3⟩,⟨qb 3,e3,e4⟩,⟨qb 4,e4,e5⟩,⟨qb 5,e5,e6⟩].length) KR] 300,.row (.slice KQ ([qh,⟨qb 0,3,e1⟩,⟨qb 1,e1,e2⟩,⟨qb 2,e2,e3⟩,⟨qb 3,e3,e4⟩,⟨qb 4,e4,e5⟩,⟨qb 5,e5,e6⟩].length) KR) ([qh,⟨qb 0,3,e1⟩,⟨qb 1,e1,e2⟩,⟨qb 2,e2,e3⟩,⟨qb 3,e3,e4⟩,⟨qb 4,e4,e5⟩,⟨qb 5,e5,e6⟩].length) ([qh,⟨qb 0,3,e1⟩,⟨qb 1,e1,e2⟩,⟨qb 2,e2,e3⟩,⟨qb 3,e3,e4⟩,⟨qb 4,e4,e5⟩,⟨qb 5,e5,e6⟩].flatMap iy) 435 3,.row (.slice KO (abo (((((((((([]:List Nat)++[nx])++[cp])++[cr])++[gp])++gs)++cl)++cu)++[tk])++ts)) KP) (abo (((((((((([]:List Nat)++[nx])++[cp])++[cr])++[gp])++gs)++cl)++cu)++[tk])++ts)) ((((((((((([]:List Nat)++[nx])++[cp])++[cr])++[gp])++gs)++cl)++cu)++[tk])++ts).map bF) 41 1,.blk g2 #[vI 0] 27] from d))∘JG∘JQ) λa Z d=>?_
          rcases Fp b (cp+3*cp*(gp-1)) e6 with E|⟨sp,e7,E⟩
          ·
           refine Jb Z d ((JR∘Jp 4∘Jo (vI (3*cp:Nat)) (by exact zc om om)∘Jp 1∘Al 1∘Jp 1∘Jo (vI (3*cp*(gp-1):Nat)) (by exact qtv (m:=3*cp) (n:=gp-1) (by have:=h3;omega))∘Ja) λa Z d=>?_)
           refine fo Z 8 rfl rfl ?_
           exact o9 Z [vP g 0,vI (cp+(3*cp*(gp-1)):Nat)] rfl (KE W _ g e6 A KO c KP b (((((((((([]:List Nat)++[nx])++[cp])++[cr])++[gp])++gs)++cl)++cu)++[tk])++ts) (.slice KQ ([qh,⟨qb 0,3,e1⟩,⟨qb 1,e1,e2⟩,⟨qb 2,e2,e3⟩,⟨qb 3,e3,e4⟩,⟨qb 4,e4,e5⟩,⟨qb 5,e5,e6⟩].length) KR) _ (cp+(3*cp*(gp-1))) om DX (d.pk [0,2,1,3]) j l F hb P.2.2 xE E) λw2 d=>tq Z rfl d (i:=1) rfl (r.trans (Fh E)) [] de rfl
          ·
           have r:=r.trans E.goK
           have Bv:=E.in P.2.2
           have ady:=qU (xs:=sp) xE Bv.1 Bv.2.1
           refine Jb Z d ((JR∘Jp 4∘Jo (vI (3*cp:Nat)) (by exact zc om om)∘Jp 1∘Al 1∘Jp 1∘Jo (vI (3*cp*(gp-1):Nat)) (by exact qtv (m:=3*cp) (n:=gp-1) (by have:=h3;omega))∘Ja∘JL (h:=by exact λd=>KD W _ g e6 A KO c KP b (((((((((([]:List Nat)++[nx])++[cp])++[cr])++[gp])++gs)++cl)++cu)++[tk])++ts) (.slice KQ ([qh,⟨qb 0,3,e1⟩,⟨qb 1,e1,e2⟩,⟨qb 2,e2,e3⟩,⟨qb 3,e3,e4⟩,⟨qb 4,e4,e5⟩,⟨qb 5,e5,e6⟩].length) KR) _ (cp+(3*cp*(gp-1))) om DX (d.pk [0,2,1,3]) j l F hb P.2.2 xE E)) ?_)
           rintro d _ w55 ⟨rfl,DY,DZ,KS,e⟩
           refine ⟨_,rfl,_,e,?_⟩
           refine (iZ∘bg 1∘JL (h:=by exact λd=>zX (l2:=[qh,⟨qb 0,3,e1⟩,⟨qb 1,e1,e2⟩,⟨qb 2,e2,e3⟩,⟨qb 3,e3,e4⟩,⟨qb 4,e4,e5⟩,⟨qb 5,e5,e6⟩,⟨qb 6,e6,e7⟩]) W _ g e7 _ _ KQ KR ([qh,⟨qb 0,3,e1⟩,⟨qb 1,e1,e2⟩,⟨qb 2,e2,e3⟩,⟨qb 3,e3,e4⟩,⟨qb 4,e4,e5⟩,⟨qb 5,e5,e6⟩]) _ _ (d.pk [0,2,1,3]) (acE rfl) rfl)) ?_
           rintro d _ w57 ⟨rfl,KT,KU,ar4,e⟩
           refine ⟨_,rfl,_,e,?_⟩
           refine (qC∘Jq∘JC (h:=by exact λd=>(show Mem W _ [.blk g #[.slice A (abo b) c,vI e7,.slice DY (abo ((((((((((([]:List Nat)++[nx])++[cp])++[cr])++[gp])++gs)++cl)++cu)++[tk])++ts)++sp)) DZ,.slice KT ([qh,⟨qb 0,3,e1⟩,⟨qb 1,e1,e2⟩,⟨qb 2,e2,e3⟩,⟨qb 3,e3,e4⟩,⟨qb 4,e4,e5⟩,⟨qb 5,e5,e6⟩,⟨qb 6,e6,e7⟩].length) KU] 300,.row (.slice KT ([qh,⟨qb 0,3,e1⟩,⟨qb 1,e1,e2⟩,⟨qb 2,e2,e3⟩,⟨qb 3,e3,e4⟩,⟨qb 4,e4,e5⟩,⟨qb 5,e5,e6⟩,⟨qb 6,e6,e7⟩].length) KU) ([qh,⟨qb 0,3,e1⟩,⟨qb 1,e1,e2⟩,⟨qb 2,e2,e3⟩,⟨qb 3,e3,e4⟩,⟨qb 4,e4,e5⟩,⟨qb 5,e5,e6⟩,⟨qb 6,e6,e7⟩].length) ([qh,⟨qb 0,3,e1⟩,⟨qb 1,e1,e2⟩,⟨qb 2,e2,e3⟩,⟨qb 3,e3,e4⟩,⟨qb 4,e4,e5⟩,⟨qb 5,e5,e6⟩,⟨qb 6,e6,e7⟩].flatMap iy) 435 3,.row (.slice DY (abo ((((((((((([]:List Nat)++[nx])++[cp])++[cr])++[gp])++gs)++cl)++cu)++[tk])++ts)++sp)) DZ) (abo ((((((((((([]:List Nat)++[nx])++[cp])++[cr])++[gp])++gs)++cl)++cu)++[tk])++ts)++sp)) (((((((((((([]:List Nat)++[nx])++[cp])++[cr])++[gp])++gs)++cl)++cu)++[tk])++ts)++sp).map bF) 41 1,.blk g2 #[vI 0] 27] from d))∘JG∘JQ) λa Z d=>?_
           refine wp_seq ?_
           refine zku ?_
           refine FX d [.blk g #[abl A b c,vI e7,.slice DY (abo ((((((((((([]:List Nat)++[nx])++[cp])++[cr])++[gp])++gs)++cl)++cu)++[tk])++ts)++sp)) DZ,.slice KT ([qh,⟨qb 0,3,e1⟩,⟨qb 1,e1,e2⟩,⟨qb 2,e2,e3⟩,⟨qb 3,e3,e4⟩,⟨qb 4,e4,e5⟩,⟨qb 5,e5,e6⟩,⟨qb 6,e6,e7⟩].length) KU] 300,.row (.slice KT ([qh,⟨qb 0,3,e1⟩,⟨qb 1,e1,e2⟩,⟨qb 2,e2,e3⟩,⟨qb 3,e3,e4⟩,⟨qb 4,e4,e5⟩,⟨qb 5,e5,e6⟩,⟨qb 6,e6,e7⟩].length) KU) ([qh,⟨qb 0,3,e1⟩,⟨qb 1,e1,e2⟩,⟨qb 2,e2,e3⟩,⟨qb 3,e3,e4⟩,⟨qb 4,e4,e5⟩,⟨qb 5,e5,e6⟩,⟨qb 6,e6,e7⟩].length) ([qh,⟨qb 0,3,e1⟩,⟨qb 1,e1,e2⟩,⟨qb 2,e2,e3⟩,⟨qb 3,e3,e4⟩,⟨qb 4,e4,e5⟩,⟨qb 5,e5,e6⟩,⟨qb 6,e6,e7⟩].flatMap iy) 435 3,.row (.slice DY (abo ((((((((((([]:List Nat)++[nx])++[cp])++[cr])++[gp])++gs)++cl)++cu)++[tk])++ts)++sp)) DZ) (abo ((((((((((([]:List Nat)++[nx])++[cp])++[cr])++[gp])++gs)++cl)++cu)++[tk])++ts)++sp)) (((((((((((([]:List Nat)++[nx])++[cp])++[cr])++[gp])++gs)++cl)++cu)++[tk])++ts)++sp).map bF) 41 1,.blk g2 #[vI 0] 27] [0,1,2,3] [] λd HS=>?_
           refine ap Z (λ_=>HS) [0,4] (bf 10 [0,4]) [(62,vP g 0),(58,vP g 0)] λa Z=>?_
           refine oO Z HS 1 λa Z=>?_
           refine ap Z (λ_=>HS) [2] (bf 10 [0,1,2,4]) [(60,vP g 1)] λa Z=>?_
           refine dH Z HS 3 0 λa Z=>?_
           refine oO Z HS 5 λa Z=>?_
           refine ap Z (λ_=>HS) [6] (bt 10 [7,8,9]) [(64,vP g 0)] λa Z=>?_
           refine dH Z HS 7 0 λa Z=>?_
           refine p9 Z HS 8 λa Z=>?_
           refine ap Z (λ_=>HS) [9] (bt 10 []) [(67,.bool ((e7:Int) !=(abo b:Int)))] λa Z=>?_
           refine qe kr ?_
           refine Jb Z d (Jh (λDn=>?_) λDn=>?_)
           ·
            have hne:e7≠abo b:=by omega
            refine (JT∘JR) λa Z d=>?_
            refine fo Z 0 rfl rfl ?_
            exact o9 Z [vI 346] rfl (Oa 346 _ d) λw2 d=>tq Z rfl d (i:=3) rfl (r.trans (if_pos hne)) [] de rfl
           obtain rfl:e7=abo b:=by omega
           have r:=r.trans (if_neg (λh=>h rfl))
           obtain ⟨qn,OO⟩:∃qn,((((((((((([]:List Nat)++[nx])++[cp])++[cr])++[gp])++gs)++cl)++cu)++[tk])++ts)++sp)=qn:=⟨_,rfl⟩
           intro a Z d
           rw [OO] at d KS
           refine Jb Z d ((aQ∘aM 1∘Jn∘Jg 1 O0∘dA 4∘Jn∘Jf 1∘JW aO gu) λadz=>(iZ∘bg 1∘JL (h:=by exact λd=>zX (l2:=[qh,⟨qb 0,3,e1⟩,⟨qb 1,e1,e2⟩,⟨qb 2,e2,e3⟩,⟨qb 3,e3,e4⟩,⟨qb 4,e4,e5⟩,⟨qb 5,e5,e6⟩,⟨qb 6,e6,abo b⟩,⟨⟨#[115,117,109]⟩,abo b,abo b+4⟩]) W _ g (abo b+4:Nat) _ _ KT KU ([qh,⟨qb 0,3,e1⟩,⟨qb 1,e1,e2⟩,⟨qb 2,e2,e3⟩,⟨qb 3,e3,e4⟩,⟨qb 4,e4,e5⟩,⟨qb 5,e5,e6⟩,⟨qb 6,e6,abo b⟩]) _ _ (d.pk [0,1,2,3]) (acE rfl) rfl)) ?_)
           rintro d _ Te ⟨rfl,Vi,Vj,Vk,e⟩
           refine ⟨_,rfl,_,e,?_⟩
           refine (nE∘Jq∘JC (h:=by exact λd=>(show Mem W _ [.blk g #[.slice A (abo b) c,vI (abo b+4:Nat),abl DY qn DZ,.slice Vi ([qh,⟨qb 0,3,e1⟩,⟨qb 1,e1,e2⟩,⟨qb 2,e2,e3⟩,⟨qb 3,e3,e4⟩,⟨qb 4,e4,e5⟩,⟨qb 5,e5,e6⟩,⟨qb 6,e6,abo b⟩,⟨⟨#[115,117,109]⟩,abo b,abo b+4⟩].length) Vj] 300,.row (.slice Vi ([qh,⟨qb 0,3,e1⟩,⟨qb 1,e1,e2⟩,⟨qb 2,e2,e3⟩,⟨qb 3,e3,e4⟩,⟨qb 4,e4,e5⟩,⟨qb 5,e5,e6⟩,⟨qb 6,e6,abo b⟩,⟨⟨#[115,117,109]⟩,abo b,abo b+4⟩].length) Vj) ([qh,⟨qb 0,3,e1⟩,⟨qb 1,e1,e2⟩,⟨qb 2,e2,e3⟩,⟨qb 3,e3,e4⟩,⟨qb 4,e4,e5⟩,⟨qb 5,e5,e6⟩,⟨qb 6,e6,abo b⟩,⟨⟨#[115,117,109]⟩,abo b,abo b+4⟩].length) ([qh,⟨qb 0,3,e1⟩,⟨qb 1,e1,e2⟩,⟨qb 2,e2,e3⟩,⟨qb 3,e3,e4⟩,⟨qb 4,e4,e5⟩,⟨qb 5,e5,e6⟩,⟨qb 6,e6,abo b⟩,⟨⟨#[115,117,109]⟩,abo b,abo b+4⟩].flatMap iy) 435 3,abm DY qn DZ bF 41 1,.blk g2 #[vI 0] 27] from d))∘JG∘JP∘JW og aO) λadA=>(aJ∘aP) λa Z d=>?_
           exact zfa Z rfl d (i:=3) rfl λw3 d=> .inl ⟨(⟨nx,cp,cr,gp,gs,cl,cu,tk,ts,sp,e1,e2,e3,e4,e5,e6,abo b⟩:Pr),DY,DZ,Vi,Vj,r,rfl,by subst OO;rw [qzr];exact KS,Vk,by subst OO;rw [qzr];exact d.pk [0,2,1]⟩
def zld (W w:aiM) (g:Nat) (A:aiW) (c:Nat) (b:List Nat) (n:Mem W w [.blk g #[.slice A (abo b) c,vI 0,vN,vN] 300]) (i:Rd W W.heap.size 1 A (abo b) (b.map B8)) (j:abo b<=c) (o:∀z∈b,z<256) (hb:abo b<=16777216) (l:3<=abo b) {p:Pr} (h:sU b= .ok p):Calls abp 240 #[vP g 0] w (λr m=>r= .returned (vI 0)/\∃e d f sc,abo p.nums<=d/\abo p.secs<=sc/\Mem W m (.blk g #[.slice A (abo b) c,vI ((abo b+4:Nat):Int),.slice e (abo p.nums) d,.slice f (abo p.secs) sc] 300::ait e p.nums d (p.nums.map bF) f p.secs sc (p.secs.flatMap iy) [])):=
 (qzs W w g A c b n i j o hb l).mono λr m q => by
  rcases q with ⟨s,e,d,f,sc,a,t,u,v,x⟩|⟨k,a,_⟩
  ·obtain rfl:s=p:=by rw [h] at a;injection a with a;exact a.symm
   exact ⟨t,e,d,f,sc,u,v,x⟩
  ·rw [h] at a;cases a
def zle (W w:aiM) (g:Nat) (A:aiW) (c:Nat) (b:List Nat) (j:Mem W w [.blk g #[.slice A (abo b) c,vI 0,vN,vN] 300]) (d:Rd W W.heap.size 1 A (abo b) (b.map B8)) (e:abo b<=c) (l:∀z∈b,z<256) (hb:abo b<=16777216) (f:3<=abo b) {k:Nat} (h:sU b= .error k):Calls abp 240 #[vP g 0] w (λr i=>r= .returned (vI k)/\Mem W i []):=
 (qzs W w g A c b j d e l hb f).mono λr i m => by
  rcases m with ⟨q,s,t,u,sc,a,_⟩|⟨n,a,o,p⟩
  ·rw [h] at a;cases a
  ·obtain rfl:n=k:=by rw [h] at a;injection a with a;exact a.symm
   exact ⟨o,p⟩
def Bw (w:aiM) (l:List Nat) (r:aiQ) (b:aiM):Prop:=(∃p,fZ l= .ok p/\∃g e f c a d sc,r= .returned (.tuple #[vP g 0,vI 0])/\abo p.nums<=a/\abo p.secs<=sc/\Mem w b (.blk g #[e,f,.slice c (abo p.nums) a,.slice d (abo p.secs) sc] 300::ait c p.nums a (p.nums.map bF) d p.secs sc (p.secs.flatMap iy) []))\/(∃k:Nat,fZ l= .error k/\Is w (.tuple #[.pointer none,vI k]) r b)
def D5 (n:Int) (h:fZ l= .error k) (hk:n=k) (hr:r= .returned (.tuple #[.pointer none,vI n])) (hb:Below w.heap.size w W):Bw w l r W:= .inr ⟨k,h,by rw [hr,hk],hb⟩
def qzt (A:aiW) (c:Nat) (l:List Nat) (B:Nat) (w:aiM) (K:aR B w) (I:B<=w.heap.size) (hr:Rd w w.heap.size 1 A (abo l) (l.map B8)) (hc:abo l<=c) (S:abo l<=100000000) (J:∀z∈l,z<256):
    Calls abp 169 #[.slice A (abo l) c] w (Bw w l):=by
 refine (fE Tryz.func169 47) ?_
 refine (dh 2∘JQ∘JB∘aM 1∘Jl∘Jp 2∘eP∘Jj) (Ji (λD=>?_) λD=>?_)
 ·
  exact (JT∘bE 2∘bW) λd=>D5 _ (q8u om) rfl rfl d.below
 refine (JF∘aM 1∘Jl∘Jp 2∘eP∘Jj) (Ji (λn=>?_) λn=>?_)
 ·
  exact (JT∘bE 2∘bW) λd=>D5 _ (zet om om) rfl rfl d.below
 refine (JF∘aM 1∘JI (h:=by exact λd=>QG A (abo l) c l B _ (K.mem d I) (d.le I) (d.old hr) hc rfl om J)) λL M=>(Jp 2∘eP∘Jj) (Ju (λg=>?_) λg=>?_)
 ·
  have e:zn l=false:=by simpa using g
  exact (JT∘bE 2∘bW) λd=>D5 _ (zky om om e) rfl rfl d.below
 have e:zn l=true:=by simpa using g
 refine (JF∘aM 1) ?_
 obtain ⟨gA,f,rfl,_⟩:=hr.sat 0
 refine (Jy (v:=vP gA f) (h:=by exact Yl.indexAddr (ad:=⟨gA,f,none⟩) (y:=0) (sz:=1) rfl rfl rfl om kr)∘Jy (h:=by exact aad hr 0 0 (by first|omega|(simp;omega)) rfl rfl)∘Jp 2) (Jh (λo=>?_) λo=>?_)
 ·
  exact (Jp 6∘aJ∘Jj∘JT∘bE 2∘bW) λd=>D5 _ (qtw om om e om) rfl rfl d.below
 refine (Jp 1∘Jy (v:=vP gA (f+1)) (h:=by exact Yl.indexAddr (ad:=⟨gA,f,none⟩) (y:=1) (sz:=1) rfl rfl rfl om kr)∘Jy (h:=by exact aad hr 1 0 (by first|omega|(simp;omega)) rfl rfl)∘Jp 3∘aJ∘Jj) (Jh (λq=>?_) λq=>?_)
 ·
  exact (JT∘bE 2∘bW) λd=>D5 _ (qtw om om e om) rfl rfl d.below
 refine (JF∘aM 1∘Jy (v:=vP gA (f+2)) (h:=by exact Yl.indexAddr (ad:=⟨gA,f,none⟩) (y:=2) (sz:=1) rfl rfl rfl om kr)∘Jy (h:=by exact aad hr 2 0 (by first|omega|(simp;omega)) rfl rfl)∘Jp 2∘fJ∘Jj) (Jh (λr=>?_) λr=>?_)
 ·
  exact (JT∘bE 2∘bW) λd=>D5 _ (qwr om om e om om) rfl rfl d.below
 refine (aQ∘JQ) ?_
 obtain ⟨b,i⟩:∃b,l.take (abo l-4)=b:=⟨_,rfl⟩
 have s:abo b=abo l-4:=by rw [<-i,abx];omega
 have t:Rd w w.heap.size 1 (some ⟨gA,f,none⟩) (abo b) (b.map B8):=by rw [s,<-i];exact hr.BU om
 have u:∀z∈b,z<256:=λz hz=>J z (acG (i▸hz))
 have m:=q8v om om e om om
 rw [i] at m
 intro a Z d
 skip
 ·
  refine Jb Z d ((JR∘Jp 2∘Jl∘Al 4∘Jy (v:= .slice (some ⟨gA,f,none⟩) (abo l-4) c) (h:=by exact aah bA (j:=abo l-4) rfl rfl rfl om)∘Jo (.slice (some ⟨gA,f,none⟩) (abo b) c) (by rw [s])∘fD #[abl (some ⟨gA,f,none⟩) b c,vI 0,vN,vN]∘JE) λN x=>(Jp 1∘aJ∘Jj∘JQ∘JQ) λa Z d=>?_)
  rcases hpr:sU b with k|p
  ·
   have O:=q8t hpr
   refine Jb Z d ((JR∘Jp 1∘JO (h:=by exact λd=>zle w _ x (some ⟨gA,f,none⟩) c b (d.pk [0]) t om u om om hpr)) λE=>(Jp 1∘bU∘bg 2∘aL∘Jj) (Jh (λC=>?_) λC=>?_))
   ·
    exact (JT∘bE 3∘bW) λd=>D5 _ (m.trans hpr) rfl rfl d.below
   intro a Z d
   exfalso;omega
  ·
   refine Jb Z d ((JR∘Jp 1∘JL (h:=by exact λd=>zld w _ x (some ⟨gA,f,none⟩) c b (d.pk [0]) t om u om om hpr)) ?_)
   rintro d _ E ⟨rfl,P,Q,R,sc,F,G,H⟩
   refine ⟨_,rfl,_,H,?_⟩
   exact (Jp 1∘bU∘Jr∘Jv 2 [(44,.bool false)]∘Jj∘aQ∘bE 3∘bW) λd=>by exact .inl ⟨p,m.trans hpr,_,_,_,P,Q,R,sc,rfl,F,G,d⟩
def zlf (A:aiW) (c:Nat) (l:List Nat) (B:Nat) (w:aiM) (i:aR B w) (j:B<=w.heap.size) (hr:Rd w w.heap.size 1 A (abo l) (l.map B8)) (hc:abo l<=c) (m:abo l<=100000000) (n:∀z∈l,z<256) {p:Pr} (h:fZ l= .ok p):Calls abp 169 #[.slice A (abo l) c] w (λr d=>∃g o q e b f sc,r= .returned (.tuple #[vP g 0,vI 0])/\abo p.nums<=b/\abo p.secs<=sc/\Mem w d (.blk g #[o,q,.slice e (abo p.nums) b,.slice f (abo p.secs) sc] 300::ait e p.nums b (p.nums.map bF) f p.secs sc (p.secs.flatMap iy) [])):=
 (qzt A c l B w i j hr hc m n).mono λr d s => by
  rcases s with ⟨t,a,u⟩|⟨k,a,_⟩
  ·obtain rfl:t=p:=by rw [h] at a;injection a with a;exact a.symm
   exact u
  ·rw [h] at a;cases a
def zlg (A:aiW) (c:Nat) (l:List Nat) (B:Nat) (w:aiM) (b:aR B w) (d:B<=w.heap.size) (hr:Rd w w.heap.size 1 A (abo l) (l.map B8)) (hc:abo l<=c) (e:abo l<=100000000) (f:∀z∈l,z<256) {k:Nat} (h:fZ l= .error k):Calls abp 169 #[.slice A (abo l) c] w (Is w (.tuple #[.pointer none,vI k])):=
 (qzt A c l B w b d hr hc e f).mono λr m g => by
  rcases g with ⟨n,a,_⟩|⟨i,a,j⟩
  ·rw [h] at a;cases a
  ·obtain rfl:i=k:=by rw [h] at a;injection a with a;exact a.symm
   exact j
abbrev aia:=λa b c d e=>(.blk a #[.slice b c d,.bool e] 302:aiX)
def Ko (W:aiM) (g k:Nat) (b:aiW) (a:Nat) (q:List Nat) (o:Bool) (fs:List aiX) (v:aiN) (r:aiQ) (c:aiM):Prop:=r= .returned v/\Mem W c (aia g (d9 b a k) (abo q-k) (a-k) o::.row (.slice b (abo q) a) (abo q) (q.map bF) 41 1::fs)
def qo2 {o b:Bool} {v:aiN} (hr:r= .returned v) (a:b=o) (d:Mem W w (.blk g #[.slice (d9 A c k) (abo q-k) (c-k),.bool b] 302:: .row (.slice A (abo q) c) (abo q) (q.map bF) 41 1::fs)):Ko W g k A c q o fs v r w:=by subst a;exact ⟨hr,d⟩
def ze3 (x m:Nat):decide ((x:Int)<=(m:Int))=dle x m:=decide_eq_decide.2 Int.ofNat_le
def qzl (m:Nat) (W w:aiM) (g k:Nat) (f:aiW) (b:Nat) (q:List Nat) (o:Bool) (fs:List aiX) (s:Mem W w (.blk g #[.slice (d9 f b k) (abo q-k) (b-k),.bool o] 302:: abm f q b bF 41 1::fs)) (l:abo q<=b) (hk:k<abo q):
    Calls abp 242 #[vP g 0,vQ m] w (Ko W g (k+1) f b q (o&&dle (q.getD k 0) m) fs (vQ (q.getD k 0:Int))):=by
 refine (iP Tryz.func242 33) ?_
 intro a Z d
 replace d:=s
 obtain ⟨n,oS,p,_⟩:=Rd.Xk (Um (d.rd (i:=1) rfl) l k om) om de
 refine Jb Z d ((aM 1∘bg 1∘Jn∘Jf 0∘Jc O0∘Jo (.slice (some ⟨n,oS,none⟩) (abo q-k) (b-k)) (by rw [p];try rfl)∘Jy (v:=vP n oS) (h:=by exact Yl.indexAddr (ad:=⟨n,oS,none⟩) (y:=0) (sz:=1) rfl rfl rfl om kr)∘Jy (v:=vQ (q.getD k 0)) (h:=by exact Pd rfl rfl kr (λ_ h=>zn7 (h.rd (i:=1) rfl) l hk p))∘Jp 1∘aJ∘bg 2∘Jn∘Jg 0 O0∘Jy (v:= .slice (if b-k=1 then d9 f b k else (d9 f b k:aiW).map (·.add (1*1))) ((abo q-k)-1) ((b-k)-1)) (h:=by exact aaf kM (j:=1) rfl rfl rfl om)∘Jo (.slice (d9 f b (k+1)) (abo q- (k+1)) (b- (k+1))) (by exact rfl)∘Jn∘Jf 0∘JW aO aO) λr=>(iZ∘bg 2∘Jn∘Jg 1 O0∘Jp 1) (Ju (λc=>?_) λc=>?_))
 ·
  exact (Jp 4∘Jn∘Jf 1∘JW aO gu) λe=>(iZ∘bg 2∘aJ∘aP∘aW) λd=>qo2 rfl (by rw [c,acn];exact ze3 _ _) d
 exact (Jp 4∘Jn∘Jf 1∘JW aO gu) λe=>(iZ∘bg 2∘aJ∘aP∘aW) λd=>qo2 rfl (by rw [c];rfl) d
def zU (m:Nat) (W w:aiM) (g k:Nat) (b:aiW) (a:Nat) (q:List Nat) (o:Bool) (fs:List aiX) (d:Mem W w (.blk g #[.slice (d9 b a k) (abo q-k) (a-k),.bool o] 302:: .row (.slice b (abo q) a) (abo q) (q.map bF) 41 1::fs)) (c:abo q<=a) (hk:k<abo q) {x k2:Nat} {o2:Bool} (e:q.getD k 0=x) (f:k+1=k2) (h:(o&&dle x m)=o2):Calls abp 242 #[vP g 0,vQ m] w (Ko W g k2 b a q o2 fs (vQ x)):=by
 subst e;subst f;subst h
 exact qzl m W w g k b a q o fs d c hk
def q9f (W w:aiM) (g k:Nat) (b:aiW) (a:Nat) (q:List Nat) (o:Bool) (fs:List aiX) (e:Mem W w (.blk g #[.slice (d9 b a k) (abo q-k) (a-k),.bool o] 302:: abm b q a bF 41 1::fs)) (d:abo q<=a) (hk:k<abo q):
    Calls abp 241 #[vP g 0] w (Ko W g (k+1) b a q (o&&dle (q.getD k 0) aC) fs (vI (bQ (q.getD k 0)))):=by
 refine (fE Tryz.func241 6) ?_
 exact (JC (h:=by exact λc=>e)∘aM 1∘bg 1∘JO (h:=by exact λc=>qzl aC W _ g k b a q o fs c d hk)) λf=>(Jv 1 [(5,vI (IntKind.i64.wrap (q.getD k 0:Int)))]∘Jo (vI (bQ (q.getD k 0))) (by exact rfl)∘Jp 1∘eP∘aP∘aW) λc=>by exact ⟨rfl,c⟩
def uV (W w:aiM) (g k:Nat) (b:aiW) (a:Nat) (q:List Nat) (o:Bool) (fs:List aiX) (d:Mem W w (.blk g #[.slice (d9 b a k) (abo q-k) (a-k),.bool o] 302:: .row (.slice b (abo q) a) (abo q) (q.map bF) 41 1::fs)) (c:abo q<=a) (hk:k<abo q) {x k2:Nat} {o2:Bool} {v:Int} (e:q.getD k 0=x) (f:k+1=k2) (h:(o&&dle x aC)=o2) (i:bQ x=v):Calls abp 241 #[vP g 0] w (Ko W g k2 b a q o2 fs (vI v)):=by
 subst e;subst f;subst h;subst i
 exact q9f W w g k b a q o fs d c hk
def aa3 {f r1 a b c d:aiX} {rs:List aiX} (h:Mem W w (f::r1::a::b::c::d::(fs++rs))):Mem W w (f::(fs++([r1,a,b,c,d]++rs))):=h.perm ((List.perm_append_comm_assoc [r1,a,b,c,d] fs rs).cons f)
def zlb (x:Nat):((x:Int)==(1:Int))=decide (x=1):=by
 rw [Bool.eq_iff_iff,beq_iff_eq,decide_eq_true_eq]
 omega
def ze4 {p:Pr} (h:0<j):p.pV (j+1)=((p.pV j&&dle (p.gs.getD (2*(j-1)) 0) aC)&&dle (p.gs.getD (2*(j-1)+1) 0) aC):=if_neg om
def q9h {p:Pr} (h:j=0):p.pV (j+1)=p.pV j:=by subst h;rfl
def Kq {p:Pr} {y x:Nat} (h:y=0):p.so y (x+1)=p.so y x+1:=by subst h;rw [zN,zN]
def Kr {p:Pr} {y x:Nat} (h:0<y):p.so y (x+1)=p.so y x+3:=by rw [uE h,uE h];omega
def Kt {p:Pr} {b:Bool} {y x:Nat} (h:y=0):p.l7 b y (x+1)=(p.l7 b y x&&dle (p.sn y x 0) 18446744073709551615):=if_pos h
def Ku {p:Pr} {b:Bool} {y x:Nat} (h:0<y):p.l7 b y (x+1)=(((p.l7 b y x&&dle (p.sn y x 0) 18446744073709551615)&&dle (p.sn y x 1) 4294967295)&&dle (p.sn y x 2) 18446744073709551615):=if_neg om
def ze5 (W:aiM) (g:Nat) (p:Pr) (fs:List aiX) (r:aiQ) (a:aiM):Prop:=∃(z:dF) (A:aiW) (n c:Nat),r= .returned (.agg z.cells)/\dM p.rH z/\gD z.st/\Mem W a (aia g A n c p.okB::(fs++jP z.st))
abbrev aiz {α β γ δ ε:Type}:=λa b c d e (f:List α) g h (i:List β) j k (l:List γ) m n (o:List δ) p q (r:List ε) s=>(.blk a #[vI b,vI c,vQ d,abl e f g,abl h i j,abl k l m,abl n o p,abl q r s] 50:aiX)
def q2z (W w:aiM) (g:Nat) (e:aiW) (d:Nat) (p:Pr) (h:p.Fit) (fs:List aiX) (HW:Mem W w (.blk g #[abl e p.nums d,.bool true] 302:: abm e p.nums d bF 41 1::fs)) (o:abo p.nums<=d):
    Calls abp 170 #[vP g 0] w (ze5 W g p fs):=by
 obtain ⟨hnl,hsl⟩:=zex h
 have n0:=zew p
 have eC:p.oC=4+2*(p.gp-1):=rfl
 have eT:p.oT=p.oC+2*p.cp:=rfl
 have eS:p.oS=p.oT+1+8*p.tk:=rfl
 have c1:=h.cp1;have c2:=h.cp2;have c3:=h.Ul;have c4:=h.Ke;have c5:=h.tk
 refine (fE Tryz.func170 191) ?_
 refine (JC (h:=by exact λb=>HW)∘JP∘JA aiI) λw2 O=>(bg 1∘JO (h:=by exact λb=>uV W _ g 0 e d p.nums true _ (b.pt 3 [1,2,0]) o om (x:=p.nx) (k2:=1) (o2:=true&&dle p.nx aC) (n0.1) (rfl) (rfl) (rfl))) λvH=>(fD #[vI (bQ p.nx),vI 0,vQ 0,vN,vN,vN,vN,vN]∘JA aiI) λw3 F=>(JV zo aO) λRU=>(eP∘Jr∘Jf 1∘Jp 1∘aL∘bg 3∘JO (h:=by exact λb=>uV W _ g 1 e d p.nums (true&&dle p.nx aC) _ (b.pt 4 [1,2,0,3]) o om (x:=p.cp) (k2:=2) (o2:=(true&&dle p.nx aC)&&dle p.cp aC) (n0.2.1) (rfl) (rfl) (Un om))) λNU=>(Jp 1∘JO (h:=by exact λb=>zU 18446744073709551615 W _ g 2 e d p.nums ((true&&dle p.nx aC)&&dle p.cp aC) _ (b.pt 4 [0,1,2,3]) o om (x:=p.cr) (k2:=3) (o2:=((true&&dle p.nx aC)&&dle p.cp aC)&&dle p.cr 18446744073709551615) (n0.2.2.1) (rfl) (rfl))) λNT=>(Jn∘Jf 0∘Jf 0∘JW iG gu) λaq6=>(Jn∘Jf 0∘Jf 1∘JW iG iG) λadj=>(iZ∘Jj∘bN 1∘JO (h:=by exact λb=>uV W _ g 3 e d p.nums (((true&&dle p.nx aC)&&dle p.cp aC)&&dle p.cr 18446744073709551615) _ (b.pt 4 [0,1,2,3]) o om (x:=p.gp) (k2:=4+2*(0-1)) (o2:=p.pV 0) (n0.2.2.2) (rfl) (rfl) (Un om))) λw29=>(Jp 1∘Jq∘JC (h:=by exact λb=>b.nil 198 2)∘JG∘JB) λa Z b=>?_
 refine qg (λV aS wS=>∃(j:Nat) (G:List Gr) (B:aiW) (r:Nat),(j<=p.gp)/\(G=bV j p.iL)/\(abo G=j)/\(abo G<=r)/\V=p.gp-j/\Fr aS 191 [] (ahY 30 j 29 p.gp [(4,vP F 1),(3,vP F 0),(2,vP O 0),(0,vP g 0)])/\Mem W wS (abn B G r fQ 198 2::aia g (d9 e d (4+2*(j-1))) (abo p.nums- (4+2*(j-1))) (d- (4+2*(j-1))) (p.pV j)::abm e p.nums d bF 41 1::.blk F #[vI (bQ p.nx),vI p.cp,vQ p.cr,abl B G r,vN,vN,vN,vN] 50::ahP O::fs)) (m:=p.gp-0) ⟨0,[],none,0,abz _,rfl,rfl,abu _,rfl,Z.sub kr,b.pt 5 [0,1,2,3,4]⟩ ?_
 clear Z b;rintro V a w_ ⟨j,G,B,r,hj,hG,Oy,hGc,rfl,Z,b⟩
 refine Jb Z b ((dh 1∘JQ) (Ji (λhd31=>?_) λhd31=>?_))
 ·
  refine (eY∘aM 2∘aL∘Jr∘fD #[vI 0,vI 1]∘JA #[vI 0,vI 0]) λw6 g6=>(JV kD aO) λRk=>(aL∘Jj∘bN 2∘aL∘Jj) (Ji (λUH=>?_) λUH=>?_)
  ·
   have hgr:p.iL j=⟨bQ (p.gs.getD (2*(j-1)) 0),bQ (p.gs.getD (2*(j-1)+1) 0)⟩:=if_neg om
   refine (JT∘JR∘Jp 1∘JO (h:=by exact λb=>uV W _ g (4+2*(j-1)) e d p.nums (p.pV j) _ (b.pt 6 [2,3,0,1,4,5]) o om (x:=p.gs.getD (2*(j-1)) 0) (k2:=4+(2*(j-1)+1)) (o2:=p.pV j&&dle (p.gs.getD (2*(j-1)) 0) aC) (q8y h (j:=2*(j-1)) om) (rfl) (rfl) (rfl))) λEJ=>(Jp 1∘JO (h:=by exact λb=>uV W _ g (4+(2*(j-1)+1)) e d p.nums (p.pV j&&dle (p.gs.getD (2*(j-1)) 0) aC) _ (b.pt 6 [0,1,2,3,4,5]) o om (x:=p.gs.getD (2*(j-1)+1) 0) (k2:=4+2*(j+1-1)) (o2:=(p.pV j&&dle (p.gs.getD (2*(j-1)) 0) aC)&&dle (p.gs.getD (2*(j-1)+1) 0) aC) (q8y h (j:=2*(j-1)+1) om) om (rfl) (rfl))) λNQ=>(Jf 0∘JW iG aO) λKv=>(Jf 1∘JW iG gu) λaq9=>(iZ∘Jq∘JC (h:=by exact λb=>(show Mem W _ (aia g (d9 e d (4+2*(j+1-1))) (abo p.nums- (4+2*(j+1-1))) (d- (4+2*(j+1-1))) ((p.pV j&&dle (p.gs.getD (2*(j-1)) 0) aC)&&dle (p.gs.getD (2*(j-1)+1) 0) aC)::abm e p.nums d bF 41 1::.blk g6 #[vI (bQ (p.gs.getD (2*(j-1)) 0)),vI (bQ (p.gs.getD (2*(j-1)+1) 0))] 198::abn B G r fQ 198 2::.blk F #[vI (bQ p.nx),vI p.cp,vQ p.cr,abl B G r,vN,vN,vN,vN] 50::ahP O::fs) from b))∘JG∘Vs (.t (.t (.t (.f .n)))) [12]) λrT=>(Vp [0,1]∘Vn 2∘Vf 3 0∘Vf 4 2∘Vc 5 O3∘mK 6 kD O2) λa Z b I=>?_
   refine s_on Z 7 rfl (jA Z b jv [(0,.agg #[vI (bQ (p.gs.getD (2*(j-1)) 0)),vI (bQ (p.gs.getD (2*(j-1)+1) 0))])] #[vI (bQ (p.gs.getD (2*(j-1)) 0)),vI (bQ (p.gs.getD (2*(j-1)+1) 0))] ?_)
   clear Z b;intro a Ao Yh Z b
   refine av (b.pt 7 [1,2,3,5,6]) (λI=>?_)
   refine s_on Z 8 rfl (rO Z b (i:=4) rfl jv rfl rfl rfl (news:=([(⟨bQ (p.gs.getD (2*(j-1)) 0),bQ (p.gs.getD (2*(j-1)+1) 0)⟩:Gr)].flatMap fQ)) (b.bB (i:=0) (n:=1) (size:=2) rfl rfl) (Iw _) om om rfl de ?_)
   clear Z b;intro a Gn xX xY Z b X
   refine av (b.pt 7 [1,2,3,5,6]) (λI=>?_)
   refine Vb Z b I ((Vn 9∘Vf 10 0∘Vf 11 2) λa Z b I=>?_)
   refine s_on Z 12 rfl (eO Z b 5 λDT b=>?_)
   refine dU kr ?_
   refine qe kr ?_
   have s:abo G+1=abo (G++[p.iL j]):=nS rfl
   rw [s] at X
   replace b:=b.bC (i:=4) (ys:=(G++[p.iL j]).flatMap fQ) rfl s (by rw [hgr];exact List.flatMap_append.symm)
   replace Z:=Z.sp 50 (abl xX (G++[p.iL j]) xY) rfl (iW s)
   replace b:=b.dX (i:=5) (ds:= #[vI (bQ p.nx),vI p.cp,vQ p.cr,abl xX (G++[p.iL j]) xY,vN,vN,vN,vN]) rfl (by rw [s];try rfl)
   refine Jb Z b ((JG∘JR∘dA 1∘Jp 1∘aL∘Jq) λa Z b=>?_)
   replace b:=b.dX (i:=1) (ds:= #[.slice (d9 e d (4+2*(j+1-1))) (abo p.nums- (4+2*(j+1-1))) (d- (4+2*(j+1-1))),.bool (p.pV (j+1))]) rfl (by rw [ze4 om])
   exact ⟨_,om,j+1,(G++[p.iL j]),xX,xY,by omega,by rw [hG,zL],by rw [abq,Oy];rfl,X,rfl,Z.sub kr,b.pt 7 [4,1,2,5,6]⟩
  have hgr:p.iL j=⟨0,1⟩:=if_pos om
  refine (aQ∘Vs (.t (.f .n)) [12]) λrT=>(Vp [0,1]∘Vn 2∘Vf 3 0∘Vf 4 2∘Vc 5 O3∘mK 6 kD O0) λa Z b I=>?_
  refine s_on Z 7 rfl (jA Z b jv [(0,.agg #[vI 0,vI 1])] #[vI 0,vI 1] ?_)
  clear Z b;intro a Ao Yh Z b
  refine av (b.pt 7 [1,3,4,5,6]) (λI=>?_)
  refine s_on Z 8 rfl (rO Z b (i:=2) rfl jv rfl rfl rfl (news:=([(⟨0,1⟩:Gr)].flatMap fQ)) (b.bB (i:=0) (n:=1) (size:=2) rfl rfl) (Iw _) om om rfl de ?_)
  clear Z b;intro a Gn xX xY Z b X
  refine av (b.pt 7 [1,3,4,5,6]) (λI=>?_)
  refine Vb Z b I ((Vn 9∘Vf 10 0∘Vf 11 2) λa Z b I=>?_)
  refine s_on Z 12 rfl (eO Z b 5 λDT b=>?_)
  refine dU kr ?_
  refine qe kr ?_
  have s:abo G+1=abo (G++[p.iL j]):=nS rfl
  rw [s] at X
  replace b:=b.bC (i:=2) (ys:=(G++[p.iL j]).flatMap fQ) rfl s (by rw [hgr];exact List.flatMap_append.symm)
  replace Z:=Z.sp 50 (abl xX (G++[p.iL j]) xY) rfl (iW s)
  replace b:=b.dX (i:=5) (ds:= #[vI (bQ p.nx),vI p.cp,vQ p.cr,abl xX (G++[p.iL j]) xY,vN,vN,vN,vN]) rfl (by rw [s];try rfl)
  refine Jb Z b ((JG∘JR∘dA 1∘Jp 1∘aL∘Jq) λa Z b=>?_)
  replace b:=b.dX (i:=3) (ds:= #[.slice (d9 e d (4+2*(j+1-1))) (abo p.nums- (4+2*(j+1-1))) (d- (4+2*(j+1-1))),.bool (p.pV (j+1))]) rfl (by rw [q9h om,show 4+2*(j+1-1)=4+2*(j-1) by omega])
  exact ⟨_,om,j+1,(G++[p.iL j]),xX,xY,by omega,by rw [hG,zL],by rw [abq,Oy];rfl,X,rfl,Z.sub kr,b.pt 7 [2,3,4,5,6]⟩
 refine (JF∘JX∘JG∘bN 1∘Jn∘Jf 0∘Jg 0 O3∘Jp 1∘Jq∘JC (h:=by exact λb=>b.nil 3 1)∘JC (h:=by exact λb=>b.dX (i:=2) (ds:= #[.slice (d9 e d (p.oC+0)) (abo p.nums- (p.oC+0)) (d- (p.oC+0)),.bool (p.zM 0)]) rfl (by rw [show j=p.gp by omega];rfl))∘JG∘JB) λa Z b=>?_
 refine qg (λV aS wS=>∃(k:Nat) (C:List Int) (D:aiW) (cl:Nat),(k<=p.cp)/\(C=bV k λi=>bQ (p.cl.getD i 0))/\(abo C=k)/\(abo C<=cl)/\V=p.cp-k/\Fr aS 191 [] (ahY 60 k 59 p.cp ((31,.bool false)::ahY 30 j 29 p.gp [(4,vP F 1),(3,vP F 0),(2,vP O 0),(0,vP g 0)]))/\Mem W wS (abm D C cl aZ 3 1::abn B G r fQ 198 2::aia g (d9 e d (p.oC+k)) (abo p.nums- (p.oC+k)) (d- (p.oC+k)) (p.zM k)::abm e p.nums d bF 41 1::.blk F #[vI (bQ p.nx),vI p.cp,vQ p.cr,abl B G r,abl D C cl,vN,vN,vN] 50::ahP O::fs)) (m:=p.cp-0) ⟨0,[],none,0,abz _,rfl,rfl,abu _,rfl,Z.sub kr,b.pt 6 [0,1,2,3,4,5]⟩ ?_
 clear Z b;rintro V a w_ ⟨k,C,D,cl,hk,hC,hCl,hCc,rfl,Z,b⟩
 refine Jb Z b ((dh 1∘JQ) (Ji (λC9=>?_) λC9=>?_))
 ·
  refine (eY∘Vs (.f (.t (.f .n))) [11]) λyP=>(Vp [0,1,5]∘Vn 2∘Vf 3 3∘Vc 4 O2) λa Z b I=>?_
  refine s_on Z 6 rfl ?_
  refine Ga Z [vP g 0] (uV W _ g (p.oC+k) e d p.nums (p.zM k) _ (b.pt 6 [2,3,0,1,4,5]) o om (x:=p.cl.getD k 0) (k2:=p.oC+(k+1)) (o2:=p.zM (k+1)) (zkz h om) (rfl) (rfl) (rfl)) λNM b a Z=>?_
  refine av (b.pt 6 [3,1,4,5]) (λI=>?_)
  refine s_on Z 7 rfl (jA Z b j6 [(0,vI (bQ (p.cl.getD k 0)))] #[vI (bQ (p.cl.getD k 0))] ?_)
  clear Z b;intro a w69 g69 Z b
  refine av (b.pt 7 [4,2,5,6]) (λI=>?_)
  refine s_on Z 8 rfl (rO Z b (i:=3) rfl j6 rfl rfl rfl (news:=([bQ (p.cl.getD k 0)].map aZ)) (b.bB (i:=0) (n:=1) (size:=1) rfl rfl) (R5 _) om om rfl de ?_)
  clear Z b;intro a w70 UJ c70 Z b Kw
  refine av (b.pt 7 [4,2,5,6]) (λI=>?_)
  refine Vb Z b I ((Vn 9∘Vf 10 3) λa Z b I=>?_)
  refine s_on Z 11 rfl (eO Z b 5 λUK b=>?_)
  refine dU kr ?_
  refine qe kr ?_
  have P:abo C+1=abo (C++[bQ (p.cl.getD k 0)]):=nS rfl
  rw [P] at Kw
  replace b:=b.bC (i:=3) (ys:=(C++[bQ (p.cl.getD k 0)]).map aZ) rfl P (by exact List.map_append.symm)
  replace Z:=Z.sp 70 (abl UJ (C++[bQ (p.cl.getD k 0)]) c70) rfl (iW P)
  replace b:=b.dX (i:=5) (ds:= #[vI (bQ p.nx),vI p.cp,vQ p.cr,abl B G r,abl UJ (C++[bQ (p.cl.getD k 0)]) c70,vN,vN,vN]) rfl (by rw [P];try rfl)
  refine Jb Z b ((JG∘JR∘dA 1∘Jp 1∘aL∘Jq) λa Z b=>?_)
  exact ⟨_,om,k+1,(C++[bQ (p.cl.getD k 0)]),UJ,c70,by omega,by rw [hC,zL],by rw [abq,hCl];rfl,Kw,rfl,Z.sub kr,b.pt 7 [3,4,1,2,5,6]⟩
 refine (JF∘JX∘JG∘bN 1∘Jn∘Jf 0∘Jg 0 O4∘Jp 1∘Jq∘JC (h:=by exact λb=>b.nil 3 1)∘JC (h:=by exact λb=>b.dX (i:=3) (ds:= #[.slice (d9 e d (p.oC+p.cp+0)) (abo p.nums- (p.oC+p.cp+0)) (d- (p.oC+p.cp+0)),.bool (p.wQ 0)]) rfl (by rw [show k=p.cp by omega];rfl))∘JG∘JB) λa Z b=>?_
 refine qg (λV aS wS=>∃(u:Nat) (U:List Int) (E:aiW) (cu:Nat),(u<=p.cp)/\(U=bV u λi=>bQ (p.cu.getD i 0))/\(abo U=u)/\(abo U<=cu)/\V=p.cp-u/\Fr aS 191 [] (ahY 79 u 78 p.cp ((61,.bool false)::ahY 60 k 59 p.cp ((31,.bool false)::ahY 30 j 29 p.gp [(4,vP F 1),(3,vP F 0),(2,vP O 0),(0,vP g 0)])))/\Mem W wS (abm E U cu aZ 3 1::abm D C cl aZ 3 1::abn B G r fQ 198 2::aia g (d9 e d (p.oC+p.cp+u)) (abo p.nums- (p.oC+p.cp+u)) (d- (p.oC+p.cp+u)) (p.wQ u)::abm e p.nums d bF 41 1::.blk F #[vI (bQ p.nx),vI p.cp,vQ p.cr,abl B G r,abl D C cl,abl E U cu,vN,vN] 50::ahP O::fs)) (m:=p.cp-0) ⟨0,[],none,0,abz _,rfl,rfl,abu _,rfl,Z.sub kr,b.pt 7 [0,1,2,3,4,5,6]⟩ ?_
 clear Z b;rintro V a w_ ⟨u,U,E,cu,hu,hU,hUl,hUc,rfl,Z,b⟩
 refine Jb Z b ((dh 1∘JQ) (Ji (λUL=>?_) λUL=>?_))
 ·
  refine (eY∘Vs (.f (.t (.t (.f .n)))) [11]) λGq=>(Vp [0,1,5]∘Vn 2∘Vf 3 4∘Vc 4 O3) λa Z b I=>?_
  refine s_on Z 6 rfl ?_
  refine Ga Z [vP g 0] (uV W _ g (p.oC+p.cp+u) e d p.nums (p.wQ u) _ (b.pt 7 [3,4,0,1,2,5,6]) o om (x:=p.cu.getD u 0) (k2:=p.oC+p.cp+(u+1)) (o2:=p.wQ (u+1)) (zk0 h om) (rfl) (rfl) (rfl)) λNS b a Z=>?_
  refine av (b.pt 7 [3,4,1,5,6]) (λI=>?_)
  refine s_on Z 7 rfl (jA Z b j6 [(0,vI (bQ (p.cu.getD u 0)))] #[vI (bQ (p.cu.getD u 0))] ?_)
  clear Z b;intro a w88 UM Z b
  refine av (b.pt 8 [4,5,2,6,7]) (λI=>?_)
  refine s_on Z 8 rfl (rO Z b (i:=3) rfl j6 rfl rfl rfl (news:=([bQ (p.cu.getD u 0)].map aZ)) (b.bB (i:=0) (n:=1) (size:=1) rfl rfl) (R5 _) om om rfl de ?_)
  clear Z b;intro a SX Oz OA Z b DU
  refine av (b.pt 8 [4,5,2,6,7]) (λI=>?_)
  refine Vb Z b I ((Vn 9∘Vf 10 4) λa Z b I=>?_)
  refine s_on Z 11 rfl (eO Z b 6 λUN b=>?_)
  refine dU kr ?_
  refine qe kr ?_
  have Q:abo U+1=abo (U++[bQ (p.cu.getD u 0)]):=nS rfl
  rw [Q] at DU
  replace b:=b.bC (i:=3) (ys:=(U++[bQ (p.cu.getD u 0)]).map aZ) rfl Q (by exact List.map_append.symm)
  replace Z:=Z.sp 89 (abl Oz (U++[bQ (p.cu.getD u 0)]) OA) rfl (iW Q)
  replace b:=b.dX (i:=6) (ds:= #[vI (bQ p.nx),vI p.cp,vQ p.cr,abl B G r,abl D C cl,abl Oz (U++[bQ (p.cu.getD u 0)]) OA,vN,vN]) rfl (by rw [Q];try rfl)
  refine Jb Z b ((JG∘JR∘dA 1∘Jp 1∘aL∘Jq) λa Z b=>?_)
  exact ⟨_,om,u+1,(U++[bQ (p.cu.getD u 0)]),Oz,OA,by omega,by rw [hU,zL],by rw [abq,hUl];rfl,DU,rfl,Z.sub kr,b.pt 8 [3,4,5,1,2,6,7]⟩
 refine (JF∘JX∘JG∘aM 1∘Jq∘JC (h:=by exact λb=>b.dX (i:=3) (ds:= #[.slice (d9 e d p.oT) (abo p.nums-p.oT) (d-p.oT),.bool (p.wQ p.cp)]) rfl (by rw [show u=p.cp by omega,show p.oC+p.cp+p.cp=p.oT by omega]))∘JG∘bN 1∘JO (h:=by exact λb=>uV W _ g p.oT e d p.nums (p.wQ p.cp) _ (b.pt 7 [3,4,0,1,2,5,6]) o om (x:=p.tk) (k2:=p.oT+1+8*0) (o2:=p.jS 0) (zk1 h) (rfl) (rfl) (Un om))) λw94=>(Jp 1∘Jq∘JC (h:=by exact λb=>b.nil 232 8)∘JG∘JB) λa Z b=>?_
 refine qg (λV aS wS=>∃(i:Nat) (T:List Tk) (At:aiW) (H:Nat),(i<=p.tk)/\(T=bV i p.uD)/\(abo T=i)/\(abo T<=H)/\V=p.tk-i/\Fr aS 191 [] (ahY 95 i 94 p.tk ((7,vI (p.sV i))::(80,.bool false)::ahY 79 u 78 p.cp ((61,.bool false)::ahY 60 k 59 p.cp ((31,.bool false)::ahY 30 j 29 p.gp [(4,vP F 1),(3,vP F 0),(2,vP O 0),(0,vP g 0)]))))/\Mem W wS (abn At T H bX 232 8::aia g (d9 e d (p.oT+1+8*i)) (abo p.nums- (p.oT+1+8*i)) (d- (p.oT+1+8*i)) (p.jS i)::abm e p.nums d bF 41 1::abm E U cu aZ 3 1::abm D C cl aZ 3 1::abn B G r fQ 198 2::.blk F #[vI (bQ p.nx),vI p.cp,vQ p.cr,abl B G r,abl D C cl,abl E U cu,abl At T H,vN] 50::ahP O::fs)) (m:=p.tk-0) ⟨0,[],none,0,abz _,rfl,rfl,abu _,rfl,Z.sub kr,b.pt 8 [0,1,2,3,4,5,6,7]⟩ ?_
 clear Z b;rintro V a w_ ⟨i,T,At,H,hi,hT,hTl,hTc,rfl,Z,b⟩
 refine Jb Z b ((dh 1∘JQ) (Ji (λhd96=>?_) λhd96=>?_))
 ·
  refine (eY∘aM 2∘JO (h:=by exact λb=>uV W _ g (p.oT+1+8*i) e d p.nums (p.jS i) _ (b.pt 8 [1,2,0,3,4,5,6,7]) o om (x:=p.tn i 0) (k2:=p.oT+1+(8*i+1)) (o2:=p.jS i&&dle (p.tn i 0) aC) (Bh h (j:=8*i) om) (rfl) (rfl) (rfl))) λw99=>(Jp 1∘Jo (vI (p.l6 i)) (by exact rfl)∘Jp 1∘fJ∘bg 2∘JO (h:=by exact λb=>uV W _ g (p.oT+1+(8*i+1)) e d p.nums (p.jS i&&dle (p.tn i 0) aC) _ (b.pt 8 [0,1,2,3,4,5,6,7]) o om (x:=p.tn i 1) (k2:=p.oT+1+(8*i+2)) (o2:=(p.jS i&&dle (p.tn i 0) aC)&&dle (p.tn i 1) aC) (Bh h (j:=8*i+1) om) (rfl) (rfl) (rfl))) λUO=>(Jp 1∘JO (h:=by exact λb=>uV W _ g (p.oT+1+(8*i+2)) e d p.nums ((p.jS i&&dle (p.tn i 0) aC)&&dle (p.tn i 1) aC) _ (b.pt 8 [0,1,2,3,4,5,6,7]) o om (x:=p.tn i 2) (k2:=p.oT+1+(8*i+3)) (o2:=((p.jS i&&dle (p.tn i 0) aC)&&dle (p.tn i 1) aC)&&dle (p.tn i 2) aC) (Bh h (j:=8*i+2) om) (rfl) (rfl) (rfl))) λJN=>(Jp 1∘JO (h:=by exact λb=>uV W _ g (p.oT+1+(8*i+3)) e d p.nums (((p.jS i&&dle (p.tn i 0) aC)&&dle (p.tn i 1) aC)&&dle (p.tn i 2) aC) _ (b.pt 8 [0,1,2,3,4,5,6,7]) o om (x:=p.tn i 3) (k2:=p.oT+1+(8*i+4)) (o2:=(((p.jS i&&dle (p.tn i 0) aC)&&dle (p.tn i 1) aC)&&dle (p.tn i 2) aC)&&dle (p.tn i 3) aC) (Bh h (j:=8*i+3) om) (rfl) (rfl) (rfl))) λUQ=>(Jp 1∘JO (h:=by exact λb=>zU 18446744073709551615 W _ g (p.oT+1+(8*i+4)) e d p.nums ((((p.jS i&&dle (p.tn i 0) aC)&&dle (p.tn i 1) aC)&&dle (p.tn i 2) aC)&&dle (p.tn i 3) aC) _ (b.pt 8 [0,1,2,3,4,5,6,7]) o om (x:=p.tn i 4) (k2:=p.oT+1+(8*i+5)) (o2:=((((p.jS i&&dle (p.tn i 0) aC)&&dle (p.tn i 1) aC)&&dle (p.tn i 2) aC)&&dle (p.tn i 3) aC)&&dle (p.tn i 4) 18446744073709551615) (Bh h (j:=8*i+4) om) (rfl) (rfl))) λTH=>(fD #[vI (p.l6 i),vI (bQ (p.tn i 1)),vI (bQ (p.tn i 2)),vI (bQ (p.tn i 3)),vQ (p.tn i 4),.bool false,vQ 0,vW 0]∘JA aiG) λw8 g8=>(JV fF aO) λUR=>(aJ∘Jq∘JC (h:=by exact λb=>(show Mem W _ (.blk g8 #[vI (p.l6 i),vI (bQ (p.tn i 1)),vI (bQ (p.tn i 2)),vI (bQ (p.tn i 3)),vQ (p.tn i 4),.bool false,vQ 0,vW 0] 232::aia g (d9 e d (p.oT+1+(8*i+5))) (abo p.nums- (p.oT+1+(8*i+5))) (d- (p.oT+1+(8*i+5))) (((((p.jS i&&dle (p.tn i 0) aC)&&dle (p.tn i 1) aC)&&dle (p.tn i 2) aC)&&dle (p.tn i 3) aC)&&dle (p.tn i 4) 18446744073709551615)::abm e p.nums d bF 41 1::abn At T H bX 232 8::abm E U cu aZ 3 1::abm D C cl aZ 3 1::abn B G r fQ 198 2::.blk F #[vI (bQ p.nx),vI p.cp,vQ p.cr,abl B G r,abl D C cl,abl E U cu,abl At T H,vN] 50::ahP O::fs) from b))∘JG∘aM 1∘JO (h:=by exact λb=>zU 1 W _ g (p.oT+1+(8*i+5)) e d p.nums (((((p.jS i&&dle (p.tn i 0) aC)&&dle (p.tn i 1) aC)&&dle (p.tn i 2) aC)&&dle (p.tn i 3) aC)&&dle (p.tn i 4) 18446744073709551615) _ (b.pt 9 [1,2,0,3,4,5,6,7,8]) o om (x:=p.tn i 5) (k2:=p.oT+1+(8*i+6)) (o2:=(((((p.jS i&&dle (p.tn i 0) aC)&&dle (p.tn i 1) aC)&&dle (p.tn i 2) aC)&&dle (p.tn i 3) aC)&&dle (p.tn i 4) 18446744073709551615)&&dle (p.tn i 5) 1) (Bh h (j:=8*i+5) om) (rfl) (rfl))) λarj=>(Jp 1∘Jo (.bool (decide (p.tn i 5=1))) (by exact congrArg Value.bool (zlb _))∘Jp 1∘JO (h:=by exact λb=>zU 18446744073709551615 W _ g (p.oT+1+(8*i+6)) e d p.nums ((((((p.jS i&&dle (p.tn i 0) aC)&&dle (p.tn i 1) aC)&&dle (p.tn i 2) aC)&&dle (p.tn i 3) aC)&&dle (p.tn i 4) 18446744073709551615)&&dle (p.tn i 5) 1) _ (b.pt 9 [0,1,2,3,4,5,6,7,8]) o om (x:=p.tn i 6) (k2:=p.oT+1+(8*i+7)) (o2:=((((((p.jS i&&dle (p.tn i 0) aC)&&dle (p.tn i 1) aC)&&dle (p.tn i 2) aC)&&dle (p.tn i 3) aC)&&dle (p.tn i 4) 18446744073709551615)&&dle (p.tn i 5) 1)&&dle (p.tn i 6) 18446744073709551615) (Bh h (j:=8*i+6) om) (rfl) (rfl))) λTI=>(Jp 1∘JO (h:=by exact λb=>zU 4294967295 W _ g (p.oT+1+(8*i+7)) e d p.nums (((((((p.jS i&&dle (p.tn i 0) aC)&&dle (p.tn i 1) aC)&&dle (p.tn i 2) aC)&&dle (p.tn i 3) aC)&&dle (p.tn i 4) 18446744073709551615)&&dle (p.tn i 5) 1)&&dle (p.tn i 6) 18446744073709551615) _ (b.pt 9 [0,1,2,3,4,5,6,7,8]) o om (x:=p.tn i 7) (k2:=p.oT+1+8*(i+1)) (o2:=(((((((p.jS i&&dle (p.tn i 0) aC)&&dle (p.tn i 1) aC)&&dle (p.tn i 2) aC)&&dle (p.tn i 3) aC)&&dle (p.tn i 4) 18446744073709551615)&&dle (p.tn i 5) 1)&&dle (p.tn i 6) 18446744073709551615)&&dle (p.tn i 7) 4294967295) (Bh h (j:=8*i+7) om) om (rfl))) λark=>(Jv 1 [(118,vW (IntKind.u32.wrap (p.tn i 7:Int)))]∘Jo (vW ((p.tn i 7)%4294967296:Nat)) (by exact Xq (p.tn i 7))∘Jf 5∘JW iG rC) λadl=>(Jf 6∘JW iG uK) λUU=>(Jf 7∘JW iG vE) λUW=>(iZ∘Jq∘JC (h:=by exact λb=>(show Mem W _ (aia g (d9 e d (p.oT+1+8*(i+1))) (abo p.nums- (p.oT+1+8*(i+1))) (d- (p.oT+1+8*(i+1))) ((((((((p.jS i&&dle (p.tn i 0) aC)&&dle (p.tn i 1) aC)&&dle (p.tn i 2) aC)&&dle (p.tn i 3) aC)&&dle (p.tn i 4) 18446744073709551615)&&dle (p.tn i 5) 1)&&dle (p.tn i 6) 18446744073709551615)&&dle (p.tn i 7) 4294967295)::abm e p.nums d bF 41 1::.blk g8 #[vI (p.l6 i),vI (bQ (p.tn i 1)),vI (bQ (p.tn i 2)),vI (bQ (p.tn i 3)),vQ (p.tn i 4),.bool (decide (p.tn i 5=1)),vQ (p.tn i 6),vW ((p.tn i 7)%4294967296:Nat)] 232::abn At T H bX 232 8::abm E U cu aZ 3 1::abm D C cl aZ 3 1::abn B G r fQ 198 2::.blk F #[vI (bQ p.nx),vI p.cp,vQ p.cr,abl B G r,abl D C cl,abl E U cu,abl At T H,vN] 50::ahP O::fs) from b))) λa Z b=>?_
  refine wp_seq ?_
  refine Jb Z b ((Vs (.t (.t (.t (.f .n)))) [10]) λarl=>(Vp [0,1]∘Vn 2∘Vf 3 5∘Vc 4 O6∘mK 5 fF O2) λa Z b I=>?_)
  refine s_on Z 6 rfl (jA Z b dK [(0,.agg #[vI (p.l6 i),vI (bQ (p.tn i 1)),vI (bQ (p.tn i 2)),vI (bQ (p.tn i 3)),vQ (p.tn i 4),.bool (decide (p.tn i 5=1)),vQ (p.tn i 6),vW ((p.tn i 7)%4294967296:Nat)])] #[vI (p.l6 i),vI (bQ (p.tn i 1)),vI (bQ (p.tn i 2)),vI (bQ (p.tn i 3)),vQ (p.tn i 4),.bool (decide (p.tn i 5=1)),vQ (p.tn i 6),vW ((p.tn i 7)%4294967296:Nat)] ?_)
  clear Z b;intro a UY arn Z b
  refine av (b.pt 10 [1,2,3,5,6,7,8,9]) (λI=>?_)
  refine s_on Z 7 rfl (rO Z b (i:=4) rfl dK rfl rfl rfl (news:=([p.uD i].flatMap bX)) (b.bB (i:=0) (n:=1) (size:=8) rfl rfl) (Iy _) om om rfl de ?_)
  clear Z b;intro a aro zV zW Z b xk
  refine av (b.pt 10 [1,2,3,5,6,7,8,9]) (λI=>?_)
  refine Vb Z b I ((Vn 8∘Vf 9 5) λa Z b I=>?_)
  refine s_on Z 10 rfl (eO Z b 8 λUZ b=>?_)
  refine dU kr ?_
  refine qe kr ?_
  have M:abo T+1=abo (T++[p.uD i]):=nS rfl
  rw [M] at xk
  replace b:=b.bC (i:=4) (ys:=(T++[p.uD i]).flatMap bX) rfl M (by exact List.flatMap_append.symm)
  replace Z:=Z.sp 129 (abl zV (T++[p.uD i]) zW) rfl (iW M)
  replace b:=b.dX (i:=8) (ds:= #[vI (bQ p.nx),vI p.cp,vQ p.cr,abl B G r,abl D C cl,abl E U cu,abl zV (T++[p.uD i]) zW,vN]) rfl (by rw [M];try rfl)
  refine Jb Z b ((aM 2∘Jn∘Jg 1 O1∘Jp 1) (Ju (λxq=>?_) λxq=>?_))
  ·
   refine (Jp 3∘Jn∘Jf 1∘JW gu gu) λDV=>(iZ∘Jj∘JR∘Jp 1∘Jy (v:=vI (if (65535:Int)<(p.l6 i:Int) then 65535 else p.l6 i)) (h:=by exact Yl.min rfl rfl rfl)∘Jo (vI (p.sV (i+1))) (by exact rfl)∘Jp 1∘aJ∘Jj∘JR∘dA 1∘Jp 1∘aL∘Jq) λa Z b=>?_
   replace b:=b.dX (i:=1) (ds:= #[.slice (d9 e d (p.oT+1+8*(i+1))) (abo p.nums- (p.oT+1+8*(i+1))) (d- (p.oT+1+8*(i+1))),.bool (p.jS (i+1))]) rfl (by rw [show p.jS (i+1)=(((((((((p.jS i&&dle (p.tn i 0) aC)&&dle (p.tn i 1) aC)&&dle (p.tn i 2) aC)&&dle (p.tn i 3) aC)&&dle (p.tn i 4) 18446744073709551615)&&dle (p.tn i 5) 1)&&dle (p.tn i 6) 18446744073709551615)&&dle (p.tn i 7) 4294967295)&&decide (p.l6 i<=65535)) from rfl,xq];rfl)
   exact ⟨_,om,i+1,(T++[p.uD i]),zV,zW,by omega,by rw [hT,zL],by rw [abq,hTl];rfl,xk,rfl,Z.sub kr,b.pt 10 [4,1,2,5,6,7,8,9]⟩
  refine (Jp 3∘Jn∘Jf 1∘JW gu gu) λDV=>(iZ∘Jj∘JR∘Jp 1∘Jy (v:=vI (if (65535:Int)<(p.l6 i:Int) then 65535 else p.l6 i)) (h:=by exact Yl.min rfl rfl rfl)∘Jo (vI (p.sV (i+1))) (by exact rfl)∘Jp 1∘aJ∘Jj∘JR∘dA 1∘Jp 1∘aL∘Jq) λa Z b=>?_
  replace b:=b.dX (i:=1) (ds:= #[.slice (d9 e d (p.oT+1+8*(i+1))) (abo p.nums- (p.oT+1+8*(i+1))) (d- (p.oT+1+8*(i+1))),.bool (p.jS (i+1))]) rfl (by rw [show p.jS (i+1)=(((((((((p.jS i&&dle (p.tn i 0) aC)&&dle (p.tn i 1) aC)&&dle (p.tn i 2) aC)&&dle (p.tn i 3) aC)&&dle (p.tn i 4) 18446744073709551615)&&dle (p.tn i 5) 1)&&dle (p.tn i 6) 18446744073709551615)&&dle (p.tn i 7) 4294967295)&&decide (p.l6 i<=65535)) from rfl,xq];rfl)
  exact ⟨_,om,i+1,(T++[p.uD i]),zV,zW,by omega,by rw [hT,zL],by rw [abq,hTl];rfl,xk,rfl,Z.sub kr,b.pt 10 [4,1,2,5,6,7,8,9]⟩
 refine (JF∘JX∘JG∘bN 1∘Jn∘Jf 0∘Jg 2 O6∘Jl∘Jp 1∘Jq∘JC (h:=by exact λb=>b.dX (i:=1) (ds:= #[.slice (d9 e d (p.oS+p.so 0 0)) (abo p.nums- (p.oS+p.so 0 0)) (d- (p.oS+p.so 0 0)),.bool (p.mZ 0)]) rfl (by rw [show i=p.tk by omega];rfl))∘JC (h:=by exact λb=>b.nil 176 1)∘JC (h:=by exact λb=>b.oN 200 3)∘JC (h:=by exact λb=>(show Mem W _ (.row (vN) 0 [] 176 1::abn At T H bX 232 8::aia g (d9 e d (p.oS+p.so 0 0)) (abo p.nums- (p.oS+p.so 0 0)) (d- (p.oS+p.so 0 0)) (p.mZ 0)::abm e p.nums d bF 41 1::abm E U cu aZ 3 1::abm D C cl aZ 3 1::abn B G r fQ 198 2::.blk F #[vI (bQ p.nx),vI p.cp,vQ p.cr,abl B G r,abl D C cl,abl E U cu,abl At T H,vN] 50::ahP O::(fs++(lD 200 []))) from b))∘JG∘JB) λa Z b=>?_
 refine qg (λV aS wS=>∃(y:Nat) (z:List Rw) (As:aiW) (cs:Nat),(y<=abo G)/\(abo z=y)/\(z.map Rw.l=bV y p.row)/\(∀q∈z,abo q.l<=q.c)/\(abo z<=cs)/\V=abo G-y/\Fr aS 191 [] (ahY 152 y 151 (abo G) ((96,.bool false)::ahY 95 i 94 p.tk ((7,vI (p.sV i))::(80,.bool false)::ahY 79 u 78 p.cp ((61,.bool false)::ahY 60 k 59 p.cp ((31,.bool false)::ahY 30 j 29 p.gp [(4,vP F 1),(3,vP F 0),(2,vP O 0),(0,vP g 0)])))))/\Mem W wS (abm As z cs aac 176 1::abn At T H bX 232 8::aia g (d9 e d (p.oS+p.so y 0)) (abo p.nums- (p.oS+p.so y 0)) (d- (p.oS+p.so y 0)) (p.mZ y)::abm e p.nums d bF 41 1::abm E U cu aZ 3 1::abm D C cl aZ 3 1::abn B G r fQ 198 2::aiz F (bQ p.nx) p.cp p.cr B G r D C cl E U cu At T H As z cs::ahP O::(fs++(lD 200 z)))) (m:=abo G-0) ⟨0,[],none,0,abz _,rfl,rfl,(λq h=>by cases h),abu _,rfl,Z.sub kr,b.pt 9 [0,1,2,3,4,5,6,7,8]⟩ ?_
 clear Z b;rintro V a w_ ⟨y,z,As,cs,hy,hzl,hz,hzc,hcs,rfl,Z,b⟩
 refine Jb Z b ((dh 1∘JQ) (Ji (λhd153=>?_) λhd153=>?_))
 ·
  have hyg:y<p.gp:=by omega
  refine (eY∘aM 2∘aL∘bg 1∘Jq∘JC (h:=by exact λb=>b.nil 200 3)∘JG∘bN 1∘Jn∘Jf 0∘Jg 0 O8∘bM 1∘JB) λa Z b=>?_
  refine qg (λV aS wS=>∃(x:Nat) (R:List Sp) (J:aiW) (cr:Nat),(x<=p.cp)/\(R=bV x (p.rY y))/\(abo R=x)/\(abo R<=cr)/\V=p.cp-x/\Fr aS 191 [] (ahY 160 x 159 p.cp ((10,abl J R cr)::(9,vI y)::(153,.bool true)::ahY 152 y 151 (abo G) ((96,.bool false)::ahY 95 i 94 p.tk ((7,vI (p.sV i))::(80,.bool false)::ahY 79 u 78 p.cp ((61,.bool false)::ahY 60 k 59 p.cp ((31,.bool false)::ahY 30 j 29 p.gp [(4,vP F 1),(3,vP F 0),(2,vP O 0),(0,vP g 0)]))))))/\Mem W wS (abn J R cr jc 200 3::abm As z cs aac 176 1::abn At T H bX 232 8::aia g (d9 e d (p.oS+p.so y x)) (abo p.nums- (p.oS+p.so y x)) (d- (p.oS+p.so y x)) (p.l7 (p.mZ y) y x)::abm e p.nums d bF 41 1::abm E U cu aZ 3 1::abm D C cl aZ 3 1::abn B G r fQ 198 2::aiz F (bQ p.nx) p.cp p.cr B G r D C cl E U cu At T H As z cs::ahP O::(fs++(lD 200 z)))) (m:=p.cp-0) ⟨0,[],none,0,abz _,rfl,rfl,abu _,rfl,Z.sub kr,b.pt 10 [0,1,2,3,4,5,6,7,8,9]⟩ ?_
  clear Z b;rintro V a w_ ⟨x,R,J,cr,hx,hR,hRl,hRc,rfl,Z,b⟩
  refine Jb Z b ((dh 1∘JQ) (Ji (λKy=>?_) λKy=>?_))
  ·
   have hxc:x<p.cp:=by omega
   have hin:=Kg h hyg hxc
   refine (eY∘JP∘JA #[vQ 0,vW 0,vQ 0]) λuM g11=>(Jj∘bN 2∘aL∘Jj) (Ji (λKz=>?_) λKz=>?_)
   ·
    rw [if_neg om] at hin
    have hsp:p.rY y x=⟨p.sn y x 0,p.sn y x 1%4294967296,p.sn y x 2⟩:=if_neg om
    refine (JT∘JR∘Jp 1∘JO (h:=by exact λb=>zU 18446744073709551615 W _ g (p.oS+p.so y x) e d p.nums (p.l7 (p.mZ y) y x) _ (b.pt 11 [4,5,0,1,2,3,6,7,8,9,10]) o om (x:=p.sn y x 0) (k2:=p.oS+(p.so y x+1)) (o2:=p.l7 (p.mZ y) y x&&dle (p.sn y x 0) 18446744073709551615) (Oc h (p.so y x)) (rfl) (rfl))) λarq=>(Jp 1∘JO (h:=by exact λb=>zU 4294967295 W _ g (p.oS+(p.so y x+1)) e d p.nums (p.l7 (p.mZ y) y x&&dle (p.sn y x 0) 18446744073709551615) _ (b.pt 11 [0,1,2,3,4,5,6,7,8,9,10]) o om (x:=p.sn y x 1) (k2:=p.oS+(p.so y x+2)) (o2:=(p.l7 (p.mZ y) y x&&dle (p.sn y x 0) 18446744073709551615)&&dle (p.sn y x 1) 4294967295) (Oc h (p.so y x+1)) (rfl) (rfl))) λars=>(Jv 1 [(168,vW (IntKind.u32.wrap (p.sn y x 1:Int)))]∘Jo (vW ((p.sn y x 1)%4294967296:Nat)) (by exact Xq (p.sn y x 1))∘Jf 0∘JW iG aO) λadn=>(Jf 1∘JW iG gu) λado=>(iZ∘Jq∘JC (h:=by exact λb=>(show Mem W _ (aia g (d9 e d (p.oS+(p.so y x+2))) (abo p.nums- (p.oS+(p.so y x+2))) (d- (p.oS+(p.so y x+2))) ((p.l7 (p.mZ y) y x&&dle (p.sn y x 0) 18446744073709551615)&&dle (p.sn y x 1) 4294967295)::abm e p.nums d bF 41 1::.blk g11 #[vQ (p.sn y x 0),vW ((p.sn y x 1)%4294967296:Nat),vQ 0] 200::abn J R cr jc 200 3::abm As z cs aac 176 1::abn At T H bX 232 8::abm E U cu aZ 3 1::abm D C cl aZ 3 1::abn B G r fQ 198 2::aiz F (bQ p.nx) p.cp p.cr B G r D C cl E U cu At T H As z cs::ahP O::(fs++(lD 200 z))) from b))∘JG∘aM 1∘JO (h:=by exact λb=>zU 18446744073709551615 W _ g (p.oS+(p.so y x+2)) e d p.nums ((p.l7 (p.mZ y) y x&&dle (p.sn y x 0) 18446744073709551615)&&dle (p.sn y x 1) 4294967295) _ (b.pt 11 [0,1,2,3,4,5,6,7,8,9,10]) o om (x:=p.sn y x 2) (k2:=p.oS+p.so y (x+1)) (o2:=p.l7 (p.mZ y) y (x+1)) (Oc h (p.so y x+2)) (by rw [Kr om];rfl) ((Ku om).symm))) λU0=>(Jf 2∘JW iG iG) λKA=>(vF∘Jq∘JC (h:=by exact λb=>(show Mem W _ (aia g (d9 e d (p.oS+p.so y (x+1))) (abo p.nums- (p.oS+p.so y (x+1))) (d- (p.oS+p.so y (x+1))) (p.l7 (p.mZ y) y (x+1))::abm e p.nums d bF 41 1::.blk g11 #[vQ (p.sn y x 0),vW ((p.sn y x 1)%4294967296:Nat),vQ (p.sn y x 2)] 200::abn J R cr jc 200 3::abm As z cs aac 176 1::abn At T H bX 232 8::abm E U cu aZ 3 1::abm D C cl aZ 3 1::abn B G r fQ 198 2::aiz F (bQ p.nx) p.cp p.cr B G r D C cl E U cu At T H As z cs::ahP O::(fs++(lD 200 z))) from b))∘JG∘JR∘Jp 1∘eH lY O2∘JU lZ #[vQ (p.sn y x 0),vW ((p.sn y x 1)%4294967296:Nat),vQ (p.sn y x 2)]) λU1 U2=>(JD ([(⟨p.sn y x 0,p.sn y x 1%4294967296,p.sn y x 2⟩:Sp)].flatMap jc) 4 (λ_ _=>qB) lZ (hr:=by exact λb=>b.bB (i:=0) (n:=1) (size:=3) rfl rfl) (h1:=by exact R4 _)) λU3 Y xu N=>(Jp 1∘fJ∘Jq) ?_
    have A:abo R+1=abo (R++[p.rY y x]):=nS rfl
    rw [A] at N
    refine (JC (h:=by exact λb=>b.bC (i:=4) (ys:=(R++[p.rY y x]).flatMap jc) rfl A (by rw [hsp];exact List.flatMap_append.symm))∘Jk 10 (.slice Y (abo (R++[p.rY y x])) xu) (h:=by exact iW A)∘JG∘JR∘dA 1∘Jp 1∘aL∘Jq) λa Z b=>?_
    exact ⟨_,om,x+1,(R++[p.rY y x]),Y,xu,by omega,by rw [hR,zL],by rw [abq,hRl];rfl,N,rfl,Z.sub kr,b.pt 12 [4,5,6,1,2,7,8,9,10,11]⟩
   rw [if_pos om] at hin
   have hsp:p.rY y x=⟨0,0,p.sn y x 0⟩:=if_pos om
   refine (aQ∘aM 1∘JO (h:=by exact λb=>zU 18446744073709551615 W _ g (p.oS+p.so y x) e d p.nums (p.l7 (p.mZ y) y x) _ (b.pt 11 [4,5,0,1,2,3,6,7,8,9,10]) o om (x:=p.sn y x 0) (k2:=p.oS+p.so y (x+1)) (o2:=p.l7 (p.mZ y) y (x+1)) (Oc h (p.so y x)) (by rw [Kq om];rfl) ((Kt om).symm))) λU0=>(Jf 2∘JW iG iG) λKA=>(oo∘Jq∘JC (h:=by exact λb=>(show Mem W _ (aia g (d9 e d (p.oS+p.so y (x+1))) (abo p.nums- (p.oS+p.so y (x+1))) (d- (p.oS+p.so y (x+1))) (p.l7 (p.mZ y) y (x+1))::abm e p.nums d bF 41 1::.blk g11 #[vQ 0,vW 0,vQ (p.sn y x 0)] 200::abn J R cr jc 200 3::abm As z cs aac 176 1::abn At T H bX 232 8::abm E U cu aZ 3 1::abm D C cl aZ 3 1::abn B G r fQ 198 2::aiz F (bQ p.nx) p.cp p.cr B G r D C cl E U cu At T H As z cs::ahP O::(fs++(lD 200 z))) from b))∘JG∘JR∘Jp 1∘eH lY O2∘JU lZ #[vQ 0,vW 0,vQ (p.sn y x 0)]) λU1 U2=>(JD ([(⟨0,0,p.sn y x 0⟩:Sp)].flatMap jc) 4 (λ_ _=>qB) lZ (hr:=by exact λb=>b.bB (i:=0) (n:=1) (size:=3) rfl rfl) (h1:=by exact R4 _)) λU3 Y xu N=>(Jp 1∘fJ∘Jq) ?_
   have A:abo R+1=abo (R++[p.rY y x]):=nS rfl
   rw [A] at N
   refine (JC (h:=by exact λb=>b.bC (i:=4) (ys:=(R++[p.rY y x]).flatMap jc) rfl A (by rw [hsp];exact List.flatMap_append.symm))∘Jk 10 (.slice Y (abo (R++[p.rY y x])) xu) (h:=by exact iW A)∘JG∘JR∘dA 1∘Jp 1∘aL∘Jq) λa Z b=>?_
   exact ⟨_,om,x+1,(R++[p.rY y x]),Y,xu,by omega,by rw [hR,zL],by rw [abq,hRl];rfl,N,rfl,Z.sub kr,b.pt 12 [4,5,6,1,2,7,8,9,10,11]⟩
  refine (JF∘JX∘JG∘JR∘Jp 2∘Jn∘Jg 6 O8∘Jp 1∘JU oz #[abl J R cr]) λaru arv=>(JD ([(⟨J,cr,R⟩:Rw)].map aac) 2 (λ_ _=>iG) oz (hr:=by exact λb=>b.bB (i:=0) (n:=1) (size:=1) rfl rfl) (h1:=by exact zgx _)) λarw K L Bu=>(Jn∘Jf 6∘JW Qd vE) λU4=>(iZ∘Jq) ?_
  have S:abo z+1=abo (z++[(⟨J,cr,R⟩:Rw)]):=nS rfl
  rw [S] at Bu
  refine (JC (h:=by exact λb=>b.bC (i:=2) (ys:=(z++[(⟨J,cr,R⟩:Rw)]).map aac) rfl S (by exact List.map_append.symm))∘JC (h:=by exact λb=>b.dX (i:=9) (ds:= #[vI (bQ p.nx),vI p.cp,vQ p.cr,abl B G r,abl D C cl,abl E U cu,abl At T H,abl K (z++[(⟨J,cr,R⟩:Rw)]) L]) rfl (by rw [S];try rfl))∘JC (h:=by exact λb=>b.pt (fs':=(abn J R cr jc 200 3::abm K (z++[(⟨J,cr,R⟩:Rw)]) L aac 176 1::abn At T H bX 232 8::aia g (d9 e d (p.oS+p.so y x)) (abo p.nums- (p.oS+p.so y x)) (d- (p.oS+p.so y x)) (p.l7 (p.mZ y) y x)::abm e p.nums d bF 41 1::abm E U cu aZ 3 1::abm D C cl aZ 3 1::abn B G r fQ 198 2::aiz F (bQ p.nx) p.cp p.cr B G r D C cl E U cu At T H K (z++[(⟨J,cr,R⟩:Rw)]) L::ahP O::(fs++(lD 200 z)))) 11 [1,2,3,4,5,6,7,8,9,10])∘JC (h:=by exact λb=>aaE (fs:=(abm K (z++[(⟨J,cr,R⟩:Rw)]) L aac 176 1::abn At T H bX 232 8::aia g (d9 e d (p.oS+p.so y x)) (abo p.nums- (p.oS+p.so y x)) (d- (p.oS+p.so y x)) (p.l7 (p.mZ y) y x)::abm e p.nums d bF 41 1::abm E U cu aZ 3 1::abm D C cl aZ 3 1::abn B G r fQ 198 2::aiz F (bQ p.nx) p.cp p.cr B G r D C cl E U cu At T H K (z++[(⟨J,cr,R⟩:Rw)]) L::ahP O::fs)) b)∘JC (h:=by exact λb=>(show Mem W _ (abm K (z++[(⟨J,cr,R⟩:Rw)]) L aac 176 1::abn At T H bX 232 8::aia g (d9 e d (p.oS+p.so y x)) (abo p.nums- (p.oS+p.so y x)) (d- (p.oS+p.so y x)) (p.l7 (p.mZ y) y x)::abm e p.nums d bF 41 1::abm E U cu aZ 3 1::abm D C cl aZ 3 1::abn B G r fQ 198 2::aiz F (bQ p.nx) p.cp p.cr B G r D C cl E U cu At T H K (z++[(⟨J,cr,R⟩:Rw)]) L::ahP O::(fs++(lD 200 (z++[(⟨J,cr,R⟩:Rw)])))) from b))∘JG∘JR∘dA 1∘Jp 1∘fJ∘Jq) λa Z b=>?_
  replace b:=b.dX (i:=2) (ds:= #[.slice (d9 e d (p.oS+p.so (y+1) 0)) (abo p.nums- (p.oS+p.so (y+1) 0)) (d- (p.oS+p.so (y+1) 0)),.bool (p.mZ (y+1))]) rfl (by rw [Od,show x=p.cp by omega];rfl)
  exact ⟨_,om,y+1,(z++[(⟨J,cr,R⟩:Rw)]),K,L,by omega,by rw [abq,hzl];rfl,by rw [abZ,hz,zL,hR,show x=p.cp by omega];rfl,λq h=>(acg.1 h).elim (hzc q) (λh=>by rw [List.mem_singleton] at h;subst h;exact hRc),Bu,rfl,Z.sub kr,b.pt 9 [0,1,2,3,4,5,6,7,8]⟩
 have e0:y=p.gp:=by omega
 have e1:bV p.gp p.iL=G:=by rw [hG,show j=p.gp by omega]
 have e2:p.cl.map bQ=C:=by rw [hC,show k=p.cp by omega];exact (qtx h.cl bQ).symm
 have e3:p.cu.map bQ=U:=by rw [hU,show u=p.cp by omega];exact (qtx h.cu bQ).symm
 have e4:bV p.tk p.uD=T:=by rw [hT,show i=p.tk by omega]
 have e5:(bV p.gp λg=>(⟨none,0,p.row g⟩:Rw)).map Rw.l=z.map Rw.l:=by rw [hz,e0];exact zev _ _ _
 refine (JF∘JX∘JG∘JP∘eH zo O7∘JV zo Gb) λadp=>(mJ∘Jq∘JC (h:=by exact λb=>b.dX (i:=2) (ds:= #[.slice (d9 e d (p.oS+p.so p.gp 0)) (abo p.nums- (p.oS+p.so p.gp 0)) (d- (p.oS+p.so p.gp 0)),.bool p.okB]) rfl (by rw [e0];try rfl))∘JG∘JZ) λa Z b=>?_
 exact iV rfl Z (.cellS (i:=8) Z b rfl rfl zo rfl) (⟨(⟨bQ p.nx,⟨(p.cp:Int),p.cr,B,r,G,D,cl,C,E,cu,U,At,H,T,As,cs,z⟩⟩:dF),_,_,_,rfl,qN rfl ⟨⟨rfl,rfl,e1⟩,e2,e3,e4,e5⟩,⟨hGc,hCc,hUc,hTc,hcs,hzc⟩,aa3 (b.pt 9 [2,6,5,4,1,0])⟩)
def q9n (A:aiW) (c:Nat) (l:List Nat) (B:Nat) (w:aiM) (x:aR B w) (o:B<=w.heap.size) (hr:Rd w w.heap.size 1 A (abo l) (l.map B8)) (hc:abo l<=c) (y:abo l<=100000000) (q:∀z∈l,z<256):
    Calls abp 112 #[.slice A (abo l) c] w (Oq w (oG l) (lM l)):=by
 refine (fE Tryz.func112 37) ?_
 refine (JP∘JA aiI) λS C=>(bM 1∘JQ) λa Z b=>?_
 rcases hop:fZ l with k|p
 ·
  have I:=Uj hop
  refine Jb Z b ((JR∘Jp 1∘JI (h:=by exact λb=>zlg A c l B _ (x.mem b o) (b.le o) (b.old hr) hc y q hop)) λr s=>(Jp 1∘Jx∘Jx∘bM 2∘bN 2∘aL∘Jj) (Jh (λg=>?_) λg=>?_))
  ·
   refine (JT∘JP∘fD aiI∘Jp 1∘JV zo aO) λD=>(Jp 1∘bU∘aP) λa Z b=>?_
   exact dR rfl Z (.cellS (i:=0) Z b rfl rfl zo rfl) (.tmp Z rfl) (Uu (wX hop) rfl (b.pk []))
  intro a Z b
  exfalso;omega
 ·
  have e:=(Us q hop).2.2.1
  refine Jb Z b ((JR∘Jp 1∘JL (h:=by exact λb=>zlf A c l B _ (x.mem b o) (b.le o) (b.old hr) hc y q hop)) ?_)
  rintro b _ r ⟨J,T,U,E,F,V,sc,rfl,t,K,hm⟩
  refine ⟨_,rfl,_,b.join hm,?_⟩
  refine (Jp 1∘Jx∘Jx∘bM 2∘JQ∘JP∘Jv 2 [(14,.bool false)]∘Jj∘aQ∘aM 1∘Jn∘Jg 2 O0∘fD #[abl E p.nums F,.bool true]∘JE) λL j=>(Jp 1∘lq∘bg 1∘JL (h:=by exact λb=>q2z _ _ j E F p e [ahP C] (b.pk [0,2,4]) t)) ?_
  rintro b _ M ⟨z,u,N,O,rfl,hz,f,v⟩
  refine ⟨_,rfl,_,v,?_⟩
  refine (JA aiI) λW P=>(JV zo aO (h1:=by exact Ng z)) λG=>(bU∘Jj∘bN 1∘Jn∘Jg 1 O1∘Jp 2) (Ju (λd=>?_) λd=>?_)
  ·
   refine (Jp 4∘aJ∘Jj∘JT∘JP∘fD aiI∘JV zo iG) λm=>(Jp 1∘aL∘aP) λa Z b=>?_
   exact dR rfl Z (.cellS (i:=2) Z b rfl rfl zo rfl) (.tmp Z rfl) (Uu (Oo hop (λh=>by rw [h.1] at d;cases d)) rfl (b.pk []))
  refine (eH zo O0∘JI (h:=by exact λb=>U6 z (zhk hz (zhi e)) (zgy (Di hz) (Ur e _ (.inl rfl))) f _ (b.stX 3 rfl))) λQ s=>(Jp 2∘aJ∘Jj) (Jh (λn=>?_) λn=>?_)
  ·
   refine (JT∘JP∘fD aiI∘JV zo iG) λm=>(Jp 1∘aL∘aP) λa Z b=>?_
   exact dR rfl Z (.cellS (i:=2) Z b rfl rfl zo rfl) (.tmp Z rfl) (Uu (Oo hop (λh=>by have R:=h.2;rw [<-Iz hz] at R;omega)) rfl (b.pk []))
  refine (aQ∘JP∘eH zo O0∘JV zo iG (h1:=by exact Ng z)) λH=>(Jp 1∘aL∘aP) λa Z b=>?_
  exact dR rfl Z (.cellS (i:=2) Z b rfl rfl zo rfl) (.tmp Z rfl) (q87 (Ut hop ⟨by simpa using d,by rw [<-Iz hz];omega⟩) rfl hz f (b.mV (aeG ([.blk P z.cells 50,aia j u N O p.okB,.blk C z.cells 50]:List aiX) _)))
def qzu:∀(f:Nat) (l:List Nat),(∀x∈l,x<256)->(qx f l).2.2=0->∀b∈(qx f l).1,b.Ok/\abo b.evs<=4096
 |0,_,_,_=>λb a=>by cases a
 | f + 1, l, e, h => by
  rw [qx] at h⊢
  split at h
  ·rename_i d
   rw [if_pos d]
   exact λb a=>by cases a
  ·rename_i d
   rw [if_neg d]
   split at h
   ·rename_i c;exact absurd h c
   ·rename_i c
    rw [if_neg c]
    intro b a
    rcases abY.1 a with rfl|a
    ·exact zi4 e (adu.1 c)
    ·exact qzu f _ (λx g=>e x (abU g)) h b a
def qw5 (d:∀x∈l,x<256) (h:(readAll l).2=0):∀b∈(readAll l).1,b.Ok/\abo b.evs<=4096:=by
 by_cases c:524288<abo l
 ·rw [Ro c] at h;cases h
 ·by_cases a:(qx (abo l) l).2.2=0
  ·rw [Rq c a]
   exact qzu _ _ d a
  ·rw [Rp c rfl a] at h
   exact absurd h a
section
variable {l:List Nat}
def KV (c:∀z∈l,z<256) (h:oG l=0):(lM l).st.ay.Ok/\cK (lM l).st/\1<=(lM l).next/\(lM l).next<=281474976710657:=by
 have hc:=(A8 (zoi c h).1).1
 refine ⟨?_,?_,by omega,by omega⟩
 all_goals
  cases ho:fZ l with
  |error k=>
   rw [(wX ho).1] at h
   have:=Uj ho
   omega
  | ok p =>
   have a:=(Us c ho).2.2.1
   by_cases d:p.okB=true/\dP p.rH=0
   ·rw [(Ut ho d).2]
    first|exact zhi a|exact Ur a _ (.inl rfl)
   ·rw [(Oo ho d).1] at h
    cases h
def Bz (bs:List Bk):Prop:=(∀b∈bs,b.Ok/\abo b.evs<=4096)/\abo bs<=1000000
def qt5:∀(f:Nat) (l:List Nat),13*(qx f l).1.length<=abo l
 |0,l=>abz _
 | f + 1, l => by
  rw [qx]
  split
  ·exact abz _
  ·split
   ·exact abz _
   ·rename_i h
    obtain ⟨c,d,_⟩:=QX (l:=l) (b:=(dJ l).1) (m:=(dJ l).2.1) (by rw [<-adu.1 h])
    have a:=qt5 f (l.drop (dJ l).2.1)
    rw [abE] at a
    show 13*((qx f _).1.length+1)<=_
    omega
def qw6 (h:(readAll l).2=0):(readAll l).1.length<=1000000:=by
 rcases ab6 524288 (abo l) with a|a
 ·rw [Ro a] at h;cases h
 ·have d:=qt5 (abo l) l
  by_cases c:(qx (abo l) l).2.2=0
  ·rw [Rq om c];show (qx (abo l) l).1.length<=_;omega
  ·rw [Rp om rfl c];exact abz _
def q9o (a:∀x∈l,x<256) (h:(readAll l).2=0):Bz (readAll l).1:=⟨qw5 a h,qw6 h⟩
end
def Vm (w:aiM) (b:List Nat) (x:Pl) (r:aiQ) (w':aiM):Prop:=∃p:Pm,r= .returned (.tuple #[.agg p.cells,.int .i64 (dI b x:Int)])/\(dI b x=0->dM (lM (dD b x.sn x.st)) p.z/\p.q.map ac2=(readAll (dD b x.st x.en)).1)/\fB p/\Mem w w' (iK p)
def q9q:fB Pm.zero:=by
 refine ⟨⟨?_,?_,?_,?_,?_,?_,?_⟩,⟨?_,?_,?_,?_,?_,?_⟩,qzh,?_,?_,?_,?_,?_⟩
 all_goals first|exact abz _|(intro z hz;cases hz)|(show (0:Nat)<_;decide)|(show aX (0:Int);unfold aX;decide)
section
variable {W w w':aiM} {F T:List aiX} {b:List Nat} {x:Pl}
theorem Mem.xG (h:Mem W w []):Mem W w (iK Pm.zero):=by
 exact ((((((h.nil 85 5).nil 176 1).nil 232 8).nil 3 1).nil 3 1).nil 198 2)
def Vr {n:Int} (c:(dI b x:Int)=n) (a:n≠0) (d:Mem W w []):Vm W b x (.returned (.tuple #[.agg Pm.zero.cells,.int .i64 n])) w:=by
 subst c
 exact ⟨Pm.zero,rfl,λh=>absurd (by rw [h];rfl) a,q9q,d.xG⟩
def zfb {z:dF} {q:List Hb} (hb:∀y∈b,y<256) (h1:oG (dD b x.sn x.st)=0) (i:(lM (dD b x.sn x.st)).next=(x.nx:Int)) (j:(readAll (dD b x.st x.en)).2=0) (hz:dM (lM (dD b x.sn x.st)) z) (a:gD z.st) (d:q.map ac2=(readAll (dD b x.st x.en)).1) (hc:abo q<=c) (k:Bz (readAll (dD b x.st x.en)).1) (m:Mem W w (iK ⟨z,A,c,q⟩)):Vm W b x (.returned (.tuple #[.agg (Pm.cells ⟨z,A,c,q⟩),.int .i64 0])) w:=by
 have n:dI b x=0:=(UA h1 i).trans j
 have e:=Ou hb x.sn x.st
 obtain ⟨o1,o,r,s⟩:=KV e h1
 obtain ⟨r1,p⟩:=k
 have f:abo q=(readAll (dD b x.st x.en)).1.length:=by rw [<-d,abw]
 refine ⟨⟨z,A,c,q⟩,by rw [n];rfl,λ_=>⟨hz,d⟩,⟨zhk hz o1,zgy (Di hz) o,a,?_,λh g=>?_,λh g=>?_,by rw [f];exact p,hc⟩,m⟩
 ·show aX z.next
  rw [<-hz.1]
  unfold aX
  omega
 ·exact (r1 h.b (by rw [<-d];exact ac5 g)).1
 ·have:=(r1 h.b (by rw [<-d];exact ac5 g)).2
  omega
end
def pE (p:Pm) (e:Nat):Array aiN:= #[.int .i64 p.z.next,.int .i64 p.z.st.au,.int .u64 (p.z.st.aj:Int),.slice p.z.st.gA (abo p.z.st.gs) p.z.st.gc,.slice p.z.st.lA (abo p.z.st.cl) p.z.st.lc,.slice p.z.st.uA (abo p.z.st.cu) p.z.st.uc,.slice p.z.st.tA (abo p.z.st.ts) p.z.st.tc,.slice p.z.st.sA (abo p.z.st.rs) p.z.st.sc,.slice p.A (abo p.q) p.c,.int .i64 (e:Int)]
def zhn (p:Pm) (e:Nat):∀v∈(pE p e).toList,v.oneCell'=true:=by
 intro v b
 simp only [pE,abY,acv,or_false] at b
 rcases b with rfl|rfl|rfl|rfl|rfl|rfl|rfl|rfl|rfl|rfl<;>rfl
def pF (b:List Nat) (x:Pl) (p:Pm):Prop:=dI b x=0->dM (lM (dD b x.sn x.st)) p.z/\p.q.map ac2=(readAll (dD b x.st x.en)).1
def Vz (W:aiM) (b:List Nat) (L:List Pl) (f:Nat) (Inv:List Pl->List aiX->Prop) (Stop:List aiX->Prop):Prop:=
 ∀(c:List Pl) (F fr:List aiX) (w:aiM) (i:Nat) (x:Pl) (t:List Pl) (p:Pm),Inv c F->c=x::t->L.drop i=c->i<abo L->L.getD i Pl.zero=x->pF b x p->fB p->Mem W w (iK p++(F++fr))->
  YieldAt Fence.wide 0 abp f #[.int .i64 (i:Int),.agg (pE p (dI b x))] w λe w'=>∃d,Mem W w' (d++fr)/\((True/\e= .returned (.bool true)/\Inv t d)\/(True/\e= .returned (.bool false)/\Stop d))
def q26 (W:aiM) (Inv:List Pl->List aiX->Prop) (Stop:List aiX->Prop) (r:aiQ) (w':aiM):Prop:=∃v,r= .returned v/\∃b,Mem W w' b/\(Inv [] b\/Stop b)
def qm3 {W:aiM} {fr:List aiX} {I S:List aiX->Prop}:∀(e:aiQ) (w':aiM),(∃b,Mem W w' (b++fr)/\((True/\e= .returned (.bool true)/\I b)\/(True/\e= .returned (.bool false)/\S b)))->∃v,e= .returned v
 |_,_,⟨_,_,.inl ⟨_,h,_⟩⟩=>⟨_,h⟩
 |_,_,⟨_,_,.inr ⟨_,h,_⟩⟩=>⟨_,h⟩
section
variable {W w w':aiM} {a pa T F G es fr:List aiX} {p:Pm} {q:List Pm}
theorem Mem.jU (n:Nat) (h:Mem W w F) (k:Mem w w' G) (c:F.drop n=T):Mem W w' (F.take n++(G++T)):=by
 have b:=h.qM k
 rw [<-ab8 n F,c,abv] at b
 exact b.perm (adS _ acD)
def abh (h:Mem W w (es++(pa++F))):Mem W w (pa++(F++es)):=by
 have b:=h.perm acD
 rwa [abv] at b
def aaL (h:Mem W w (pa++(a++T))):Mem W w (a++(pa++T)):=by
 rw [<-abv] at h⊢
 exact h.perm (aen T acD)
def aaW (h:Mem W w (a++(iK p++(bY q++fr)))):Mem W w (a++(bY (q++[p])++fr)):=by
 rw [qtz]
 rw [<-abv] at h⊢
 rw [<-abv] at h
 refine h.perm (aen fr ?_)
 rw [abv]
 exact adS a acD
def aav (h:Mem W w (a++(pa++fr))):Mem W w (a++fr):=h.mV (ahe (aeG pa fr) a)
end
def q9t (w:aiM) (b:List Nat) (r:aiQ) (w':aiM):Prop:=
 ((dn b).2≠0/\Is w (.tuple #[.slice none 0 0,.int .i64 (-1),.int .i64 ((dn b).2:Int)]) r w')\/
 ((dn b).2=0/\∃k e,lS b (dn b).1 0=some (k,e)/\Is w (.tuple #[.slice none 0 0,.int .i64 (k:Int),.int .i64 (e:Int)]) r w')\/
 ((dn b).2=0/\lS b (dn b).1 0=none/\∃(A:aiW) (c:Nat) (q:List Pm),r= .returned (.tuple #[.slice A (abo q) c,.int .i64 (-1),.int .i64 0])/\abo q=(dn b).1.length/\(∀i,i<abo q->pF b ((dn b).1.getD i Pl.zero) (q.getD i Pm.zero))/\(∀p∈q,fB p)/\abo q<=c/\Mem w w' (.row (.slice A (abo q) c) (abo q) (q.flatMap gQ) 53 9::bY q))
def FD (L:List Pl) (next:Int):Nat->Int×Nat
 |0=>(0,6)
 |k+1=>if ((L.getD k Pl.zero).nx:Int)<=next then ((k:Int),0) else FD L next k
def kG (b:List Nat) (next:Int):Int×Nat:=if (dn b).2≠0 then (0,(dn b).2) else FD (dn b).1 next (dn b).1.length
def jy (b:List Nat) (i:Int):Nat:=if (dn b).2≠0 then (dn b).2 else if i<0\/((dn b).1.length:Int)<=i then 2 else dI b ((dn b).1.getD i.toNat Pl.zero)
def KW (w:aiM) (b:List Nat) (i:Int) (r:aiQ) (a:aiM):Prop:=∃p:Pm,r= .returned (.tuple #[.agg p.cells,.int .i64 (jy b i:Int)])/\(jy b i=0->pF b ((dn b).1.getD i.toNat Pl.zero) p)/\fB p/\Mem w a (iK p)
section
variable {W w:aiM} {b:List Nat} {L:List Pl} {i:Int} {ie k:Nat}
def VB {n:Int} (c:jy b i=e) (d:n=(e:Int)) (a:e≠0) (f:Mem W w []):KW W b i (.returned (.tuple #[.agg Pm.zero.cells,.int .i64 n])) w:=by
 subst c d
 exact ⟨Pm.zero,rfl,λh=>absurd h a,q9q,f.xG⟩
def zfc {x:Pl} {p:Pm} (hi:dn b=(L,0)) (h:i=(k:Int)) (hk:k<abo L) (a:L.getD k Pl.zero=x) (c:pF b x p) (d:fB p) (e:Mem W w (iK p)):KW W b i (.returned (.tuple #[.agg p.cells,.int .i64 (dI b x:Int)])) w:=by
 subst h a
 have f:jy b (k:Int)=dI b (L.getD k Pl.zero):=by unfold jy;rw [hi,if_neg (λh=>h rfl),if_neg (by show ¬((k:Int)<0\/(abo L:Int)<=(k:Int));omega)];rfl
 refine ⟨p,by rw [f],λ_=>?_,d,e⟩
 rw [hi]
 exact c
def zfd (hi:dn b=(L,ie)) (h:ie≠0):jy b i=ie:=by unfold jy;rw [hi];exact if_pos h
theorem qzv (hi:dn b=(L,0)) (h:i<0\/(abo L:Int)<=i):jy b i=2:=by grind [jy]
def zfe {n:Int} (hi:dn b=(L,ie)) (h:ie≠0):kG b n=(0,ie):=by unfold kG;rw [hi];exact if_pos h
def zll {n:Int} (hi:dn b=(L,0)):kG b n=FD L n (abo L):=by unfold kG;rw [hi];exact if_neg (λh=>h rfl)
end
def kZ (next:Int):dF:=⟨next,⟨1,0,none,1,[⟨0,1⟩],none,1,[0],none,1,[0],none,0,[],none,1,[⟨none,1,[⟨0,0,0⟩]⟩]⟩⟩
def qX (next:Int):Pv:=⟨kZ next,[kQ 7]⟩
def dS:List Nat:=(nZ [qX 1]).1
def zho (w:aiM) (next:Int) (r:aiQ) (a:aiM):Prop:=∃p:Pm,r= .returned (.agg p.cells)/\dM (kZ next) p.z/\p.q.map ac2=[kQ 7]/\fB p/\Mem w a (iK p)
def uG (x y:Pv):Prop:=dM x.s y.s/\x.bs=y.bs
inductive kH:List Pv->List Pv->Prop where
 |nil:kH [] []
 |cons {x y:Pv} {l m:List Pv} (h:uG x y) (t:kH l m):kH (x::l) (y::m)
def q9u:∀{l m:List Pv} (last:Int) (i:Nat),kH l m->lT m last i=lT l last i
 |_,_,_,_,.nil=>rfl
 |_,_,last,i,.cons h t=>by
  rw [lT,lT,Iz h.1,h.2,h.1.1,q9u _ _ t]
theorem zhp {l m:List Pv} (h:kH l m):abo m=abo l:=by induction h<;>grind
theorem VD {l m:List Pv} (h:kH l m):pX m=pX l:=by
 unfold pX
 rw [zhp h,q9u _ _ h]
def q9v {l m:List Pv} (h:kH l m) (i:Nat):uG (l.getD i Pv.zero) (m.getD i Pv.zero):=by
 induction h generalizing i with
 |nil=>exact ⟨qty _,rfl⟩
 |cons h _ a=>
  cases i with
  |zero=>exact h
  |succ i=>exact a i
theorem zhq {l m:List Pv} (h:kH l m):∀i,stA m i=stA l i
 |0=>rfl
 |i+1=>by
  rw [stA,stA,zhq h i]
  unfold qV
  rw [q6z (q9v h i).1,(q9v h i).2]
theorem zff {l m:List Pv} (h:kH l m):m.flatMap jL=l.flatMap jL:=by
 induction h with
 |nil=>rfl
 |cons h _ a=>
  rw [abR,abR,a]
  unfold jL
  rw [q6z h.1,h.2,h.1.1]
theorem q9w {l m:List Pv} (h:kH l m):nZ m=nZ l:=by grind [VD,headA,zhp,l8,zff,zhq,nZ]
def oI {p:Pm} {n:Int} (h:dM (kZ n) p.z) (a:p.q.map ac2=[kQ 7]):uG (qX n) p.v:=⟨h,a.symm⟩
set_option maxRecDepth 100000 in
theorem zfg:nZ [qX 1]=(dS,0):=by kernel_rfl
set_option maxRecDepth 100000 in
theorem zhr:dn dS=([⟨1,11,26,39⟩],0):=by kernel_rfl
set_option maxRecDepth 100000 in
theorem zoo:dI dS ⟨1,11,26,39⟩=0:=by kernel_rfl
set_option maxRecDepth 100000 in
theorem KX:(readAll (dD dS 26 39)).1=[kQ 7]:=by kernel_rfl
set_option maxRecDepth 100000 in
theorem KY:pX [qX 1,qX 0]=(1,330):=by kernel_rfl
set_option maxRecDepth 100000 in
theorem KZ:pX [qX 1,qX 5,qX 4]=(2,411):=by kernel_rfl
def Lf (n:Int) (a b c d e f:Nat):Pm:=⟨⟨n,(Pb a b c d e).st⟩,some ⟨f,0,none⟩,1,[⟨kQ 7,none,0⟩]⟩
section
variable {W w w':aiM} {n:Int} {a b c d e f:Nat} {F S S2 T:List aiX} {p q s:Pm} {r:aiQ}
def Lg (g:aX n) (h:Mem W w [.blk a #[.int .i64 0,.int .i64 1] 198,.blk b #[.int .i64 0] 3,.blk c #[.int .i64 0] 3,.blk e #[.slice (some ⟨d,0,none⟩) 1 1] 176,.blk d #[.int .u64 0,.int .u32 0,.int .u64 0] 200,.blk f #[.int .u8 2,.int .u8 0,.int .i64 0,.int .i64 7,.slice none 0 0] 85]):zho W n (.returned (.agg (Lf n a b c d e f).cells)) w:=by
 have j:=h.fU (i:=0) (n:=1) (size:=2) rfl rfl de
 have k:=j.fU (i:=1) (n:=1) (size:=1) rfl rfl de
 have l:=k.fU (i:=2) (n:=1) (size:=1) rfl rfl de
 have m:=l.fU (i:=3) (n:=1) (size:=1) rfl rfl de
 have o:=m.fU (i:=4) (n:=1) (size:=3) rfl rfl de
 have t:=o.fU (i:=5) (n:=1) (size:=5) rfl rfl de
 have u:=(t.nil 232 8).nil 73 11
 exact ⟨Lf n a b c d e f,rfl,qN rfl ⟨⟨rfl,rfl,rfl⟩,rfl,rfl,rfl,rfl⟩,rfl,⟨zow,zl4,zl5,g,yE (zjb (by unfold aX;decide)),yE (abz _),by show 1<=1000000;decide,abu _⟩,u.picks [2,3,4,1,5,6,7,0] de rfl⟩
theorem Mem.Pf (n:Nat) (h:Mem W w F) (g:F.drop n=iK p++T):gq w p:=h.zR λf i=>abU (g▸adQ _ i)
theorem Mem.Lh (n:Nat) (h:Mem W w F) (g:F.drop n=S++(iK p++T)):gq w p:=h.zR λf i=>abU (g▸acP _ (adQ _ i))
theorem Mem.V3 (n:Nat) (h:Mem W w F) (g:F.drop n=S++(S2++(iK p++T))):gq w p:=h.zR λf i=>abU (g▸acP _ (acP _ (adQ _ i)))
def zl6 (h:fB p) (k:gq w p):∀x∈[p],fB x/\gq w x:=yE (p:=λx=>fB x/\gq w x) ⟨h,k⟩
theorem zl7 (h:fB p) (k:gq w p) (g:fB q) (k2:gq w q):∀x∈[p,q],fB x/\gq w x:=by grind
theorem zl8 (h:fB p) (k:gq w p) (g:fB q) (k2:gq w q) (i:fB s) (j:gq w s):∀x∈[p,q,s],fB x/\gq w x:=by grind
end
def mF:List Nat:=(nZ []).1
set_option maxRecDepth 100000 in
theorem BG:nZ []=(mF,0)/\mF=[113,97,1,0]++mF.drop 4/\mF.length=8:=by refine ⟨?_,?_,?_⟩<;>kernel_rfl
set_option maxRecDepth 100000 in
theorem zox:dS=[113,97,1,1,1,15,13]++dS.drop 7:=by kernel_rfl
set_option maxRecDepth 100000 in
theorem qZ:dS.length=39:=by kernel_rfl
set_option maxRecDepth 100000 in
theorem tu:∀x∈dS,x<256:=by
 have h:(dS.all λx=>decide (x<256))=true:=by kernel_rfl
 exact λx g=>of_decide_eq_true (List.all_eq_true.1 h x g)
set_option maxRecDepth 100000 in
theorem zl9:dn (dS++[0])=([],410):=by kernel_rfl
set_option maxRecDepth 100000 in
theorem Li:kG dS 9=(0,0)/\kG dS 0=(0,6)/\jy dS 0=0/\jy dS 1=2:=by refine ⟨?_,?_,?_,?_⟩<;>kernel_rfl
set_option maxRecDepth 100000 in
theorem Lj:(lM (dD dS 11 26)).next=1:=by kernel_rfl
def zoy:∀x∈dS++[0],x<256:=by decide
def zma (h:Rd w B 1 A m (dS.map B8)) (hm:m=39):Rd w B 1 A 7 ([113,97,1,1,1,15,13].map B8):=by
 rw [zox] at h
 exact Rd.pre h rfl om
def zmb (h:Rd w B 1 A m (mF.map B8)) (hm:m=8):Rd w B 1 A 4 ([113,97,1,0].map B8):=by
 rw [BG.2.1] at h
 exact Rd.pre h rfl om
def Ll (w:aiM) (r:aiQ) (w':aiM):Prop:=∃(z:aF) (g c:Nat) (h:Hb),r= .returned (.tuple #[.agg #[.int .i64 1,.int .i64 z.au,.int .u64 (z.aj:Int),.slice z.gA (abo z.gs) z.gc,.slice z.lA (abo z.cl) z.lc,.slice z.uA (abo z.cu) z.uc,.slice z.tA (abo z.ts) z.tc,.slice z.sA (abo z.rs) z.sc,.slice (some ⟨g,0,none⟩) 1 c],.int .i64 0])/\h.b=kQ 7/\Mem w w' [.row (.slice (some ⟨g,0,none⟩) 1 c) 1 ([h].flatMap hbL) 85 5]
def zmc (h:KW w dS 0 r w'):Ll w r w':=by
 obtain ⟨⟨⟨nx,z⟩,A,c,q⟩,rfl,m,o,hm⟩:=h
 rw [Li.2.2.1]
 have k:=m Li.2.2.1
 rw [zhr] at k
 obtain ⟨u,v⟩:=k zoo
 have l:(lM (dD dS 11 26)).next=nx:=u.1
 rw [Lj] at l
 subst l
 have x:q.map ac2=[kQ 7]:=v.trans KX
 obtain ⟨h,t,rfl,y,ht⟩:=List.map_eq_cons_iff.1 x
 obtain rfl:=List.map_eq_nil_iff.1 ht
 have j:Mem w w' [.row (.slice A 1 c) 1 ([h].flatMap hbL) 85 5]:=hm.mV (List.sublist_append_of_sublist_right (ahx _ (List.nil_sublist _)))
 obtain ⟨g,rfl⟩:=zx (j.own (i:=0) rfl) de
 exact ⟨z,g,c,h,rfl,y,j⟩
def zfs (h:KW w dS 1 r w'):∃p:Pm,r= .returned (.tuple #[.agg p.cells,.int .i64 2])/\Below w.heap.size w w':=by
 obtain ⟨p,rfl,_,_,hm⟩:=h
 rw [Li.2.2.2]
 exact ⟨p,rfl,hm.below⟩
def Lm:nO abp 4 57 (.agg (Pl.cells ⟨1,11,26,39⟩)) (.agg #[.int .i64 1,.int .i64 11,.int .i64 26,.int .i64 39])=some true:=by kernel_rfl
section
variable {W w w':aiM} {b:List Nat} {L:List Pl} {i:Int} {j k ie:Nat} {x:Pl} {a:List aiX} {q p:List Hb}
end
structure Ap where
 n:dQ
 A:aiW
 c:Nat
 l:List jl
 gap:Nat
 B:aiW
 d:Nat
 q:List gI
def Ap.zero:Ap:=⟨⟨0,0,0,[],[]⟩,none,0,[],0,none,0,[]⟩
def Ap.cells (x:Ap):Array aiN:= #[.int .u8 (x.n.au:Int),.int .u8 (x.n.groups:Int),.int .u32 (x.n.aj:Int),.int .u8 (x.n.ps.getD 0 0:Int),.int .u8 (x.n.ps.getD 1 0:Int),.int .u8 (x.n.ps.getD 2 0:Int),.int .u8 (x.n.ps.getD 3 0:Int),.int .u8 (x.n.ps.getD 4 0:Int),.int .u16 (x.n.ws.getD 0 0:Int),.int .u16 (x.n.ws.getD 1 0:Int),.int .u16 (x.n.ws.getD 2 0:Int),.int .u16 (x.n.ws.getD 3 0:Int),.int .u16 (x.n.ws.getD 4 0:Int),.slice x.A (abo x.l) x.c,.int .u32 (x.gap:Int),.slice x.B (abo x.q) x.d]
def FH (x:Ap):List aiN:=x.cells.toList
def q9x (x:Ap):abo (FH x)=16:=rfl
def zor (x:Ap):∀v∈x.cells.toList,v.oneCell'=true:=by simp [Ap.cells,abX]
def BD:SI abp 104 16:=⟨by kernel_rfl,by kernel_rfl⟩
def K4:EI abp 22 104 (.agg Ap.zero.cells) 16 80:=⟨by kernel_rfl,by kernel_rfl,rfl,by omega⟩
def five {α:Type} {l:List α} (h:abo l=5):∃a b c d e,l=[a,b,c,d,e]:=by
 match l,h with
 |[a,b,c,d,e],_=>exact ⟨a,b,c,d,e,rfl⟩
def zht {n:dQ} (h:n.Ok):(#[.int .u8 (n.au:Int),.int .u8 (n.groups:Int),.int .u32 (n.aj:Int),.int .u8 (n.ps.getD 0 0:Int),.int .u8 (n.ps.getD 1 0:Int),.int .u8 (n.ps.getD 2 0:Int),.int .u8 (n.ps.getD 3 0:Int),.int .u8 (n.ps.getD 4 0:Int),.int .u16 (n.ws.getD 0 0:Int),.int .u16 (n.ws.getD 1 0:Int),.int .u16 (n.ws.getD 2 0:Int),.int .u16 (n.ws.getD 3 0:Int),.int .u16 (n.ws.getD 4 0:Int)]:Array aiN)=n.cells:=by
 obtain ⟨c,g,r,ps,ws⟩:=n
 obtain ⟨a,b,c,d,e,rfl⟩:=five h.pl
 obtain ⟨a,b,c,d,e,rfl⟩:=five h.wl
 rfl
structure lU (W:aiM) (x:Ap):Prop where
 n:x.n.Ok
 l:∀y∈x.l,y.Ok
 lc:abo x.l<=x.c
 ln:abo x.l<=9223372036854775807
 lr:Rd W W.heap.size 8 x.A (abo x.l) (x.l.flatMap zK)
 gap:x.gap<4294967296
 q:∀y∈x.q,qG W y
 qc:abo x.q<=x.d
 qn:abo x.q<=9223372036854775807
 qr:Rd W W.heap.size 6 x.B (abo x.q) (x.q.flatMap yT)
def jm:List Ap->Nat->Nat
 |x::l,j+1=>x.gap+jm l j
 |_,_=>0
section
variable {l:List Ap} {i j:Nat} {x:Ap} {p:Pm} {qs:List Pm}
def VE:jm l 0=0:=by cases l<;>rfl
def q9y:∀{l:List Ap} {i:Nat},i<abo l->jm l (i+1)=jm l i+(l.getD i Ap.zero).gap
 |x::l,0,_=>by show x.gap+jm l 0=jm (x::l) 0+x.gap;rw [VE,VE];omega
 |x::l,i+1,h=>by
  show x.gap+jm l (i+1)=x.gap+jm l i+(l.getD i Ap.zero).gap
  rw [q9y (adU h),afe]
def zlp (h:∀x∈l,x.gap<4294967296):jm l i<=i*4294967296:=by
 induction l generalizing i with
 |nil=>exact abz _
 | cons x l d =>
  cases i with
  |zero=>exact abz _
  |succ i=>
   have f:=d (i:=i) (λy e=>h y (ab5 _ e))
   have g:=h x (acj ..)
   show x.gap+jm l i<=_
   omega
structure nA (x:Ap) (nx:Nat) (p:Pm):Prop where
 sn:dN p.z
 good:GoodS p.z.st.ay
 ids:fP 12 p.z.st.ts
 nx:p.z.next=1+(nx:Int)
 bl:p.q.map ac2=rU (x.q.take 5)
 qc:abo p.q<=p.c
def mg (l:List Ap) (qs:List Pm) (i:Nat):Prop:=abo qs=i/\∀j,j<i->nA (l.getD j Ap.zero) (jm l (j+1)) (qs.getD j Pm.zero)
def zfj:mg l [] 0:=⟨rfl,λj h=>absurd h (ag5 j)⟩
def zos (h:mg l qs i) (e:l.getD i Ap.zero=x) (f:nA x (jm l (i+1)) p):mg l (qs++[p]) (i+1):=by
 refine ⟨by rw [abq,h.1];rfl,λj g=>?_⟩
 rw [abt (l:=qs++[p])]
 rcases ab6 j i with d|d
 ·rw [adT (by rw [h.1];exact d),<-abt]
  exact h.2 j d
 ·obtain rfl:j=i:=by omega
  rw [adP (by rw [h.1];exact abu _),h.1,aeg,e]
  exact f
end
section
variable {W w:aiM} {a:List aiX} {l:List Pm} {z:dF} {A:aiW} {c:Nat} {b:List Hb}
def aa0 (h:Mem W w (.row (.slice A (abo b) c) (abo b) (b.flatMap hbL) 85 5::(a++(iU 73 b++(bY l++jP z.st))))):Mem W w (a++bY (l++[⟨z,A,c,b⟩])):=by
 rw [qtz]
 refine h.perm (List.perm_middle.symm.trans (adS a ?_))
 have d:=acD (l₁:=aiX.row (.slice A (abo b) c) (abo b) (b.flatMap hbL) 85 5::iU 73 b) (l₂:=bY l++jP z.st)
 rw [abv (bY l)] at d
 exact d
def K5 (w:aiM) (l:List Ap) (r:aiQ) (d:aiM):Prop:=∃(A:aiW) (c:Nat) (q:List Pm),r= .returned (.tuple #[.slice A (abo q) c,.bool true])/\mg l q (abo (l.take 4))/\abo q<=c/\Mem w d (.row (.slice A (abo q) c) (abo q) (q.flatMap gQ) 53 9::bY q)
end
section
variable {b r:List Nat} {p m y:Nat}
def OQ (h:b.drop p=ak y++r) (hy:y<=m) (hm:m<18446744073709551616):fO b p m=true/\eu b p m=y/\bI b p=p+abo (ak y)/\b.drop (bI b p)=r:=by
 have a:aD (b.drop p)=(y,abo (ak y),0):=by rw [h];exact MF r om
 have c:bI b p=p+abo (ak y):=by unfold bI;rw [a]
 refine ⟨?_,?_,c,?_⟩
 ·unfold fO bn;rw [a];exact decide_eq_true ⟨rfl,hy⟩
 ·unfold eu aA;rw [a];exact if_neg (by show ¬m<y;omega)
 ·rw [c,<-acN,h,afE]
end
def pG:Nat->List Pv->List Pl
 |_,[]=>[]
 |s,x::l=>⟨aK x.s.next,s,s+abo (dz x.s),s+abo (dz x.s)+(q9 x.bs).1.length⟩::pG (s+abo (dz x.s)+(q9 x.bs).1.length) l
def xH:Nat->List Pv->Nat
 |s,[]=>s
 |s,x::l=>xH (s+abo (dz x.s)+(q9 x.bs).1.length) l
def oJ:Nat->List Pv->Prop
 |_,[]=>True
 |a,x::l=>a<=aK x.s.next/\oJ (aK x.s.next) l
structure La (x:Pv):Prop where
 nx:aK x.s.next<=4611686018427387904
 sn:abo (dz x.s)<=16777216
 bl:(q9 x.bs).1.length<=16777216
def q90 {b r:List Nat}:∀(lv:List Pv) (p last s:Nat),(∀x∈lv,La x)->oJ last lv->b.drop p=(lv.flatMap jL).flatMap ak++r->kF b (abo lv) p last s=some (pG s lv,p+abo ((lv.flatMap jL).flatMap ak),xH s lv)
 |[],p,last,s,_,_,_=>rfl
 | x :: l, p, last, s, c, hs, h => by
  have a:=c x (acj ..)
  have e:((x::l).flatMap jL).flatMap ak=ak (aK x.s.next)++(ak (abo (dz x.s))++(ak (q9 x.bs).1.length++(l.flatMap jL).flatMap ak)):=by
   rw [abR,ab1]
   show (ak _++(ak _++(ak _++[])))++_=_
   rw [abM,abv,abv]
  rw [e,abv,abv,abv] at h
  obtain ⟨o1,v1,f,g⟩:=OQ h a.nx om
  obtain ⟨o,t,u,v⟩:=OQ g a.sn om
  obtain ⟨w,z,A,B⟩:=OQ v a.bl om
  have C:uF b p=true:=by unfold uF;rw [o1,o,w];rfl
  have d:lN b p=aK x.s.next:=v1
  have D:lQ b p=abo (dz x.s):=t
  have E:nk b p=(q9 x.bs).1.length:=z
  have F:=q90 l (rowP b p) (aK x.s.next) (s+abo (dz x.s)+(q9 x.bs).1.length) (λy G=>c y (ab5 _ G)) hs.2 B
  rw [abV,kF,if_pos ⟨C,by rw [d];exact hs.1⟩,d,D,E,F,e]
  have H:rowP b p+abo ((l.flatMap jL).flatMap ak)=p+abo (ak (aK x.s.next)++(ak (abo (dz x.s))++(ak (q9 x.bs).1.length++(l.flatMap jL).flatMap ak))):=by
   unfold rowP
   rw [abq,abq,abq,A,u,f]
   omega
  rw [H]
  rfl
def iI (lv:List Pv) (i:Nat):List Nat:=(lv.take i).flatMap λx=>dz x.s++(q9 x.bs).1
section
variable {lv:List Pv} {i k:Nat}
def OT (h:i<abo lv):iI lv (i+1)=iI lv i++dz (lv.getD i Pv.zero).s++(q9 (lv.getD i Pv.zero).bs).1:=by
 unfold iI
 rw [qc6 Pv.zero h,ab1,abR,aeF,abM,abv]
def qzz:∀(lv:List Pv) (s:Nat),xH s lv=s+abo (iI lv (abo lv))
 |[],s=>rfl
 |x::l,s=>by
  have a:=qzz l (s+abo (dz x.s)+(q9 x.bs).1.length)
  unfold iI at a⊢
  rw [adv] at a⊢
  rw [abR,abq,abq]
  show xH _ l=_
  omega
structure jH (x:Pv):Prop where
 qY:dP x.s=0
 bl:fV x.bs=0
 ws:(q9 x.bs).2=0
 sn:abo (dz x.s)<=600000
 nx:1<=x.s.next/\x.s.next<=281474976710657
def jH.fit {x:Pv} (h:jH x):La x:=⟨by have:=h.nx;unfold aK;omega,by have:=h.sn;omega,by have:=MZ x.bs;omega⟩
theorem jH.aK {x:Pv} (h:jH x):(aK x.s.next:Int)=x.s.next:=by have:=h.nx;unfold Go.Proofs.YtekiimhdnigmcaaGreatDoor.aK;omega
def VG (a:∀x∈lv,jH x):∀i,i<=abo lv->abo (iI lv i)<=i*1124288
 |0,_=>abz _
 |i+1,h=>by
  have d:=VG a i om
  have c:=a _ (qf Pv.zero (show i<abo lv by omega))
  have e:=c.sn
  have f:=MZ (lv.getD i Pv.zero).bs
  rw [OT om,abq,abq]
  omega
def VJ (c:∀x∈lv,jH x) (d:abo lv<=8):∀i,i<=abo lv->stA lv i=(iI lv i,false)
 |0,_=>rfl
 | i + 1, h => by
  have e:=c _ (qf Pv.zero (show i<abo lv by omega))
  have f:=VG c (i+1) h
  rw [OT om,abq,abq] at f
  rw [stA,VJ c d i om,OT om]
  unfold qV
  refine if_neg ?_
  rw [adD,adD,decide_eq_true_eq,decide_eq_true_eq]
  rintro ((a|a)|a)
  ·cases a
  ·exact a e.ws
  ·have a:16777216<abo (iI lv i)+abo (dz (lv.getD i Pv.zero).s)+(q9 (lv.getD i Pv.zero).bs).1.length:=a
   omega
theorem qt8 (c:∀x∈lv,jH x):∀(l:List Pv) (last:Nat) (i:Nat),(∀x∈l,jH x)->oJ last l->lT l (last:Int) i=(-1,0)
 |[],_,_,_,_=>rfl
 |x::l,last,i,h,hs=>by
  have a:=h x (acj ..)
  have d:=a.aK
  have f:=hs.1
  rw [lT,if_neg (λn=>n a.qY),if_neg (λn=>n a.bl),if_neg om,<-d]
  exact qt8 c l _ _ (λy e=>h y (ab5 _ e)) hs.2
def qt9:∀lv:List Pv,abo (lv.flatMap jL)=3*abo lv
 |[]=>rfl
 |x::l=>by rw [abR,abq,qt9 l,abV];show 3+_=_;omega
def Lb:∀(lv:List Pv) (s:Nat),abo (pG s lv)=abo lv
 |[],_=>rfl
 |x::l,s=>by rw [pG,abV,Lb l,abV]
def q91:∀(lv:List Pv) (s i:Nat),i<abo lv->((pG s lv).getD i Pl.zero).nx=aK (lv.getD i Pv.zero).s.next
 |x::l,s,0,_=>rfl
 |x::l,s,i+1,h=>q91 l _ i (adU h)
def VL:∀(lv:List Pv) (s i:Nat),i<abo lv->(pG s lv).getD i Pl.zero=⟨aK (lv.getD i Pv.zero).s.next,s+abo (iI lv i),s+abo (iI lv i)+abo (dz (lv.getD i Pv.zero).s),s+abo (iI lv i)+abo (dz (lv.getD i Pv.zero).s)+(q9 (lv.getD i Pv.zero).bs).1.length⟩
 |x::l,s,0,_=>rfl
 | x :: l, s, i + 1, h => by
  have e:abo (iI (x::l) (i+1))=abo (dz x.s)+(q9 x.bs).1.length+abo (iI l i):=by
   unfold iI
   rw [List.take_succ_cons,abR,abq,abq]
  rw [e,<-afe,<-afe]
  exact VL l _ i (adU h)
def q29 (h:i<abo lv):∃r,iI lv (abo lv)=iI lv i++(dz (lv.getD i Pv.zero).s++((q9 (lv.getD i Pv.zero).bs).1++r)):=by
 refine ⟨(lv.drop (i+1)).flatMap λx=>dz x.s++(q9 x.bs).1,?_⟩
 rw [<-abv,<-abv,<-OT h]
 unfold iI
 rw [<-ab1,ab8,adv]
def qz0 {p m r:List Nat} {i j:Nat} (hb:b=p++(m++r)) (hi:i=abo p) (a:j=abo p+abo m):dD b i j=m:=by
 subst hb hi a
 unfold dD
 rw [<-abv,<-abq,adO,afE]
structure WrA (lv:List Pv) (L:List Pl) (bs:List Nat):Prop where
 qY:pX lv=(-1,0)
 wr:nZ lv=(bs,0)
 idx:dn bs=(L,0)
 len:abo L=abo lv
 nx:∀i,i<abo lv->((L.getD i Pl.zero).nx:Int)=(lv.getD i Pv.zero).s.next
 few:abo bs<=16777216
 cut:∀i,i<abo lv->dD bs (L.getD i Pl.zero).sn (L.getD i Pl.zero).st=dz (lv.getD i Pv.zero).s/\dD bs (L.getD i Pl.zero).st (L.getD i Pl.zero).en=(q9 (lv.getD i Pv.zero).bs).1
 dam:∃a,(∀i,i<abo lv->a<=(L.getD i Pl.zero).sn)/\∀c,abo c=abo bs->c.take a=bs.take a->dn c=(L,0)
def zlt (f:∀x∈lv,jH x) (hs:oJ 0 lv) (D:abo lv<=8):∃L bs,WrA lv L bs:=by
 have hc:pX lv=(-1,0):=by unfold pX;rw [if_neg om];exact qt8 f lv 0 0 f hs
 have v:=VJ f D (abo lv) (abu _)
 have E:=VG f (abo lv) (abu _)
 obtain ⟨h,o⟩:∃h,h=[113,97,1]++(l8 lv (abo lv)).flatMap ak:=⟨_,rfl⟩
 have e:l8 lv (abo lv)=abo lv::lv.flatMap jL:=by unfold l8;rw [adv]
 have F:abo h<=3+10*(1+3*8):=by
  have g:=uH (l8 lv (abo lv))
  have G:=qt9 lv
  rw [o,abq,show abo ([113,97,1]:List Nat)=3 from rfl]
  rw [e,abV,G] at g
  rw [e]
  omega
 have H:headA lv=aY h:=by unfold headA;rw [o]
 have a:abo (aY h)=abo h+4:=pY h
 have I:nZ lv=(aY h++iI lv (abo lv),0):=by
  unfold nZ
  rw [hc,v,H,if_neg (λn=>n rfl)]
  refine if_neg ?_
  rintro (g|g)
  ·cases g
  ·have g:16777216<abo (aY h)+abo (iI lv (abo lv)):=g
   omega
 have w:abo (aY h++iI lv (abo lv))=abo h+4+abo (iI lv (abo lv)):=by rw [abq,a]
 obtain ⟨t,ht⟩:∃t,aY h=h++t:=⟨_,rfl⟩
 have key:∀d:List Nat,abo d=abo (iI lv (abo lv))->dn (aY h++d)=((pG 0 lv).map (Pl.up (abo h+4)),0):=λd z=>by
  have A:abo (aY h++d)=abo h+4+abo d:=by rw [abq,a]
  have J:(aY h++d).drop 3=ak (abo lv)++((lv.flatMap jL).flatMap ak++(t++d)):=by
   rw [ht,o,e,abR]
   show (ak (abo lv)++(lv.flatMap jL).flatMap ak)++t++_=_
   rw [abv,abv]
  have B:(aY h++d).take 3=[113,97,1]:=by rw [ht,o];rfl
  obtain ⟨o1,v1,K,M⟩:=OQ (m:=1024) J om om
  have hi:=q90 lv (bI (aY h++d) 3) 0 0 (λx N=>(f x N).fit) hs M
  have O:bI (aY h++d) 3+abo ((lv.flatMap jL).flatMap ak)=abo h:=by
   rw [K,o,e,abR,abq,abq]
   show 3+_+_=3+_
   omega
  rw [O] at hi
  refine zhl (s:=xH 0 lv) om B (by rw [o1,v1];exact hi) ⟨by omega,?_,by rw [qzz,A,z];omega⟩
  rw [<-a,adO]
  exact Qa
 refine ⟨(pG 0 lv).map (Pl.up (abo h+4)),_,hc,I,key _ rfl,by rw [abw,Lb],λi hi=>?_,by omega,λi hi=>?_,abo h+4,λi hi=>?_,λc C u=>?_⟩
 ·rw [abt,acM,getD_at Pl.zero (by rw [Lb];exact hi)]
  show ((((pG 0 lv).getD i Pl.zero).nx:Nat):Int)=_
  rw [q91 lv 0 i hi,(f _ (qf Pv.zero hi)).aK]
 ·obtain ⟨r,P⟩:=q29 hi
  rw [Fy (by rw [Lb];exact hi),VL lv 0 i hi,P]
  refine ⟨qz0 (p:=aY h++iI lv i) (abv ..).symm ?_ ?_,qz0 (p:=aY h++iI lv i++dz (lv.getD i Pv.zero).s) (r:=r) ?_ ?_ ?_⟩
  ·rw [abq,a];show 0+_+_=_;omega
  ·rw [abq,a];show 0+_+_+_=_;omega
  ·rw [abv,abv]
  ·rw [abq,abq,a];show 0+_+_+_=_;omega
  ·rw [abq,abq,a];show 0+_+_+_+_=_;omega
 ·rw [Fy (by rw [Lb];exact hi),VL lv 0 i hi]
  show abo h+4<=0+_+(abo h+4)
  omega
 ·rw [<-a,adO] at u
  rw [<-ab8 (abo (aY h)) c,u]
  exact key _ (by rw [abE,C,w,a];omega)
end
section
variable {L:List Pl} {n:Int} {k:Nat}
end
section
variable {l:List Ap} {q:List Pm} {x:Ap} {p:Pm} {i j nx:Nat}
def q92 {t:List Tk} (hs:fK t) (h1:∀y∈t,1<=y.id):∀i,i<abo t->(i:Int)+1<=(t.getD i Tk.zero).id
 |0,h=>by have:=h1 _ (qf Tk.zero h);omega
 |i+1,h=>by
  have a:=q92 hs h1 i om
  have c:=hs i (i+1) om h
  omega
def Lc {s:bH} (a:GoodS s) (c:fP 12 s.ts):abo s.ts<=12:=by
 rcases ach (abo s.ts) with h|h
 ·omega
 ·have e:=q92 a.sh.sort (λy d=>(a.sh.tasks y d).id.1) (abo s.ts-1) om
  have f:=c _ (qf Tk.zero (show abo s.ts-1<abo s.ts by omega))
  omega
end
def q93 (hs:dN s) (a:GoodS s.st.ay) (b:fP 12 s.st.ts):abo (dz s)<=600000:=by
 have c:=ER hs.qY
 obtain ⟨e,g,h,k,n,_,o⟩:=qyh c
 have d:abo s.st.ts<=12:=Lc a b
 have r:abo (aI s 5)<=97:=by
  have:=H7 (f:=λi=>kT (qq s.st.ts i) (s.st.ts.getD i Tk.zero)) (m:=8) (λi=>abu 8) (abo s.st.ts)
  show abo (dV (abo s.st.ts) λi=>kT (qq s.st.ts i) (s.st.ts.getD i Tk.zero))+1<=97
  omega
 have t:abo (eX s)<=50000:=by rw [Df];simp only [abq];omega
 have:=uH (eX s)
 rw [y9 hs.qY,pY,Im]
 omega
def qo5:∀(bs:List Bk),abo (bT bs)<=abo bs*4096
 |[]=>abz _
 |b::t=>by
  have a:=qo5 t
  have c:=QM b
  unfold bT at a⊢
  rw [abR,abq,abV]
  omega
def qz1:∀(b:List Pv) (a:Nat),(∀j,j<abo b->a<=aK (b.getD j Pv.zero).s.next)->(∀i j,i<j->j<abo b->aK (b.getD i Pv.zero).s.next<=aK (b.getD j Pv.zero).s.next)->oJ a b
 |[],_,_,_=>trivial
 |x::l,a,e,d=>⟨e 0 (aht _),qz1 l _ (λj c=>d 0 (j+1) (aht _) (afC c)) (λi j hi c=>d (i+1) (j+1) (afC hi) (afC c))⟩
section
variable {w w' W:aiM} {fs:List aiX} {l:List Ap} {q:List Pm} {x:Ap} {p:Pm} {i j nx K:Nat}
theorem lU.old (h:lU W x) (b:Mem W w fs):lU w x:=⟨h.n,h.l,h.lc,h.ln,b.old h.lr,h.gap,λy a=>⟨(h.q y a).ok,(h.q y a).hc,(h.q y a).hm,b.old (h.q y a).rd⟩,h.qc,h.qn,b.old h.qr⟩
def q94 (h:i<=j):jm l i<=jm l j:=by
 induction l generalizing i j with
 |nil=>exact abu _
 | cons x l a =>
  cases i with
  |zero=>exact abz _
  |succ i=>
   cases j with
   |zero=>omega
   |succ j=>exact Nat.add_le_add_left (a om) _
def zlu (d:lU W x) (a:nA x nx p):jH p.v:=by
 have c:=ZM (W:=W) (l:=x.q.take 5) (λy e=>d.q y (acG e))
 have g:abo (rU (x.q.take 5))<=5:=by rw [ZN,abx];omega
 have k:=qo5 (rU (x.q.take 5))
 have f:fV (rU (x.q.take 5))=0:=ZE λb h=>(c b h).2
 refine ⟨a.sn.qY,?_,?_,q93 a.sn a.good a.ids,(A8 a.sn.qY).1⟩
 ·show fV (p.q.map ac2)=0
  rw [a.bl];exact f
 ·show (q9 (p.q.map ac2)).2=0
  rw [a.bl,q08 (λb h=>(c b h).2) om]
def Ld (d:lU W x) (a:nA x nx p):fB p:=by
 have e:=ZM (W:=W) (l:=x.q.take 5) (λy c=>d.q y (acG c))
 have f:=q54 (W:=W) (l:=x.q.take 5) (λy c=>d.q y (acG c))
 have g:abo p.q<=5:=by have h:=congrArg acW a.bl;rw [abw,ZN,abx] at h;omega
 have k:=(A8 a.sn.qY).1
 exact ⟨a.sn.ok,a.sn.few,a.sn.cap,by unfold aX;omega,AB a.bl (λb h=>(e b h).1),AB a.bl (p:=λb=>abo b.evs<=1000000) f,by omega,a.qc⟩
def zhu (h:mg l q K) (a:j<K):(q.getD j Pm.zero).z.next=1+(jm l (j+1):Int):=(h.2 j a).nx
def VN (h:mg l q K) (e:K<=abo l) (c:∀x∈l,lU W x) (d:p∈q):∃x nx,lU W x/\nA x nx p:=by
 obtain ⟨j,a,rfl⟩:=acp d
 have b:=h.2 j (by rw [<-h.1];exact a)
 rw [abt (l:=q),abr a] at b
 exact ⟨_,_,c _ (qf Ap.zero (by have:=h.1;omega)),b⟩
def oK (h:j<abo q):(q.map Pm.v).getD j Pv.zero=(q.getD j Pm.zero).v:=by rw [abt,acM,getD_at Pm.zero h];rfl
structure jI (q:List Pm) (L:List Pl) (bs:List Nat):Prop where
 wr:WrA (q.map Pm.v) L bs
 len:abo L=abo q
 nx:∀j,j<abo q->((L.getD j Pl.zero).nx:Int)=(q.getD j Pm.zero).z.next
 up:∀i j,i<=j->j<abo q->(q.getD i Pm.zero).z.next<=(q.getD j Pm.zero).z.next
 i64:∀j,j<abo q->1<=(q.getD j Pm.zero).z.next/\(q.getD j Pm.zero).z.next<=281474976710657
 ok:∀p∈q,fB p
 good:∀p∈q,jH p.v
 lt:∀z∈bs,z<256
 right:∀p∈q,dN p.z
def zot (h:mg l q K) (t:K<=abo l) (D:K<=4) (u:∀x∈l,lU W x):∃L bs,jI q L bs:=by
 have m:∀x∈q.map Pm.v,jH x:=λy c=>by
  obtain ⟨p,d,rfl⟩:=ab7.1 c
  obtain ⟨x,nx,r,k⟩:=VN h t u d
  exact zlu r k
 have n:∀i j,i<=j->j<abo q->(q.getD i Pm.zero).z.next<=(q.getD j Pm.zero).z.next:=λi j hi a=>by
  have E:=h.1
  rw [zhu h om,zhu h om]
  have:=q94 (l:=l) (show i+1<=j+1 by omega)
  omega
 have g:∀j,j<abo q->1<=(q.getD j Pm.zero).z.next/\(q.getD j Pm.zero).z.next<=281474976710657:=λj a=>(m _ (ab7.2 ⟨_,qf Pm.zero a,rfl⟩)).nx
 have f:abo (q.map Pm.v)=abo q:=abw _
 have hs:oJ 0 (q.map Pm.v):=qz1 _ _ (λj a=>abz _) λi j hi a=>by
  rw [f] at a
  rw [oK om,oK a]
  show aK (q.getD i Pm.zero).z.next<=aK (q.getD j Pm.zero).z.next
  have r:=n i j om a
  have k:=g i om
  have F:=g j a
  unfold aK
  omega
 have o:abo (q.map Pm.v)<=8:=by have:=h.1;omega
 obtain ⟨L,bs,s⟩:=zlt m hs o
 have B:∀p∈q,fB p:=λp d=>by
  obtain ⟨x,nx,r,k⟩:=VN h t u d
  exact Ld r k
 refine ⟨L,bs,s,by rw [s.len,f],λj a=>?_,n,g,B,λp d=>m _ (ab7.2 ⟨p,d,rfl⟩),?_,λp d=>by
  obtain ⟨x,nx,_,k⟩:=VN h t u d
  exact k.sn⟩
 ·rw [s.nx j om,oK a]
  rfl
 ·have e:=s.wr
  unfold nZ at e
  split at e
  ·injection e with e _;subst e;intro z hz;cases hz
  ·split at e
   ·injection e with e _;subst e;intro z hz;cases hz
   ·rename_i G _
    injection e with e _
    subst e
    intro z hz
    rcases acg.1 hz with hz|hz
    ·unfold headA at hz
     refine Mk (λy c=>?_) z hz
     rcases acg.1 c with c|c
     ·have:∀y∈([113,97,1]:List Nat),y<256:=by decide
      exact this y c
     ·exact q6q y c
    ·rw [VJ m o _ (abu _)] at hz
     obtain ⟨x,A,hz⟩:=acV.1 hz
     rw [adv] at A
     obtain ⟨p,d,rfl⟩:=ab7.1 A
     rcases acg.1 hz with hz|hz
     ·rw [y9 (m _ A).qY] at hz
      exact Mk (Nj _) z hz
     ·exact q51 (λb C=>by obtain ⟨y,c,rfl⟩:=ab7.1 C;exact (B p d).Ow y c) z hz
end
theorem zfk:∀{bs:List Bk},fV bs=0->∀b∈bs,b.err=0:=by intro x;induction x<;>grind [fV]
theorem q95 {bs:List Bk} (h:∀b∈bs,b.Ok) (a:fV bs=0) (c:(q9 bs).2=0):readAll (q9 bs).1=(bs,0):=by grind [zfk,bT,q07,q52,Zy,Rn]
section
variable {q:List Pm} {L:List Pl} {bs:List Nat} {j:Nat} {i:Int}
def zfl (h:jI q L bs) (a:j<abo q):readAll (dD bs (L.getD j Pl.zero).st (L.getD j Pl.zero).en)=((q.getD j Pm.zero).q.map ac2,0):=by
 have hm:=qf Pm.zero a
 have c:=h.good _ hm
 have d:=(h.wr.cut j (by rw [abw];exact a)).2
 rw [oK a] at d
 rw [d]
 exact q95 (λb e=>by obtain ⟨y,f,rfl⟩:=ab7.1 e;exact (h.ok _ hm).Ow y f) c.bl c.ws
end
section
variable {q:List Pm} {L:List Pl} {bs:List Nat} {j:Nat}
def OU (h:jI q L bs) (a:j<abo q):dI bs (L.getD j Pl.zero)=0/\dM (q.getD j Pm.zero).z (lM (dD bs (L.getD j Pl.zero).sn (L.getD j Pl.zero).st))/\(readAll (dD bs (L.getD j Pl.zero).st (L.getD j Pl.zero).en)).1=(q.getD j Pm.zero).q.map ac2:=by
 have hm:=qf Pm.zero a
 have d:=(h.wr.cut j (by rw [abw];exact a)).1
 rw [oK a] at d
 have e:=h.right _ hm
 have g:dD bs (L.getD j Pl.zero).sn (L.getD j Pl.zero).st=aY (bR (q.getD j Pm.zero).z):=d.trans (y9 e.qY)
 obtain ⟨f,c⟩:=zov e
 have hc:=zfl h a
 rw [<-g] at f c
 refine ⟨?_,c,by rw [hc]⟩
 rw [UA f (by rw [h.nx j a];exact c.1.symm),hc]
def zaa {b:List Nat}:∀(l:List Pl) (i:Nat),(∀x∈l,dI b x=0)->lS b l i=none/\jT b l i=(aco (abo l)).map (i+ ·)
 |[],_,_=>⟨rfl,rfl⟩
 |x::t,i,h=>by
  have a:=h x (acj ..)
  obtain ⟨c,d⟩:=zaa t (i+1) λy e=>h y (ab5 _ e)
  refine ⟨by rw [lS,if_neg (λn=>n a)];exact c,?_⟩
  rw [jT,if_pos a,d,abV,List.range_succ_eq_map,List.map_cons,aeZ]
  congr 1
  refine ae0 λk _=>?_
  show i+1+k=i+(k+1)
  omega
theorem zfm (h:jI q L bs):∀x∈L,dI bs x=0:=λx a=>by
 obtain ⟨j,b,rfl⟩:=acp a
 have c:=(OU h (j:=j) (by rw [<-h.len];exact b)).1
 grind
def qub (h:jI q L bs):lS bs L 0=none/\jT bs L 0=aco (abo q):=by
 obtain ⟨a,b⟩:=zaa L 0 (zfm h)
 refine ⟨a,?_⟩
 rw [b,h.len]
 simp
def zab (h:jI q L bs) (a:j<abo q):jy bs (j:Int)=0:=by
 unfold jy
 rw [h.wr.idx,if_neg (λn=>n rfl),if_neg (by show ¬((j:Int)<0\/(abo L:Int)<=(j:Int));rw [h.len];omega)]
 exact (OU h a).1
theorem zly (h:jI q L bs):∃a,8<=a/\zQ bs L a:=by
 obtain ⟨a,b⟩:=(Uz h.lt h.wr.idx).at
 refine ⟨a,?_,b⟩
 have e:=congrArg acW b.head
 grind [pY,ak,GU]
def zac (h:jI q L bs) {a:Nat} (f:zQ bs L a) (c:j<abo q):(L.getD j Pl.zero).sn+15<=(L.getD j Pl.zero).st:=by
 have d:=(h.wr.cut j (by rw [abw];exact c)).1
 rw [oK c] at d
 have e:=h.right _ (qf Pm.zero c)
 have g:=congrArg acW (d.trans (y9 e.qY))
 have hs:=f.sn j (by rw [h.len];exact c)
 have k:(L.getD j Pl.zero).st- (L.getD j Pl.zero).sn=abo (bR (q.getD j Pm.zero).z)+4:=by rw [<-Fx (b:=bs) (show (L.getD j Pl.zero).st<=abo bs by omega),g,pY];rfl
 have i:=e.len.1
 rw [pY] at i
 omega
theorem zhw {a:Nat} (h:zQ bs L a):∀i,i<abo L->a<=(L.getD i Pl.zero).sn
 |0,hi=>by
  have:=(h.sn 0 hi).1
  have e:qW a L 0=a:=rfl
  omega
 |i+1,hi=>by
  have b:=zhw h i om
  have c:=h.sn i om
  have d:=(h.sn (i+1) hi).1
  grind [Pl.zero,qW]
def zlz (h:jI q L bs) {x:Pm} {y:Pl} (c:j<abo q) (g:q.getD j Pm.zero=x) (hy:L.getD j Pl.zero=y):(y.nx:Int)=x.z.next/\8<=y.sn/\y.sn+15<=y.st/\y.st<=y.en/\y.en<=abo bs/\(0<j->y.sn=(L.getD (j-1) Pl.zero).en)/\(j+1=abo q->y.en=abo bs):=by
 obtain ⟨a,o,b⟩:=zly h
 have e:j<abo L:=by rw [h.len];exact c
 have k:=h.nx j c
 have l:=zac h b c
 have d:=b.sn j e
 have p:=zhw b j e
 have m:=b.last
 have n:=h.len
 subst g hy
 refine ⟨k,by omega,l,d.2.2.1,d.2.2.2.1,λf=>?_,λf=>?_⟩
 ·obtain ⟨i,rfl⟩:∃i,j=i+1:=⟨j-1,by omega⟩
  exact d.1
 ·rw [<-m,n,<-f]
  rfl
end
section
open Go.ChangeShapes Go.WideShapes Go.ChangeAt
section
variable {H:Type} {enc:aiP×aiN->H} {W:aiM} {b0:Nat} {v:aiN} {d:DataW H} {p:List MemPlace}
def q9z:Tryz.prog.underlying 22=some (.slice 104):=by kernel_rfl
def qzy:Tryz.prog.cellsOf 104=16:=by kernel_rfl
def q27:Tryz.prog.cellsOf 101=1:=by kernel_rfl
def q28:Tryz.prog.cellsOf 102=1:=by kernel_rfl
def K6:fieldAt abp 104 0 0 100=true:=by kernel_rfl
def K7:fieldAt abp 104 1 13 101=true:=by kernel_rfl
def K8:fieldAt abp 104 2 14 61=true:=by kernel_rfl
def K9:fieldAt abp 104 3 15 102=true:=by kernel_rfl
def zlq {r B:List aiN} {a b c:aiN} (e:abo r=16) (f:r.take 13=B) (h1:r[13]?=some a) (g:r[14]?=some b) (j:r[15]?=some c):r=B++[a,b,c]:=by
 subst f
 refine FT (by rw [abq,abx,e];rfl) λi hi=>?_
 rw [abq,abx,e] at hi
 have hi:i<16:=hi
 rcases ab6 i 13 with h|h
 ·rw [adT (by rw [abx,e];omega),List.getElem?_take,if_pos h]
 ·rw [adP (by rw [abx,e];omega),abx,e]
  have hc:i=13\/i=14\/i=15:=by omega
  rcases hc with rfl|rfl|rfl
  ·exact h1
  ·exact g
  ·exact j
set_option maxRecDepth 100000 in
theorem zlr {r:List aiN} {y:DataW H×List MemPlace} (a:DataW.trod enc Tryz.prog W 0 (λ_=>true) true m 104 r=some y):∃x:Ap,FH x=r/\lU W x:=by
 obtain ⟨b,_,I,g0⟩:=q7 K6 a
 obtain ⟨_,_,J,g1⟩:=q7 K7 a
 obtain ⟨_,_,K,g⟩:=q7 K8 a
 obtain ⟨_,_,L,i⟩:=q7 K9 a
 rw [qzy] at b
 obtain ⟨n,e,f⟩:=q8o g0
 obtain ⟨A,c,l,e1,j,k,o,s⟩:=MW zK jl.Ok zek q2t de TP (λ_ _ _ h=>zel h) g1
 obtain ⟨gp,e2,t⟩:=Zu g
 obtain ⟨B,u,q,e3,w,z,C,D⟩:=MW yT (qG W) zjd ZO de ZL (λ_ _ _ h=>zcz h) i
 rw [qow,List.drop_zero] at e
 rw [q27] at e1
 rw [Zt] at e2
 rw [q28] at e3
 have E:=vg e1
 have F:=vg e2.symm
 have G:=vg e3
 unfold maxLen at k z
 refine ⟨⟨n,A,c,l,gp,B,u,q⟩,?_,⟨f,o,j,by show l.length<=_;omega,s,t,C,w,by show q.length<=_;omega,D⟩⟩
 rw [zlq b e.symm E F G,<-zht f]
 rfl
set_option maxRecDepth 100000 in
theorem zls (a:Value.okWide Tryz.prog W .any b0 22 v) (h:DataW.Trod enc Tryz.prog W 0 (λ_=>true) true 22 v d p):
  ∃(A:aiW) (c:Nat) (l:List Ap),v= .slice A l.length c/\l.length<=c/\c<=maxLen/\(∀x∈l,lU W x)/\Rd W W.heap.size 16 A l.length (l.flatMap FH):=by
 obtain ⟨i,len,cap,rfl⟩:=okWide_slice q9z a
 obtain ⟨e,f⟩:=h
 obtain ⟨A,c,l,b,g⟩:=MW FH (lU W) q9z qzy de q9x (λ_ _ _ h=>zlr h) f
 simp only [Value.cells,List.cons.injEq,and_true,Value.slice.injEq] at b
 obtain ⟨rfl,rfl,rfl⟩:=b
 exact ⟨_,_,l,rfl,g⟩
end
end
def BI {α:Type} (l:List α) (m:Nat):abT .i64 (if ((m:Int)<(abo l:Int)) then (m:Int) else (abo l:Int))=vI ((abo (l.take m):Nat):Int):=by
 rw [abx]
 split<;>congr 1<;>omega
def abd {a s t:List aiX} (h:Mem W w (a++(s++t))):Mem W w (a++(t++s)):=h.perm (adS a acD)
abbrev aix:=λa b c d e f g h i=>(.blk a b 85::.blk c d 113::.row (.slice e f g) f h 85 5::i:List aiX)
def q3i (A:aiW) (c:Nat) (l:List Ap) (w:aiM) (hr:Rd w w.heap.size 16 A (abo l) (l.flatMap FH)) (hP:∀x∈l,lU w x) (hc:abo l<=c) (hn:abo l<=9223372036854775807):
    Calls abp 14 #[abl A l c] w (K5 w l):=by
 refine (fE Tryz.func14 67) ?_
 refine (aM 2∘bg 1∘Jq∘JC (h:=by exact λe=>e.nil 53 9)∘JC (h:=by exact λe=>(show Mem w _ (.row (vN) 0 [] 53 9::bY []) from e))∘JG∘dh 1∘bN 2∘Jl∘Jy (v:=vI (if (4:Int)<(abo l:Int) then 4 else (abo l:Int))) (h:=by exact Yl.min rfl rfl rfl)∘Jo (vI (abo (l.take 4))) (by exact BI l 4)∘Jy (h:=by exact aah K4 (j:=abo (l.take 4)) rfl rfl rfl (by rw [abx];omega))∘Jl∘bM 1∘JB) λa Z e=>?_
 refine qg (λmS aS wS=>∃(i:Nat) (sg:Nat) (g:List Pm) (J:aiW) (co:Nat),(i<=abo (l.take 4))/\(sg=jm l i)/\(mg l g i)/\(abo g<=co)/\mS=abo (l.take 4)-i/\Fr aS 67 [] [(19,vI i),(18,vI (abo (l.take 4):Nat)),(17,abl A (l.take 4) c),(5,vI sg),(4,abl J g co),(3,.bool false),(2,vN)]/\Mem w wS (abn J g co gQ 53 9::bY g)) (m:=abo (l.take 4)-0) ⟨0,0,[],none,0,abz _,VE.symm,zfj,abu _,rfl,Z.sub kr,e.pt 1 [0]⟩ ?_
 clear Z e;rintro mS a w_ ⟨i,sg,g,J,co,hi,hsg,R,hco,rfl,Z,e⟩
 refine Jb Z e ((dh 1∘JQ) (Ji (λK=>?_) λK=>?_))
 ·
  have L:i<abo l:=by rw [abx] at K;omega
  have hql:=R.1
  have hgu:=q9y L
  have hgl:=zlp (i:=i+1) (λy hy=>(hP y hy).gap)
  have hi4:i+1<=4:=by rw [abx] at K;omega
  have hgI:aX (jm l (i+1):Int):=by unfold aX;omega
  obtain ⟨x,hx⟩:∃x,(l.getD i Ap.zero)=x:=⟨_,rfl⟩
  have C:=hP x (by rw [<-hx];exact qf Ap.zero L)
  have Gv:=C.qn
  have hxg:=C.gap
  rw [hx] at hgu
  refine (eY∘JP) ?_
  obtain ⟨gA,oA,rfl,_⟩:=hr.sat i
  refine (iC i 16∘qD Ap.cells q9x hr BD i Ap.zero (hk:=L)∘Jo (.agg x.cells) (by rw [hx])∘JA #[vB 0,vB 0,vW 0,vB 0,vB 0,vB 0,vB 0,vB 0,.int .u16 0,.int .u16 0,.int .u16 0,.int .u16 0,.int .u16 0,vN,vW 0,vN]) λw7 M=>(JV BD aO (h1:=by exact zor x)) λCJ=>(bU∘bg 1∘Jg 14 O0∘Jw .i64∘Jp 1∘Jo (vI (jm l (i+1))) (by rw [hgu,<-hsg];exact zc om om)∘Jp 1∘fJ∘Jr∘Jf 0∘Jy (v:= .agg #[vB x.n.au,vB x.n.groups,vW x.n.aj,vB (x.n.ps.getD 0 0),vB (x.n.ps.getD 1 0),vB (x.n.ps.getD 2 0),vB (x.n.ps.getD 3 0),vB (x.n.ps.getD 4 0),.int .u16 (x.n.ws.getD 0 0),.int .u16 (x.n.ws.getD 1 0),.int .u16 (x.n.ws.getD 2 0),.int .u16 (x.n.ws.getD 3 0),.int .u16 (x.n.ws.getD 4 0)]) (h:=by exact Pe rfl rfl q8h rfl (λ_ h=>h.sub (i:=0) rfl 0 rfl))∘Jo (.agg x.n.cells) (by exact congrArg Value.agg (zht C.n))∘Jg 13 O0∘Jp 1∘JL (h:=by exact λe=>q3h x.n C.n x.A x.c x.l C.l C.lc C.ln (jm l (i+1):Int) hgI _ (e.old C.lr))) ?_
  rintro e _ Q5 ⟨z,rfl,hsz,hgz,hiz,hnz,hm⟩
  refine ⟨_,rfl,_,(show Mem w Q5 (.blk M x.cells 104:: abn J g co gQ 53 9::(jP z.st++(bY g))) from e.wN (T:=bY g) 2 hm rfl),?_⟩
  refine (Jp 1∘Jx∘Jx∘JA #[vI 0,vI 0,vQ 0,vN,vN,vN,vN,vN]) λw8 Q=>(JV zo aO (h1:=by exact Ng z)) λaeD=>(bM 1∘bN 2∘aL∘Jj∘aQ∘JP∘eH zo O0∘fD #[vI z.next,vI z.st.au,vQ z.st.aj,abl z.st.gA z.st.gs z.st.gc,abl z.st.lA z.st.cl z.st.lc,abl z.st.uA z.st.cu z.st.uc,abl z.st.tA z.st.ts z.st.tc,abl z.st.sA z.st.rs z.st.sc,vN]∘JA #[vI 0,vI 0,vQ 0,vN,vN,vN,vN,vN,vN]) λsG D=>(JV cO aO) λaeE=>(bU∘Jj∘JQ∘JP∘Jg 15 O2∘Jg 15 O2∘Jl∘Jy (v:=vI (if (5:Int)<(abo x.q:Int) then 5 else (abo x.q:Int))) (h:=by exact Yl.min rfl rfl rfl)∘Jo (vI (abo (x.q.take 5))) (by exact BI x.q 5)∘Jy (h:=by exact aah zne (j:=abo (x.q.take 5)) rfl rfl rfl (by rw [abx];have:=C.qc;omega))∘Jl∘Jp 1∘Jq) λa Z e=>?_
  replace e:=e.nil 85 5
  replace e:Mem w _ (.row (vN) 0 [] 85 5:: .blk D #[vI z.next,vI z.st.au,vQ z.st.aj,abl z.st.gA z.st.gs z.st.gc,abl z.st.lA z.st.cl z.st.lc,abl z.st.uA z.st.cu z.st.uc,abl z.st.tA z.st.ts z.st.tc,abl z.st.sA z.st.rs z.st.sc,vN] 53:: .blk Q z.cells 50:: .blk M x.cells 104:: abn J g co gQ 53 9::(iU 73 []++(bY g++(jP z.st)))):=abd (a:=[.row (vN) 0 [] 85 5,.blk D #[vI z.next,vI z.st.au,vQ z.st.aj,abl z.st.gA z.st.gs z.st.gc,abl z.st.lA z.st.cl z.st.lc,abl z.st.uA z.st.cu z.st.uc,abl z.st.tA z.st.ts z.st.tc,abl z.st.sA z.st.rs z.st.sc,vN] 53,.blk Q z.cells 50,.blk M x.cells 104,abn J g co gQ 53 9]) e
  refine Jb Z e ((JG∘JB) λa Z e=>?_)
  refine qg (λmS aS wS=>∃(k:Nat) (o:List Hb) (u:aiW) (s:Nat),(k<=abo (x.q.take 5))/\(o.map ac2=rU (x.q.take k))/\(abo o=k)/\(abo o<=s)/\mS=abo (x.q.take 5)-k/\Fr aS 67 [] [(49,vI k),(48,vI (abo (x.q.take 5):Nat)),(47,abl x.B (x.q.take 5) x.d),(10,vP D 0),(38,.bool false),(9,.bool true),(8,vP Q 0),(5,vI (jm l (i+1))),(7,vP M 0),(20,.bool true),(19,vI i),(18,vI (abo (l.take 4):Nat)),(17,abl (some ⟨gA,oA,none⟩) (l.take 4) c),(4,abl J g co),(3,.bool false),(2,vN)]/\Mem w wS (abn u o s hbL 85 5:: .blk D #[vI z.next,vI z.st.au,vQ z.st.aj,abl z.st.gA z.st.gs z.st.gc,abl z.st.lA z.st.cl z.st.lc,abl z.st.uA z.st.cu z.st.uc,abl z.st.tA z.st.ts z.st.tc,abl z.st.sA z.st.rs z.st.sc,abl u o s] 53:: .blk Q z.cells 50:: .blk M x.cells 104:: abn J g co gQ 53 9::(iU 73 o++(bY g++(jP z.st))))) (m:=abo (x.q.take 5)-0) ⟨0,[],none,0,abz _,rfl,rfl,abu _,rfl,Z.sub kr,e.pt 5 [0,1,2,3,4]⟩ ?_
  clear Z e;rintro mS a w_ ⟨k,o,u,s,hk,hq2,hl2,hcb,rfl,Z,e⟩
  refine Jb Z e ((dh 1∘JQ) (Ji (λI=>?_) λI=>?_))
  ·
   have hk5:k<5:=by rw [abx] at I;omega
   have N:k<abo x.q:=by rw [abx] at I;omega
   have S:=C.q _ (qf gI.zero N)
   have hts:=q09 N
   refine (eY∘JP) ?_
   obtain ⟨Ib,Ic,X,_⟩:=Rd.sat C.qr k
   have U:=C.qr;rw [X] at U
   refine (Jk 47 (.slice (some ⟨Ib,Ic,none⟩) (abo (x.q.take 5)) x.d) (h:=by rw [X];try rfl)∘iC k 6∘Jy (v:= .agg ((x.q.getD k gI.zero).x.cells (x.q.getD k gI.zero).A (x.q.getD k gI.zero).c)) (h:=by exact Pe rfl rfl vT rfl (λ_ h=>(h.old U).vv ZL ((getD_at gI.zero N))))∘JA #[.bool false,vB 0,vW 0,vI 0,vI 0,vN]) λxZ Y=>(JV vT aO (h1:=by exact znc _ _ _)) λGy=>(bU∘Jj∘Vs (.t (.f .n)) [7]) λyP=>(Vf 0 8∘Vc 1 O1∘mK 2 vT O0∘VK 3 (.t (.f .n)) (h:=by exact λe=>zar (x.q.getD k gI.zero).x S.ok (x.q.getD k gI.zero).A (x.q.getD k gI.zero).c _ (e.old S.rd) S.hc S.hm)) λp r w56 auY=>λa Z e HS=>?_
   refine s_on Z 4 rfl (jA Z e G7 [(0,.agg ((x.q.getD k gI.zero).x.made.cells p r))] ((x.q.getD k gI.zero).x.made.cells p r) ?_)
   clear Z e;intro a w57 Wu Z e
   refine av (e.pt 8 [2,4,5,6,7]) (λHS=>?_)
   refine s_on Z 5 rfl (rO Z e (i:=3) rfl G7 rfl rfl rfl (news:=(hbL (⟨(x.q.getD k gI.zero).x.made,p,r⟩:Hb))) (e.bB (i:=0) (n:=1) (size:=5) rfl rfl) (uQ _ _ _) om om rfl de ?_)
   clear Z e;intro a GY E F Z e V
   refine av (e.pt 8 [2,4,5,6,7]) (λHS=>?_)
   refine Vb Z e HS ((Vf 6 8) λa Z e HS=>?_)
   refine s_on Z 7 rfl (eO Z e 4 λLC e=>?_)
   refine dU kr ?_
   refine qe kr ?_
   have G:abo o+1=abo (o++[(⟨(x.q.getD k gI.zero).x.made,p,r⟩:Hb)]):=by rw [abq];rfl
   rw [G] at V
   replace e:=e.bC (i:=3) (ys:=(o++[(⟨(x.q.getD k gI.zero).x.made,p,r⟩:Hb)]).flatMap hbL) rfl G (by rw [ab1,abR,aeF,abM])
   replace Z:=Z.sp 58 (.slice E (abo (o++[(⟨(x.q.getD k gI.zero).x.made,p,r⟩:Hb)])) F) rfl (iW G)
   replace e:=e.dX (i:=4) (ds:= #[vI z.next,vI z.st.au,vQ z.st.aj,abl z.st.gA z.st.gs z.st.gc,abl z.st.lA z.st.cl z.st.lc,abl z.st.uA z.st.cu z.st.uc,abl z.st.tA z.st.ts z.st.tc,abl z.st.sA z.st.rs z.st.sc,.slice E (abo (o++[(⟨(x.q.getD k gI.zero).x.made,p,r⟩:Hb)])) F]) rfl (by rw [G];try rfl)
   replace e:=aaM (a:=(aix Wu ((x.q.getD k gI.zero).x.made.cells p r) Y ((x.q.getD k gI.zero).x.cells (x.q.getD k gI.zero).A (x.q.getD k gI.zero).c) E (abo (o++[(⟨(x.q.getD k gI.zero).x.made,p,r⟩:Hb)])) F ((o++[(⟨(x.q.getD k gI.zero).x.made,p,r⟩:Hb)]).flatMap hbL) [.blk D #[vI z.next,vI z.st.au,vQ z.st.aj,abl z.st.gA z.st.gs z.st.gc,abl z.st.lA z.st.cl z.st.lc,abl z.st.uA z.st.cu z.st.uc,abl z.st.tA z.st.ts z.st.tc,abl z.st.sA z.st.rs z.st.sc,.slice E (abo (o++[(⟨(x.q.getD k gI.zero).x.made,p,r⟩:Hb)])) F] 53,.blk Q z.cells 50,.blk M x.cells 104,abn J g co gQ 53 9])) (q:=o) (b:=bY g++(jP z.st)) (e.pt (fs':=(.row (.slice p ((x.q.getD k gI.zero).x.made.evs.length) r) ((x.q.getD k gI.zero).x.made.evs.length) ((x.q.getD k gI.zero).x.made.evs.flatMap fC) 73 11::aix Wu ((x.q.getD k gI.zero).x.made.cells p r) Y ((x.q.getD k gI.zero).x.cells (x.q.getD k gI.zero).A (x.q.getD k gI.zero).c) E (abo (o++[(⟨(x.q.getD k gI.zero).x.made,p,r⟩:Hb)])) F ((o++[(⟨(x.q.getD k gI.zero).x.made,p,r⟩:Hb)]).flatMap hbL) (.blk D #[vI z.next,vI z.st.au,vQ z.st.aj,abl z.st.gA z.st.gs z.st.gc,abl z.st.lA z.st.cl z.st.lc,abl z.st.uA z.st.cu z.st.uc,abl z.st.tA z.st.ts z.st.tc,abl z.st.sA z.st.rs z.st.sc,.slice E (abo (o++[(⟨(x.q.getD k gI.zero).x.made,p,r⟩:Hb)])) F] 53::.blk Q z.cells 50::.blk M x.cells 104::abn J g co gQ 53 9::(iU 73 o++(bY g++(jP z.st)))))) 8 [1,0,2,3,4,5,6,7])
   replace e:Mem w _ (aix Wu ((x.q.getD k gI.zero).x.made.cells p r) Y ((x.q.getD k gI.zero).x.cells (x.q.getD k gI.zero).A (x.q.getD k gI.zero).c) E (abo (o++[(⟨(x.q.getD k gI.zero).x.made,p,r⟩:Hb)])) F ((o++[(⟨(x.q.getD k gI.zero).x.made,p,r⟩:Hb)]).flatMap hbL) (.blk D #[vI z.next,vI z.st.au,vQ z.st.aj,abl z.st.gA z.st.gs z.st.gc,abl z.st.lA z.st.cl z.st.lc,abl z.st.uA z.st.cu z.st.uc,abl z.st.tA z.st.ts z.st.tc,abl z.st.sA z.st.rs z.st.sc,.slice E (abo (o++[(⟨(x.q.getD k gI.zero).x.made,p,r⟩:Hb)])) F] 53::.blk Q z.cells 50::.blk M x.cells 104::abn J g co gQ 53 9::(iU 73 (o++[(⟨(x.q.getD k gI.zero).x.made,p,r⟩:Hb)])++(bY g++(jP z.st))))):=e
   refine Jb Z e ((JG∘JR∘dA 1∘Jp 1∘aL∘Jq) λa Z e=>?_)
   replace Z:=Z.sp 47 (abl x.B (x.q.take 5) x.d) rfl (by rw [X])
   exact ⟨_,om,k+1,(o++[(⟨(x.q.getD k gI.zero).x.made,p,r⟩:Hb)]),E,F,by omega,by rw [hts,abZ,hq2];rfl,by rw [abq,hl2];rfl,V,rfl,Z.sub kr,e.pt 7 [2,3,4,5,6]⟩
  have hqq:o.map ac2=rU (x.q.take 5):=by rw [hq2,show k=min 5 (abo x.q) by rw [abx] at hk I;omega,<-List.take_eq_take_min]
  refine (JF∘JX∘JG∘JR∘Jp 1∘eH cO O1∘JU ny #[vI z.next,vI z.st.au,vQ z.st.aj,abl z.st.gA z.st.gs z.st.gc,abl z.st.lA z.st.cl z.st.lc,abl z.st.uA z.st.cu z.st.uc,abl z.st.tA z.st.ts z.st.tc,abl z.st.sA z.st.rs z.st.sc,abl u o s]) λTi Wv=>(JD (gQ (⟨z,u,s,o⟩:Pm)) 5 (λ_ _=>rC) ny (hr:=by exact λe=>e.bB (i:=0) (n:=1) (size:=9) rfl rfl) (h1:=by exact zS _)) λw64 O P W=>(Jp 1∘fJ∘Jq) ?_
  have H:abo g+1=abo (g++[(⟨z,u,s,o⟩:Pm)]):=by rw [abq];rfl
  rw [H] at W
  intro a Z e
  replace e:=e.bC (i:=5) (ys:=(g++[(⟨z,u,s,o⟩:Pm)]).flatMap gQ) rfl H (by rw [ab1,abR,aeF,abM])
  replace Z:=Z.sp 4 (abl O (g++[(⟨z,u,s,o⟩:Pm)]) P) rfl (iW H)
  replace e:=aa0 (a:=[.blk Wv #[vI z.next,vI z.st.au,vQ z.st.aj,abl z.st.gA z.st.gs z.st.gc,abl z.st.lA z.st.cl z.st.lc,abl z.st.uA z.st.cu z.st.uc,abl z.st.tA z.st.ts z.st.tc,abl z.st.sA z.st.rs z.st.sc,abl u o s] 53,.blk D #[vI z.next,vI z.st.au,vQ z.st.aj,abl z.st.gA z.st.gs z.st.gc,abl z.st.lA z.st.cl z.st.lc,abl z.st.uA z.st.cu z.st.uc,abl z.st.tA z.st.ts z.st.tc,abl z.st.sA z.st.rs z.st.sc,abl u o s] 53,.blk Q z.cells 50,.blk M x.cells 104,abn O (g++[(⟨z,u,s,o⟩:Pm)]) P gQ 53 9]) (e.pt (fs':=(abn u o s hbL 85 5:: .blk Wv #[vI z.next,vI z.st.au,vQ z.st.aj,abl z.st.gA z.st.gs z.st.gc,abl z.st.lA z.st.cl z.st.lc,abl z.st.uA z.st.cu z.st.uc,abl z.st.tA z.st.ts z.st.tc,abl z.st.sA z.st.rs z.st.sc,abl u o s] 53:: .blk D #[vI z.next,vI z.st.au,vQ z.st.aj,abl z.st.gA z.st.gs z.st.gc,abl z.st.lA z.st.cl z.st.lc,abl z.st.uA z.st.cu z.st.uc,abl z.st.tA z.st.ts z.st.tc,abl z.st.sA z.st.rs z.st.sc,abl u o s] 53:: .blk Q z.cells 50:: .blk M x.cells 104:: abn O (g++[(⟨z,u,s,o⟩:Pm)]) P gQ 53 9::(iU 73 o++(bY g++(jP z.st))))) 6 [1,0,2,3,4,5])
  replace e:Mem w _ (.blk Wv #[vI z.next,vI z.st.au,vQ z.st.aj,abl z.st.gA z.st.gs z.st.gc,abl z.st.lA z.st.cl z.st.lc,abl z.st.uA z.st.cu z.st.uc,abl z.st.tA z.st.ts z.st.tc,abl z.st.sA z.st.rs z.st.sc,abl u o s] 53:: .blk D #[vI z.next,vI z.st.au,vQ z.st.aj,abl z.st.gA z.st.gs z.st.gc,abl z.st.lA z.st.cl z.st.lc,abl z.st.uA z.st.cu z.st.uc,abl z.st.tA z.st.ts z.st.tc,abl z.st.sA z.st.rs z.st.sc,abl u o s] 53:: .blk Q z.cells 50:: .blk M x.cells 104:: abn O (g++[(⟨z,u,s,o⟩:Pm)]) P gQ 53 9::bY (g++[(⟨z,u,s,o⟩:Pm)])):=e
  refine Jb Z e ((JG∘JR∘dA 1∘Jp 1∘aL∘Jq) λa Z e=>?_)
  exact ⟨_,om,i+1,jm l (i+1),(g++[(⟨z,u,s,o⟩:Pm)]),O,P,by omega,rfl,zos R hx ⟨hsz,hgz,hiz,hnz ⟨by omega,by omega⟩,hqq,hcb⟩,W,rfl,Z.sub kr,e.pt 5 [4]⟩
 have hin:i=abo (l.take 4):=by omega
 exact (JF∘JX∘JG∘bE 3∘bW) λe=>by exact ⟨_,_,g,rfl,by rw [hin] at R;exact R,hco,e.pt (fs':=(abn J g co gQ 53 9::bY g)) 1 [0]⟩
def qxc (A:aiW) (c:Nat) (l:List Nat) (S:Nat) (w:aiM) (hL:aR S w) (hB:S<=w.heap.size) (hr:Rd w w.heap.size 1 A (abo l) (l.map B8)) (hc:abo l<=c) (hl:∀b∈l,b<256) (hn:abo l<=100000000):
    Calls abp 71 #[.slice A (abo l) c] w (CF 73 85 w (readAll l).2 (readAll l).1):=by
 refine Cc (vs:=[abl A l c]) Tryz.func71 rfl rfl kr (σ0:=[(0,abl A l c)]) rfl ?_
 intro a Z
 have d:=Mem.start w
 refine Jb Z d ((JP∘JA #[vN]) λw2 s=>(JA #[vI 0]) λw3 t=>(Jj∘bN 1∘Jl∘Jp 1∘bU∘Jj) (Ji (λT=>?_) λT=>?_))
 ·
  refine (JT∘JP∘JW gu aO) λQx=>(JW aO aO) λCm=>(aP) λa Z d=>?_
  refine Ce ?_
  exact dR rfl Z (.cell1 (i:=1) Z d rfl rfl kr rfl) (.cell1 (i:=0) Z d rfl rfl kr rfl) (ZB d (Ro om) rfl)
 refine (aQ∘JP∘JA #[vN]) λw4 D=>(Jj∘bN 1∘JL (h:=by exact λd=>q3a A (abo l) c _)) ?_
 rintro d _ uM ⟨gp,rfl,hm⟩
 refine ⟨_,rfl,_,d.join hm,?_⟩
 refine (aL∘Jq∘JC (h:=by exact λd=>d.nil 85 5)∘JC (h:=by exact λd=>(show Mem w _ (.row (vN) 0 [] 85 5:: .blk gp #[abl A l c] 30:: .blk D #[vN] 51:: .blk t #[vI 0] 27:: .blk s #[vN] 51::iU 73 []) from d))∘JG∘JB) λa Z d=>?_
 refine Cb Z d (λF=>∃(q:List Hb) (f:Nat) (x:aiW) (co:Nat),(abo ([]:List Nat)<=f)/\(q.map ac2++(qx f ([]:List Nat)).1=(qx (abo l) l).1)/\((qx (abo l) l).2.2=(qx f ([]:List Nat)).2.2)/\(abo q<=co)/\(abo q+abo ([]:List Nat)<=abo l)/\F=(abn x q co hbL 85 5:: .blk D #[abl x q co] 51:: .blk t #[vI 0] 27:: .blk s #[vN] 51::iU 73 q)) (λc F=>c= .ret/\∃(q:List Hb) (e:Nat),(e≠0)/\((qx (abo l) l).2.2=e)/\F=(.blk t #[vI e] 27:: .blk s #[vN] 51::iU 73 q)) rfl kr ?_ ?_ ?_
 ·
  clear Z d;intro C B p w1 N d
  have hy:Zx w C (λu F=>∃(q:List Hb) (f:Nat) (x:aiW) (co:Nat),(abo u<=f)/\(q.map ac2++(qx f u).1=(qx (abo l) l).1)/\((qx (abo l) l).2.2=(qx f u).2.2)/\(abo q<=co)/\(abo q+abo u<=abo l)/\F=(.obj C (.loop (p .ready none)):: .obj B (.deferred (some []))::(abn x q co hbL 85 5:: .blk D #[abl x q co] 51:: .blk t #[vI 0] 27:: .blk s #[vN] 51::iU 73 q))) (λF=>∃(q:List Hb) (e:Nat),(e≠0)/\((qx (abo l) l).2.2=e)/\F=(.obj C (.loop (p .done (some .ret))):: .obj B (.deferred (some []))::(.blk t #[vI e] 27:: .blk s #[vN] 51::iU 73 q))):=by
   rintro u F fr w3 g j b m M ⟨q,f,x,co,U,E,y,G,I,rfl⟩ hq O hrl hcb d
   replace d:=d.pt (fs':=(ahT C (p .ready none)::abn g b.evs j fC 73 11::ahN B::abn x q co hbL 85 5::.blk D #[abl x q co] 51::.blk t #[vI 0] 27::.blk s #[vN] 51::(iU 73 q++(fr)))) 7 [1,0,2,3,4,5,6]
   refine Ep (v1:= .agg #[vB (b.kind:Int),vB (b.cpu:Int),vI b.lost,vI b.next,abl g b.evs j,vI m]) (v2:=vI M) N d de de λa Z=>?_
   refine wpIn_seq ?_
   refine qk ?_
   refine Jb Z d ((JA #[vB 0,vB 0,vI 0,vI 0,vN,vI 0]) λw5 P=>(JV zfn aO) λVP=>(Jq) λa Z d=>?_)
   refine qk ?_
   refine Jb Z d ((Jp 1∘Jq) λa Z d=>?_)
   refine ⟨(.blk P #[vB (b.kind:Int),vB (b.cpu:Int),vI b.lost,vI b.next,abl g b.evs j,vI m] 255::abn g b.evs j fC 73 11::ahN B::abn x q co hbL 85 5::.blk D #[abl x q co] 51::.blk t #[vI 0] 27::.blk s #[vN] 51::(iU 73 q++(fr))),d.pt (fs':=(ahT C (p .ready none)::.blk P #[vB (b.kind:Int),vB (b.cpu:Int),vI b.lost,vI b.next,abl g b.evs j,vI m] 255::abn g b.evs j fC 73 11::ahN B::abn x q co hbL 85 5::.blk D #[abl x q co] 51::.blk t #[vI 0] 27::.blk s #[vN] 51::(iU 73 q++(fr)))) 8 [1,0,2,3,4,5,6,7],λw4 d=>?_⟩
   refine wpIn_block ?_
   refine wpIn_seq ?_
   refine wpIn_seq ?_
   refine qk ?_
   refine Jb Z d ((Jp 2∘aL∘Jq) (Jh (λQ=>?_) λQ=>?_))
   ·
    intro a Z d
    have V:=qvn (f:=f) om O hq om
    rw [V] at y
    refine BZ Z rfl ?_
    refine wpIn_seq ?_
    refine qk ?_
    refine Jb Z d ((Jp 1∘JW vE aO) λCq=>(JW uK aO) λati=>(mJ∘Jq) λa Z d=>?_)
    refine wpIn_ret ?_
    refine ⟨(ahN B::.blk t #[vI M] 27::.blk s #[vN] 51::(iU 73 q++(fr))),d.pt (fs':=(ahT C (p .busy none)::ahN B::.blk t #[vI M] 27::.blk s #[vN] 51::(iU 73 q++(fr)))) 8 [0,3,6,7],λw5 d=>?_⟩
    exact ⟨(ahT C (p .done (some .ret))::ahN B::.blk t #[vI M] 27::.blk s #[vN] 51::iU 73 q),d,.inr ⟨om,rfl,q,M,by omega,y,rfl⟩⟩
   intro a Z d
   have W:M=0:=by omega
   have J:=hq
   rw [W] at J
   have V:=Zw (f:=f) om O J
   obtain ⟨atj,hml,_⟩:=QX J
   rw [V] at E y
   dsimp only at E y
   refine Ca Z rfl ?_
   refine wpIn_skip ?_
   refine qk ?_
   refine Jb Z d ((Jc O5∘Jf 0∘Jy (v:= .agg #[vB b.kind,vB b.cpu,vI b.lost,vI b.next,abl g b.evs j]) (h:=by exact Pe rfl rfl aG rfl (λ_ h=>h.sub (i:=1) rfl 0 rfl))∘JU G7 #[vB b.kind,vB b.cpu,vI b.lost,vI b.next,abl g b.evs j]) λCr K=>(JD (hbL (⟨b,g,j⟩:Hb)) 5 (λ_ _=>rC) G7 (hr:=by exact λd=>d.bB (i:=0) (n:=1) (size:=5) rfl rfl) (h1:=by exact uQ _ _ _)) λNT k o H=>(JW uK aO) λKv=>(qC∘Jq) λa Z d=>?_)
   have z:abo q+1=abo (q++[(⟨b,g,j⟩:Hb)]):=by rw [abq];rfl
   rw [z] at H
   replace d:=d.bC (i:=5) (ys:=(q++[(⟨b,g,j⟩:Hb)]).flatMap hbL) rfl z (by rw [ab1,abR,aeF,abM])
   replace d:=d.dX (i:=6) (ds:= #[.slice k (abo (q++[(⟨b,g,j⟩:Hb)])) o]) rfl (by rw [z];try rfl)
   replace d:=aaM (a:=[.blk K #[vB b.kind,vB b.cpu,vI b.lost,vI b.next,abl g b.evs j] 85,ahT C (p .busy none),.blk P #[vB (b.kind:Int),vB (b.cpu:Int),vI b.lost,vI b.next,abl g b.evs j,vI m] 255,ahN B,abn k (q++[(⟨b,g,j⟩:Hb)]) o hbL 85 5,.blk D #[abl k (q++[(⟨b,g,j⟩:Hb)]) o] 51,.blk t #[vI 0] 27,.blk s #[vN] 51]) (q:=q) (b:=fr) (d.pt (fs':=(abn g b.evs j fC 73 11::.blk K #[vB b.kind,vB b.cpu,vI b.lost,vI b.next,abl g b.evs j] 85::ahT C (p .busy none)::.blk P #[vB (b.kind:Int),vB (b.cpu:Int),vI b.lost,vI b.next,abl g b.evs j,vI m] 255::ahN B::abn k (q++[(⟨b,g,j⟩:Hb)]) o hbL 85 5::.blk D #[abl k (q++[(⟨b,g,j⟩:Hb)]) o] 51::.blk t #[vI 0] 27::.blk s #[vN] 51::(iU 73 q++(fr)))) 9 [3,0,1,2,4,5,6,7,8])
   replace d:Mem w _ (.blk K #[vB b.kind,vB b.cpu,vI b.lost,vI b.next,abl g b.evs j] 85::ahT C (p .busy none)::.blk P #[vB (b.kind:Int),vB (b.cpu:Int),vI b.lost,vI b.next,abl g b.evs j,vI m] 255::ahN B::abn k (q++[(⟨b,g,j⟩:Hb)]) o hbL 85 5::.blk D #[abl k (q++[(⟨b,g,j⟩:Hb)]) o] 51::.blk t #[vI 0] 27::.blk s #[vN] 51::(iU 73 (q++[(⟨b,g,j⟩:Hb)])++(fr))):=d
   refine ⟨(ahN B::abn k (q++[(⟨b,g,j⟩:Hb)]) o hbL 85 5::.blk D #[abl k (q++[(⟨b,g,j⟩:Hb)]) o] 51::.blk t #[vI 0] 27::.blk s #[vN] 51::(iU 73 (q++[(⟨b,g,j⟩:Hb)])++(fr))),d.pt (fs':=(ahT C (p .busy none)::ahN B::abn k (q++[(⟨b,g,j⟩:Hb)]) o hbL 85 5::.blk D #[abl k (q++[(⟨b,g,j⟩:Hb)]) o] 51::.blk t #[vI 0] 27::.blk s #[vN] 51::(iU 73 (q++[(⟨b,g,j⟩:Hb)])++(fr)))) 8 [1,3,4,5,6,7],λw5 d=>?_⟩
   exact ⟨(ahT C (p .ready none)::ahN B::abn k (q++[(⟨b,g,j⟩:Hb)]) o hbL 85 5::.blk D #[abl k (q++[(⟨b,g,j⟩:Hb)]) o] 51::.blk t #[vI 0] 27::.blk s #[vN] 51::iU 73 (q++[(⟨b,g,j⟩:Hb)])),d,.inl ⟨om,rfl,(q++[(⟨b,g,j⟩:Hb)]),(f-1),k,o,by rw [abE];omega,by rw [<-E,abZ,abv];rfl,y,H,by rw [abq,abE,List.length_singleton];omega,rfl⟩⟩
  refine (qxb w w1 gp C S A c l _ _ _ hL hB hr hc hl om hy ⟨[],abo l,none,0,abu _,acZ _,rfl,abu _,by simp,rfl⟩ (d.pt 7 [3,0,1,2,4,5,6])).mono ?_
  rintro r w2 ⟨v,rfl,F2,R,(⟨q,f,x,co,U,E,y,G,I,rfl⟩|⟨q,e,L,y,rfl⟩)⟩
  ·exact ⟨v,rfl,.inl ⟨_,⟨q,f,x,co,U,E,y,G,I,rfl⟩,R⟩⟩
  ·exact ⟨v,rfl,.inr ⟨.ret,_,⟨rfl,q,e,L,y,rfl⟩,R⟩⟩
 ·
  clear Z d;rintro B a w6 _ ⟨q,f,x,co,U,E,y,G,I,rfl⟩ Z d
  have hz:=Zv (f:=f) (l:=[]) rfl
  rw [hz] at E y
  dsimp only at E y
  rw [abM] at E
  refine Jb Z d ((JG∘JP∘Jc O2∘JW qB aO) λX=>(JW og aO) λY=>(mJ∘aP) λa Z d=>?_)
  refine xS Z d (i:=0) rfl λa w7 Z d=>?_
  exact dR rfl Z (.cell1 (i:=4) Z d rfl rfl kr rfl) (.cell1 (i:=3) Z d rfl rfl kr rfl) (by rw [Rq om y,<-E];exact zi3 (d.pt (fs':=(abn x q co hbL 85 5::iU 73 q)) 5 [1]) G)
 ·
  clear Z d;rintro _ B a w6 _ ⟨rfl,q,e,L,y,rfl⟩ Z d
  refine wp_ret ?_
  refine xS Z d (i:=0) rfl λa w7 Z d=>?_
  exact dR rfl Z (.cell1 (i:=2) Z d rfl rfl kr rfl) (.cell1 (i:=1) Z d rfl rfl kr rfl) (ZB d (Rp om y L) rfl)
def zhx (h:Rd w B 1 A (abo l) (l.map B8)) (h1:i<=j) (a:j<=abo l) (hc:abo l<=c):Rd w B 1 (if c=i then A else A.map (·.add (i*1))) (j-i) ((dD l i j).map B8):=h.xR h1 a hc
def zfo (l:List Nat) (A:aiW) (n c:Nat) (B:Nat) (w:aiM) (d:aR B w) (e:B<=w.heap.size) (hr:Rd w w.heap.size 1 A n (l.map B8)) (a:abo l=n) (hc:n<=c) (f:∀b∈l,b<256) (g:n<=100000000) {bs:List Bk} {er:Nat} (h:readAll l=(bs,er)):Calls abp 71 #[.slice A n c] w (CF 73 85 w er bs):=by
 subst a
 have k:=qxc A c l B w d e hr hc f g
 rwa [h] at k
def zfp {f:aiX} {q:List Hb} (h:Mem W w (f::(iU 73 q++[]))):Mem W w (f::iU 73 q):=by rwa [abM] at h
theorem Mem.Le {i:aiM} {a gs:List aiX} (h:Mem W w a) (k:Mem w i gs):Mem W i (a++(gs++[])):=by
 rw [abM]
 exact h.qM k
def zfq {z:dF} {q:List Hb} (h:Mem W w (.row (.slice A (abo q) c) (abo q) (q.flatMap hbL) 85 5::(iU 73 q++(jP z.st++[])))):Mem W w (iK ⟨z,A,c,q⟩):=by
 rw [abM] at h
 exact h.perm (acD (l₁:=aiX.row (.slice A (abo q) c) (abo q) (q.flatMap hbL) 85 5::iU 73 q) (l₂:=jP z.st))
def qxd (A:aiW) (c:Nat) (b:List Nat) (B:Nat) (w:aiM) (r:aR B w) (m:B<=w.heap.size) (hr:Rd w w.heap.size 1 A (abo b) (b.map B8)) (hc:abo b<=c) (u:abo b<=100000000) (s:∀z∈b,z<256) (x:Pl) (l:x.sn<=x.st/\x.st<=x.en/\x.en<=abo b):
    Calls abp 56 #[.agg #[vI (x.nx:Int),vI (x.sn:Int),vI (x.st:Int),vI (x.en:Int),.slice A (abo b) c]] w (CF 73 85 w (readAll (dD b x.st x.en)).2 (readAll (dD b x.st x.en)).1):=by
 refine (fE Tryz.func56 16) ?_
 refine (JP∘JE) λy g1=>(Jp 2∘Jq) ?_
 obtain ⟨bs,n,f⟩:∃bs n,readAll (dD b x.st x.en)=(bs,n):=⟨_,_,rfl⟩
 refine (JG∘JP∘Jg 4 O0∘Jf 0∘Jg 2 O0∘Jf 0∘Jg 3 O0∘Jy (v:= .slice (if c=x.st then A else A.map (·.add (x.st*1))) (x.en-x.st) (c-x.st)) (h:=by exact aam bA (i:=x.st) (j:=x.en) rfl rfl rfl rfl om om)∘JL (h:=by exact λe=>zfo (dD b x.st x.en) _ _ _ B _ (r.mem e m) (e.le m) (zhx (e.old hr) l.2.1 l.2.2 hc) (Fx l.2.2) om (Ou s _ _) om f)) ?_
 rintro e _ t ⟨o,p,q,rfl,g,k,hm⟩
 have d:abo bs=abo q:=by rw [<-g,abw]
 rw [d] at hm k⊢
 refine ⟨_,rfl,_,aaK (a:=[.blk g1 #[vI x.nx,vI x.sn,vI x.st,vI x.en,abl A b c] 131]) (b:=[]) e hm,?_⟩
 exact (Jx∘Jx∘bM 2∘JZ∘bW) λe=>by rw [f];exact ⟨o,p,q,by rw [d],g,by rw [d];exact k,by rw [d];exact zfp (e.pt (fs':=(abn o q p hbL 85 5::(iU 73 q++([])))) 2 [0])⟩
def q3b (A:aiW) (c:Nat) (b:List Nat) (B:Nat) (w:aiM) (a:aR B w) (d:B<=w.heap.size) (hr:Rd w w.heap.size 1 A (abo b) (b.map B8)) (hc:abo b<=c) (e:abo b<=100000000) (f:∀z∈b,z<256) (x:Pl) (g:x.sn<=x.st/\x.st<=x.en/\x.en<=abo b) {bs:List Bk} {er:Nat} (h:readAll (dD b x.st x.en)=(bs,er)):Calls abp 56 #[.agg #[vI (x.nx:Int),vI (x.sn:Int),vI (x.st:Int),vI (x.en:Int),.slice A (abo b) c]] w (CF 73 85 w er bs):=by
 have k:=qxd A c b B w a d hr hc e f x g
 rwa [h] at k
def zad (A:aiW) (c:Nat) (b:List Nat) (B:Nat) (w:aiM) (d:aR B w) (f:B<=w.heap.size) (hr:Rd w w.heap.size 1 A (abo b) (b.map B8)) (hc:abo b<=c) (l:abo b<=100000000) (g:∀z∈b,z<256) {e:Nat} {s:dF} (i j:Nat) (h1:i<=j) (a:j<=abo b) (h:oG (dD b i j)=e) (hs:lM (dD b i j)=s):Calls abp 112 #[.slice (if c=i then A else A.map (·.add (i*1))) (j-i) (c-i)] w (Oq w e s):=by
 subst h hs
 have k:=q9n (if c=i then A else A.map (·.add (i*1))) (c-i) (dD b i j) B w d f (by rw [Fx a];exact zhx hr h1 a hc) (by rw [Fx a];omega) (by rw [Fx a];omega) (Ou g _ _)
 rwa [Fx a] at k
def quc (A:aiW) (c:Nat) (b:List Nat) (B:Nat) (w:aiM) (I:aR B w) (t:B<=w.heap.size) (hr:Rd w w.heap.size 1 A (abo b) (b.map B8)) (hc:abo b<=c) (J:abo b<=100000000) (u:∀z∈b,z<256) (x:Pl) (K:x.sn<=x.st/\x.st<=x.en/\x.en<=abo b):
    Calls abp 54 #[.agg #[vI (x.nx:Int),vI (x.sn:Int),vI (x.st:Int),vI (x.en:Int),abl A b c]] w (Vm w b x):=by
 refine (fE Tryz.func54 45) ?_
 refine (JP∘JE) λR g1=>(JA #[vI 0,vI 0,vQ 0,vN,vN,vN,vN,vN,vN]) λS C=>(Jp 1∘Jq) ?_
 obtain ⟨e,k⟩:∃e,oG (dD b x.sn x.st)=e:=⟨_,rfl⟩
 obtain ⟨T,hs⟩:∃s,lM (dD b x.sn x.st)=s:=⟨_,rfl⟩
 obtain ⟨bs,y,f⟩:∃bs y,readAll (dD b x.st x.en)=(bs,y):=⟨_,_,rfl⟩
 refine (JG∘JP∘Jg 4 O1∘Jf 0∘Jg 1 O1∘Jf 0∘Jg 2 O1∘Jy (v:= .slice (if c=x.sn then A else A.map (·.add (x.sn*1))) (x.st-x.sn) (c-x.sn)) (h:=by exact aam bA (i:=x.sn) (j:=x.st) rfl rfl rfl rfl om om)∘JL (h:=by exact λd=>zad A c b B _ (I.mem d t) (d.le t) (d.old hr) hc J u x.sn x.st K.1 om k hs)) ?_
 rintro d _ D ⟨z,rfl,hz,l,hm⟩
 refine ⟨_,rfl,_,(show Mem w D (.blk C #[vI 0,vI 0,vQ 0,vN,vN,vN,vN,vN,vN] 53:: .blk g1 #[vI x.nx,vI x.sn,vI x.st,vI x.en,abl A b c] 131::(jP z.st++([]))) from d.Le (a:=[.blk C #[vI 0,vI 0,vQ 0,vN,vN,vN,vN,vN,vN] 53,.blk g1 #[vI x.nx,vI x.sn,vI x.st,vI x.en,abl A b c] 131]) hm),?_⟩
 refine (Jp 1∘Jx∘Jx∘JA #[vI 0,vI 0,vQ 0,vN,vN,vN,vN,vN]) λU P=>(JV zo aO (h1:=by exact Ng z)) λE=>(bM 1∘JQ∘JB∘aM 3∘bU∘Jj) (Jh (λm=>?_) λm=>?_)
 ·
  refine (JT∘JP∘fD #[vI 0,vI 0,vQ 0,vN,vN,vN,vN,vN,vN]∘Jp 1∘JV cO gu) λL=>(Jp 1∘bU∘aP) λa Z d=>?_
  exact dR rfl Z (.cellS (i:=1) Z d rfl rfl cO rfl) (.tmp Z rfl) (Vr ((congrArg _ (zk7 (by rw [k];omega))).trans (by rw [k])) om (d.pk []))
 have g:e=0:=by omega
 refine (JF∘JP∘Jg 0 O0∘Jf 0∘Jg 0 O2∘Jp 2∘fJ∘Jj) (Jh (λn=>?_) λn=>?_)
 ·
  refine (JT∘JP∘fD #[vI 0,vI 0,vQ 0,vN,vN,vN,vN,vN,vN]∘JV cO gu) λM=>(Jp 1∘aL∘aP) λa Z d=>?_
  exact dR rfl Z (.cellS (i:=1) Z d rfl rfl cO rfl) (.tmp Z rfl) (Vr ((congrArg _ (zk8 (k.trans g) (by rw [hs,hz.1];omega))).trans rfl) de (d.pk []))
 refine (aQ∘JP∘eH zk9 O2∘JL (h:=by exact λd=>q3b A c b B _ (I.mem d t) (d.le t) (d.old hr) hc J u x K f)) ?_
 rintro d _ Q ⟨F,G,q,rfl,o,p,hm⟩
 have H:abo bs=abo q:=by rw [<-o,abw]
 rw [H] at hm p⊢
 refine ⟨_,rfl,_,aaK (a:=[.blk P z.cells 50,.blk C #[vI 0,vI 0,vQ 0,vN,vN,vN,vN,vN,vN] 53,.blk g1 #[vI x.nx,vI x.sn,vI x.st,vI x.en,abl A b c] 131]) (b:=jP z.st++[]) d hm,?_⟩
 refine (Jp 1∘Jx∘Jx∘bM 2∘bN 2∘aL∘Jj) (Jh (λr=>?_) λr=>?_)
 ·
  refine (JT∘JP∘fD #[vI 0,vI 0,vQ 0,vN,vN,vN,vN,vN,vN]∘Jp 1∘JV cO iG) λN=>(Jp 1∘bU∘aP) λa Z d=>?_
  exact dR rfl Z (.cellS (i:=2) Z d rfl rfl cO rfl) (.tmp Z rfl) (Vr ((congrArg _ (UA (k.trans g) (by rw [hs,hz.1];omega))).trans (by rw [f])) om (d.pk []))
 refine (aQ∘JP∘eH zo O1∘Jp 1∘fD #[vI z.next,vI z.st.au,vQ z.st.aj,abl z.st.gA z.st.gs z.st.gc,abl z.st.lA z.st.cl z.st.lc,abl z.st.uA z.st.cu z.st.uc,abl z.st.tA z.st.ts z.st.tc,abl z.st.sA z.st.rs z.st.sc,abl F q G]∘JV cO iG) λO=>(Jp 1∘eP∘aP) λa Z d=>?_
 exact dR rfl Z (.cellS (i:=2) Z d rfl rfl cO rfl) (.tmp Z rfl) (zfb (z:=z) (A:=F) (c:=G) (q:=q) u (k.trans g) (by rw [hs,hz.1];omega) (by rw [f];show y=0;omega) (by rw [hs];exact hz) l (by rw [f];exact o) p (q9o (Ou u _ _) (by rw [f];show y=0;omega)) (zfq (d.pt (fs':=(abn F q G hbL 85 5::(iU 73 q++(jP z.st++([]))))) 4 [0])))
def qm6 (W w:aiM) (j f o B:Nat) (A:aiW) (c:Nat) (b:List Nat) (U:aR B W) (P:B<=W.heap.size) (hr:Rd W W.heap.size 1 A (abo b) (b.map B8)) (hc:abo b<=c) (V:abo b<=100000000) (X:∀z∈b,z<256) (k:aiW) (pc:Nat) (L:List Pl) (C:∀x∈L,x.sn<=x.st/\x.st<=x.en/\x.en<=abo b) (Y:abo L<=1000000) (Inv:List Pl->List aiX->Prop) (Stop:List aiX->Prop) (D:List aiX)
    (hy:Vz W b L o Inv Stop) (E:Inv L D) (d:Mem W w (.blk j #[abl k L pc] 35:: .blk f #[abl A b c] 30:: abn k L pc iJ 57 4::D)):
    Calls abp 110 (.func (.yield o) #[] #[]:: [vP j 0,vP f 0]).toArray w (q26 W Inv Stop):=by
 refine nP Tryz.func110 [.func (.yield o) #[] #[],vP j 0,vP f 0] [ahZ o,(1,vP j 0),(2,vP f 0)] λa Z=>?_
 refine Jb Z d ((JP∘Jc O0∘Jl∘bM 1∘JB) λa Z d=>?_)
 refine qg (λQ aS wS=>∃(i:Nat) (F:List aiX),(i<=abo L)/\(Inv (L.drop i) F)/\Q=abo L-i/\Fr aS 30 [] [(10,vI i),(9,vI (abo L)),(8,abl k L pc),ahZ o,(2,vP f 0)]/\Mem W wS (.blk j #[abl k L pc] 35:: .blk f #[abl A b c] 30:: abn k L pc iJ 57 4::F)) (m:=abo L-0) ⟨0,D,abz _,E,rfl,Z.sub kr,d.pt 3 [0,1,2]⟩ ?_
 clear Z d;rintro Q a w_ ⟨i,F,hi,G,rfl,Z,d⟩
 refine Jb Z d ((dh 1∘JQ) (Ji (λr=>?_) λr=>?_))
 ·
  have g:i<abo L:=by omega
  obtain ⟨x,t⟩:∃x,L.getD i Pl.zero=x:=⟨_,rfl⟩
  have H:=C x (by rw [<-t];exact qf Pl.zero g)
  have hd:L.drop i=x::L.drop (i+1):=by rw [<-t];exact Zk Pl.zero g
  refine (eY∘aM 1) ?_
  repeat (first|clear Z|clear d)
  intro a Z d
  obtain ⟨e,rfl⟩:=d.rat 2 i
  refine Jb Z d ((nG i 4∘Jy (v:= .agg ((L.getD i Pl.zero).cells)) (h:=by exact Pe rfl rfl kY rfl (λ_ h=>h.yJ rZ (i:=2) rfl ((getD_at Pl.zero g))))∘Jo (.agg x.cells) (by rw [t])∘JA #[vI 0,vI 0,vI 0,vI 0]) λw5 l=>(Jp 1∘JV kY aO (h1:=by exact UE x)) λR=>(Jr∘eH kY O0∘Jc O2∘fD #[vI x.nx,vI x.sn,vI x.st,vI x.en,abl A b c]∘JL (h:=by exact λd=>quc A c b B _ (U.mem d P) (d.le P) (d.old hr) hc V X x H)) ?_)
  rintro d _ I ⟨p,rfl,J,K,hm⟩
  refine ⟨_,rfl,_,(show Mem W I (.blk l x.cells 57:: .blk j #[vS e (abo L) pc] 35:: .blk f #[abl A b c] 30:: .row (vS e (abo L) pc) (abo L) (L.flatMap iJ) 57 4::(iK p++(F))) from d.jU (T:=F) 4 hm rfl),?_⟩
  refine (Jp 1∘Jx∘Jx∘JA #[vI 0,vI 0,vQ 0,vN,vN,vN,vN,vN,vN]) λw6 n=>(JV cO aO (h1:=by exact zS p)) λS=>(bM 1) λa Z d=>?_
  refine wp_seq ?_
  refine F7 (i:=5) ?_
  refine Jb Z d ((Jp 2∘eH cO O0∘Jp 1∘fD #[vI p.z.next,vI p.z.st.au,vQ p.z.st.aj,abl p.z.st.gA p.z.st.gs p.z.st.gc,abl p.z.st.lA p.z.st.cl p.z.st.lc,abl p.z.st.uA p.z.st.cu p.z.st.uc,abl p.z.st.tA p.z.st.ts p.z.st.tc,abl p.z.st.sA p.z.st.rs p.z.st.sc,abl p.A p.q p.c,vI (dI b x)]∘Jq) λa Z d=>?_)
  refine uJ Z (i:=5) (vs:=[vI i,.agg #[vI p.z.next,vI p.z.st.au,vQ p.z.st.aj,abl p.z.st.gA p.z.st.gs p.z.st.gc,abl p.z.st.lA p.z.st.cl p.z.st.lc,abl p.z.st.uA p.z.st.cu p.z.st.uc,abl p.z.st.tA p.z.st.ts p.z.st.tc,abl p.z.st.sA p.z.st.rs p.z.st.sc,abl p.A p.q p.c,vI (dI b x)]]) rfl rfl rfl rfl rfl rfl de (hy (L.drop i) F _ _ i x (L.drop (i+1)) p G hd rfl g t J K (abh (es:=[.blk n p.cells 53,.blk l x.cells 57,.blk j #[vS e (abo L) pc] 35,.blk f #[abl A b c] 30,.row (vS e (abo L) pc) (abo L) (L.flatMap iJ) 57 4]) d)) qm3 ?_
  clear Z d;rintro v s a ⟨u,d,(⟨_,y,M⟩|⟨_,y,N⟩)⟩ Z<;>injection y with y<;>subst y
  ·
   replace d:Mem W s (.blk n p.cells 53:: .blk l x.cells 57:: .blk j #[vS e (abo L) pc] 35:: .blk f #[abl A b c] 30:: .row (vS e (abo L) pc) (abo L) (L.flatMap iJ) 57 4::u):=aag (es:=[.blk n p.cells 53,.blk l x.cells 57,.blk j #[vS e (abo L) pc] 35,.blk f #[abl A b c] 30,.row (vS e (abo L) pc) (abo L) (L.flatMap iJ) 57 4]) d
   refine Jb Z d ((Jp 1∘aJ∘Jq∘aQ∘JR∘dA 1∘Jp 1∘aL∘Jq) λa Z d=>?_)
   exact ⟨_,om,i+1,u,by omega,M,rfl,Z.sub kr,d.pt 5 [2,3,4]⟩
  ·
   replace d:Mem W s (.blk n p.cells 53:: .blk l x.cells 57:: .blk j #[vS e (abo L) pc] 35:: .blk f #[abl A b c] 30:: .row (vS e (abo L) pc) (abo L) (L.flatMap iJ) 57 4::u):=aag (es:=[.blk n p.cells 53,.blk l x.cells 57,.blk j #[vS e (abo L) pc] 35,.blk f #[abl A b c] 30,.row (vS e (abo L) pc) (abo L) (L.flatMap iJ) 57 4]) d
   refine Jb Z d ((Jp 1∘aJ∘Jq∘JT∘JZ) λa Z d=>?_)
   exact yK rfl Z (⟨_,rfl,u,aan [.blk n p.cells 53,.blk l x.cells 57,.blk j #[vS e (abo L) pc] 35,.blk f #[abl A b c] 30,.row (vS e (abo L) pc) (abo L) (L.flatMap iJ) 57 4] d,.inr N⟩)
 have O:L.drop i=[]:=ac6 om
 refine (JF∘JX) ?_
 rw [O] at G
 intro a Z d
 exact iB rfl Z (⟨_,rfl,F,aan [.blk j #[abl k L pc] 35,.blk f #[abl A b c] 30,abn k L pc iJ 57 4] d,.inl G⟩)
def qo6 (A:aiW) (n c:Nat) (a:aiW) (m pc:Nat) (w:aiM):
    Calls abp 50 #[.slice A n c,.slice a m pc] w λr g=>∃b d,r= .returned (.func (.func 110) #[] #[vP b 0,vP d 0])/\Mem w g [.blk b #[.slice a m pc] 35,ahS d A n c]:=by
 refine (iP Tryz.func50 6) ?_
 exact (JP∘tV) λj e=>(tV) λk f=>(Jp 1∘Jr∘Jy (h:=by exact Yl.makeFunc (fst:=[]) (caps:=[vP f 0,vP e 0]) rfl rfl rfl)∘Jp 1∘aL∘aP∘aW) λi=>by exact ⟨_,_,rfl,i.pk (fs':=[.blk f #[.slice a m pc] 35,ahS e A n c]) [0,1]⟩
end Go.Proofs.YtekiimhdnigmcaaGreatDoor
