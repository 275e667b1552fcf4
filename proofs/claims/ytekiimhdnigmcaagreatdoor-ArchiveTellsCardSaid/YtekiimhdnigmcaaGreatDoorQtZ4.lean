/- Parts. -/
import Derived.Test.YtekiimhdnigmcaaGreatDoorQtSep11
import Derived.Test.YtekiimhdnigmcaaGreatDoorQtVarRead
import Derived.Test.YtekiimhdnigmcaaGreatDoorQtZ3
set_option linter.all false
set_option maxRecDepth 100000
set_option maxHeartbeats 4000000
namespace Go.Proofs.YtekiimhdnigmcaaGreatDoor
open Go.RowKit
structure Pr where
 nx:Nat
 cp:Nat
 cr:Nat
 gp:Nat
 gs:List Nat
 cl:List Nat
 cu:List Nat
 tk:Nat
 ts:List Nat
 sp:List Nat
 e1:Nat
 e2:Nat
 e3:Nat
 e4:Nat
 e5:Nat
 e6:Nat
 e7:Nat
section
variable {α:Type} {b:List Nat} {a x n u:Nat} {xs:List Nat}
def pX (b:List Nat) (a:Nat) (k:Nat→Nat→Except Nat α):Except Nat α:=if (aA (b.drop a)).2.2≠0 then .error 344 else k (aA (b.drop a)).1 (a+(aA (b.drop a)).2.1)
def nQ (b:List Nat) (n a:Nat) (k:List Nat→Nat→Except Nat α):Except Nat α:=if (aY n (b.drop a)).2.2≠0 then .error 344 else k (aY n (b.drop a)).1 (a+(aY n (b.drop a)).2.1)
def cnt1 (b:List Nat) (a lo hi:Nat) (k:Nat→Nat→Except Nat α):Except Nat α:=pX b a fun x e=>if x<lo∨hi<x then .error 345 else k x e
theorem X4 {k:Nat→Nat→Except Nat α} (h:aA (b.drop a)=(x,n,0)):pX b a k=k x (a+n):=by unfold pX;rw [h];rfl
theorem TN {k:Nat→Nat→Except Nat α} (h:(aA (b.drop a)).2.2≠0):pX b a k= .error 344:=if_pos h
theorem zbf {k:List Nat→Nat→Except Nat α} (h:aY n (b.drop a)=(xs,u,0)):nQ b n a k=k xs (a+u):=by unfold nQ;rw [h];rfl
theorem LG {k:List Nat→Nat→Except Nat α} (h:(aY n (b.drop a)).2.2≠0):nQ b n a k= .error 344:=if_pos h
theorem zbg {k:Nat→Nat→Except Nat α} {lo hi:Nat} (h:aA (b.drop a)=(x,n,0)) (h2:¬(x<lo∨hi<x)):cnt1 b a lo hi k=k x (a+n):=by unfold cnt1;rw [X4 h,if_neg h2]
theorem q6t {k:Nat→Nat→Except Nat α} {lo hi:Nat} (h:aA (b.drop a)=(x,n,0)) (h2:x<lo∨hi<x):cnt1 b a lo hi k= .error 345:=by unfold cnt1;rw [X4 h,if_pos h2]
theorem TP {k:Nat→Nat→Except Nat α} {lo hi:Nat} (h:(aA (b.drop a)).2.2≠0):cnt1 b a lo hi k= .error 344:=TN h
theorem q6u (b:List Nat) (a:Nat):(aA (b.drop a)).2.2≠0∨∃x n,aA (b.drop a)=(x,n,0):=by grind
theorem q6v (b:List Nat) (k a:Nat):(aY k (b.drop a)).2.2≠0∨∃xs u,aY k (b.drop a)=(xs,u,0):=by grind
theorem qu4 (ha:a≤b.length) (h:aA (b.drop a)=(x,n,0)):0<n∧a+n≤b.length:=by grind [ER,qon]
theorem q6w (ha:a≤b.length) (h:aY n (b.drop a)=(xs,u,0)):xs.length=n∧n≤u∧a+u≤b.length:=by
 have h1:=q6s _ _ _ _ h
 rw [List.length_drop] at h1
 omega
theorem q11 {l:List Nat} {er:Nat} (h:aA l=(x,n,er)) (h2:(er:Int)≠0):(aA l).2.2≠0:=by rw [h];show er≠0;omega
theorem q12 (hl:∀z∈b,z<256) (h:aA (b.drop a)=(x,n,0)):x<18446744073709551616:=by grind [Sj]
end
def bA (b:List Nat) (p x e:Nat):Prop:=aA (b.drop p)=(x,e-p,0)∧p≤e
def mI (b:List Nat) (n p:Nat) (xs:List Nat) (e:Nat):Prop:=aY n (b.drop p)=(xs,e-p,0)∧p≤e
section
variable {α:Type} {b:List Nat} {p x e n:Nat} {xs:List Nat}
theorem bA.eq (h:bA b p x e):p+(e-p)=e:=by have:=h.2;omega
theorem mI.eq (h:mI b n p xs e):p+(e-p)=e:=by have:=h.2;omega
theorem bA.of {m:Nat} (h:aA (b.drop p)=(x,m,0)):bA b p x (p+m):=⟨by rw [h,Nat.add_sub_cancel_left],by omega⟩
theorem mI.of {m:Nat} (h:aY n (b.drop p)=(xs,m,0)):mI b n p xs (p+m):=⟨by rw [h,Nat.add_sub_cancel_left],by omega⟩
theorem LH (b:List Nat) (p:Nat):(aA (b.drop p)).2.2≠0∨∃x e,bA b p x e:=by
 rcases q6u b p with h|⟨x,n,h⟩
 ·exact .inl h
 ·exact .inr ⟨x,_,.of h⟩
theorem LJ (b:List Nat) (n p:Nat):(aY n (b.drop p)).2.2≠0∨∃xs e,mI b n p xs e:=by
 rcases q6v b n p with h|⟨xs,u,h⟩
 ·exact .inl h
 ·exact .inr ⟨xs,_,.of h⟩
theorem bA.go1 {k:Nat→Nat→Except Nat α} (h:bA b p x e):pX b p k=k x e:=by rw [X4 h.1,h.eq]
theorem mI.goK {k:List Nat→Nat→Except Nat α} (h:mI b n p xs e):nQ b n p k=k xs e:=by rw [zbf h.1,h.eq]
theorem bA.goC {k:Nat→Nat→Except Nat α} {lo hi:Nat} (h:bA b p x e) (h2:¬(x<lo∨hi<x)):cnt1 b p lo hi k=k x e:=by rw [zbg h.1 h2,h.eq]
theorem bA.bad {k:Nat→Nat→Except Nat α} {lo hi:Nat} (h:bA b p x e) (h2:x<lo∨hi<x):cnt1 b p lo hi k= .error 345:=q6t h.1 h2
theorem bA.in (h:bA b p x e) (hp:p≤b.length):p<e∧e≤b.length:=by have:=qu4 hp h.1;have:=h.2;omega
theorem mI.in (h:mI b n p xs e) (hp:p≤b.length):xs.length=n∧p+n≤e∧e≤b.length:=by have:=q6w hp h.1;have:=h.2;omega
theorem bA.lt (h:bA b p x e) (hl:∀z∈b,z<256):x<18446744073709551616:=q12 hl h.1
theorem bA.one {x2 e2:Nat} (h:bA b p x e) (h2:bA b p x2 e2):x2=x∧e2=e:=by
 have h3:=h.1.symm.trans h2.1
 injection h3 with h3 h4
 injection h4 with h4
 have:=h.2
 have:=h2.2
 exact ⟨h3.symm,by omega⟩
theorem mI.one {xs2:List Nat} {e2:Nat} (h:mI b n p xs e) (h2:mI b n p xs2 e2):xs2=xs∧e2=e:=by
 have h3:=h.1.symm.trans h2.1
 injection h3 with h3 h4
 injection h4 with h4
 have:=h.2
 have:=h2.2
 exact ⟨h3.symm,by omega⟩
theorem mI.nil (b:List Nat) (p:Nat):mI b 0 p [] p:=⟨by rw [Nat.sub_self];rfl,Nat.le_refl _⟩
theorem mI.snoc {y f:Nat} (h:mI b n p xs e) (h2:bA b e y f):mI b (n+1) p (xs++[y]) f:=by
 have h3:=h.2
 have h4:=h2.2
 have:=ql2 n _ xs (e-p) y (f-e) h.1 (by rw [List.drop_drop,h.eq];exact h2.1)
 exact ⟨by rw [this];congr 2;omega,by omega⟩
theorem mI.stuck {m:Nat} (h:mI b n p xs e) (hn:n<m) (h2:(aA (b.drop e)).2.2≠0):(aY m (b.drop p)).2.2≠0:=by
 have:=qsj n (m- (n+1)) _ xs (e-p) h.1 (by rw [List.drop_drop,h.eq];exact h2)
 grind
end
theorem tq {q:List Nat} {x p e:Nat} (h:q.length≤p) (h2:p<e):(q++[x]).length≤e:=by rw [List.length_append];show q.length+1≤e;omega
theorem tu {q xs:List Nat} {p e n:Nat} (h:q.length≤p) (h2:xs.length=n) (h3:p+n≤e):(q++xs).length≤e:=by rw [List.length_append];omega
theorem TQ (b:List Nat) (p lo hi:Nat):(aA (b.drop p)).2.2≠0∨(∃x e,bA b p x e∧(x<lo∨hi<x))∨∃x e,bA b p x e∧¬(x<lo∨hi<x):=by grind [LH]
theorem qp9 {m n:Nat} (h:m*n≤9223372036854775807):Value.int .i64 (Go.IntKind.i64.wrap ((m:Int)*(n:Int)))= .int .i64 ((m*n:Nat):Int):=by
 rw [←Int.natCast_mul]
 exact wJ rfl h
def ng (l:List jA):Nat:=(l.getD (l.length-1) jA.zero).to
theorem q6x {l:List jA} (h:l.length=0):ng l=0:=by rw [List.length_eq_zero_iff] at h;subst h;rfl
def Aj (b:List Nat) (nx:Nat) (e1:Nat) (cp:Nat) (a1:Nat) (cr:Nat) (a2:Nat) (gp:Nat) (e2:Nat) (gs:List Nat) (e3:Nat) (cl:List Nat) (e4:Nat) (cu:List Nat) (e5:Nat) (tk:Nat) (a3:Nat) (ts:List Nat) (e6:Nat) (sp:List Nat) (e7:Nat):Except Nat Pr:=if e7≠b.length then .error 346 else .ok ⟨nx,cp,cr,gp,gs,cl,cu,tk,ts,sp,e1,e2,e3,e4,e5,e6,e7⟩
def X5 (b:List Nat) (nx:Nat) (e1:Nat) (cp:Nat) (a1:Nat) (cr:Nat) (a2:Nat) (gp:Nat) (e2:Nat) (gs:List Nat) (e3:Nat) (cl:List Nat) (e4:Nat) (cu:List Nat) (e5:Nat) (tk:Nat) (a3:Nat) (ts:List Nat) (e6:Nat):Except Nat Pr:=nQ b (cp+3*cp*(gp-1)) e6 (Aj b nx e1 cp a1 cr a2 gp e2 gs e3 cl e4 cu e5 tk a3 ts e6)
def X6 (b:List Nat) (nx:Nat) (e1:Nat) (cp:Nat) (a1:Nat) (cr:Nat) (a2:Nat) (gp:Nat) (e2:Nat) (gs:List Nat) (e3:Nat) (cl:List Nat) (e4:Nat) (cu:List Nat) (e5:Nat) (tk:Nat) (a3:Nat):Except Nat Pr:=nQ b (8*tk) a3 (X5 b nx e1 cp a1 cr a2 gp e2 gs e3 cl e4 cu e5 tk a3)
def X7 (b:List Nat) (nx:Nat) (e1:Nat) (cp:Nat) (a1:Nat) (cr:Nat) (a2:Nat) (gp:Nat) (e2:Nat) (gs:List Nat) (e3:Nat) (cl:List Nat) (e4:Nat) (cu:List Nat) (e5:Nat):Except Nat Pr:=cnt1 b e5 0 65535 (X6 b nx e1 cp a1 cr a2 gp e2 gs e3 cl e4 cu e5)
def X8 (b:List Nat) (nx:Nat) (e1:Nat) (cp:Nat) (a1:Nat) (cr:Nat) (a2:Nat) (gp:Nat) (e2:Nat) (gs:List Nat) (e3:Nat) (cl:List Nat) (e4:Nat):Except Nat Pr:=nQ b cp e4 (X7 b nx e1 cp a1 cr a2 gp e2 gs e3 cl e4)
def X9 (b:List Nat) (nx:Nat) (e1:Nat) (cp:Nat) (a1:Nat) (cr:Nat) (a2:Nat) (gp:Nat) (e2:Nat) (gs:List Nat) (e3:Nat):Except Nat Pr:=nQ b cp e3 (X8 b nx e1 cp a1 cr a2 gp e2 gs e3)
def Ya (b:List Nat) (nx:Nat) (e1:Nat) (cp:Nat) (a1:Nat) (cr:Nat) (a2:Nat) (gp:Nat) (e2:Nat):Except Nat Pr:=nQ b (2*(gp-1)) e2 (X9 b nx e1 cp a1 cr a2 gp e2)
def Yb (b:List Nat) (nx:Nat) (e1:Nat) (cp:Nat) (a1:Nat) (cr:Nat) (a2:Nat):Except Nat Pr:=cnt1 b a2 1 256 (Ya b nx e1 cp a1 cr a2)
def Yc (b:List Nat) (nx:Nat) (e1:Nat) (cp:Nat) (a1:Nat):Except Nat Pr:=pX b a1 (Yb b nx e1 cp a1)
def Yd (b:List Nat) (nx:Nat) (e1:Nat):Except Nat Pr:=cnt1 b e1 1 64 (Yc b nx e1)
def yY (b:List Nat):Except Nat Pr:=pX b 3 (Yd b)
def Pr.nums (p:Pr):List Nat:=[p.nx,p.cp,p.cr,p.gp]++p.gs++p.cl++p.cu++[p.tk]++p.ts++p.sp
def Pr.secs (p:Pr):List jA:=[qe,⟨qa 0,3,p.e1⟩,⟨qa 1,p.e1,p.e2⟩,⟨qa 2,p.e2,p.e3⟩,⟨qa 3,p.e3,p.e4⟩,⟨qa 4,p.e4,p.e5⟩,⟨qa 5,p.e5,p.e6⟩,⟨qa 6,p.e6,p.e7⟩,⟨⟨#[115,117,109]⟩,p.e7,p.e7+4⟩]
section
variable {α:Type} {b:List Nat} {a n:Nat} {er:Nat}
theorem Ye {k:Nat→Nat→Except Nat α} (h:pX b a k= .error er):er=344∨∃x e,k x e= .error er:=by grind [pX]
theorem OJ {k:List Nat→Nat→Except Nat α} (h:nQ b n a k= .error er):er=344∨∃x e,k x e= .error er:=by grind [nQ]
theorem qno {lo hi:Nat} {k:Nat→Nat→Except Nat α} (h:cnt1 b a lo hi k= .error er):(er=344∨er=345)∨∃x e,k x e= .error er:=by grind [cnt1,Ye]
end
theorem q13 {b:List Nat} {er:Nat} (h:yY b= .error er):344≤er∧er≤346:=by
 rcases Ye h with h|⟨_,_,h⟩; · omega
 rcases qno h with h|⟨_,_,h⟩; · omega
 rcases Ye h with h|⟨_,_,h⟩; · omega
 rcases qno h with h|⟨_,_,h⟩; · omega
 rcases OJ h with h|⟨_,_,h⟩; · omega
 rcases OJ h with h|⟨_,_,h⟩; · omega
 rcases OJ h with h|⟨_,_,h⟩; · omega
 rcases qno h with h|⟨_,_,h⟩; · omega
 rcases OJ h with h|⟨_,_,h⟩; · omega
 rcases OJ h with h|⟨_,_,h⟩; · omega
 grind [Aj]
def fu (l:List Nat):Except Nat Pr:=
 if l.length<15 then .error 340 else if 16777216<l.length then .error 3 else if zq l=false then .error 341 else
 if ¬(l.getD 0 0=113∧l.getD 1 0=115) then .error 342 else if l.getD 2 0≠1 then .error 343 else yY (l.take (l.length-4))
section
variable {l:List Nat}
theorem q14 (h:l.length<15):fu l= .error 340:=if_pos h
theorem q6y (h:¬l.length<15) (h2:16777216<l.length):fu l= .error 3:=by unfold fu;rw [if_neg h,if_pos h2]
theorem zbh (h:¬l.length<15) (h2:¬16777216<l.length) (h3:zq l=false):fu l= .error 341:=by unfold fu;rw [if_neg h,if_neg h2,if_pos h3]
theorem qqa (h:¬l.length<15) (h2:¬16777216<l.length) (h3:zq l=true) (h4:¬(l.getD 0 0=113∧l.getD 1 0=115)):fu l= .error 342:=by grind [fu]
theorem qsm (h:¬l.length<15) (h2:¬16777216<l.length) (h3:zq l=true) (h4:l.getD 0 0=113∧l.getD 1 0=115) (h5:l.getD 2 0≠1):fu l= .error 343:=by grind [fu]
theorem zbi (h:¬l.length<15) (h2:¬16777216<l.length) (h3:zq l=true) (h4:l.getD 0 0=113∧l.getD 1 0=115) (h5:l.getD 2 0=1):fu l=yY (l.take (l.length-4)):=by grind [fu]
theorem Yf {er:Nat} (h:fu l= .error er):1≤er∧er≤346:=by
 unfold fu at h
 split at h
 ·injection h with h;omega
 ·split at h
  ·injection h with h;omega
  ·split at h
   ·injection h with h;omega
   ·split at h
    ·injection h with h;omega
    ·split at h
     ·injection h with h;omega
     ·have:=q13 h;omega
end
section
variable {l:List Nat} {p:Pr} {k:Nat}
end
theorem OL {w:World} {B a c:Nat} {A:Option Addr} {b:List Nat} (h:Rd w B 1 A b.length (b.map B8)) (ha:a≤b.length) (hc:b.length≤c):Rd w B 1 (if c=a then A else A.map (·.add (a*1))) (b.drop a).length ((b.drop a).map B8):=by
 have h1:=h.CJ (i:=a) (j:=b.length) ha (Nat.le_refl _) hc
 grind
theorem q6z {A:Option Addr} {c:Nat} {l:List Nat} {w:World} {x n er:Nat} (h:aA l=(x,n,er)) (hr:Rd w w.heap.size 1 A l.length (l.map B8)) (hl:∀b∈l,b<256) (hn:l.length≤200000000000000):
  Calls Tryz.prog 52 #[.slice A l.length c] w (Is w (.tuple #[.int .u64 (x:Int),.int .i64 (n:Int),.int .i64 (er:Int)])):=by
 have:=U8 A l.length c l w hr hl hn
 rw [h] at this
 exact this
def fV:TypeId:=27
theorem TR {W:World} {fs:List Fact} (k:Int) (w:World) (HW:Mem W w fs):Calls Tryz.prog 283 #[.int .i64 k] w (l7 W fs (uM fV k)):=by
 refine qbv (vs:=[.int .i64 k]) Tryz.func283 rfl rfl kr (σ0:=[(0,.int .i64 k)]) rfl ?_
 intro a Z
 refine zg ?_
 refine fp Z 1 0 [(2,.int .i64 k)] fun a Z=>fy Z HW 1 rfl rfl rfl (Yl.makeInterface rfl rfl) fun a Z=>?_
 refine fo Z 2 rfl rfl ?_
 refine zbc Z rfl rfl ?_
 exact LD Z ⟨rfl,HW⟩
theorem q15 {W:World} {fs gs:List Fact} {i g:Nat} (k x:Int) (w:World) (E:Mem W w fs) (hi:fs[i]?=some (.blk g #[.int .i64 x] fV)) (hg:fs.set i (.blk g #[.int .i64 k] fV)=gs):CallsD Tryz.prog 278 [Value.pointer (some ⟨g,0,none⟩)].toArray (.panicking (uM fV k)) w (rT W gs):=by
 subst hg
 refine qij Tryz.func278 rfl rfl kr (σ0:=[(0,.pointer (some ⟨g,0,none⟩))]) rfl fun c₀ cs a hu Z=>?_
 refine wpS_seq (wpS_region ?_)
 refine qii (i:=0) (v:= .iface fV (.int .i64 k)) (cs':={c₀ with mode:= .panicking [{v:= .iface fV (.int .i64 k),recovered:=true}]}::cs) Z rfl rfl rfl rfl de (.inl (by unfold uM at hu;simp [recoverD,hu])) fun a Z=>?_
 refine qp7 (i:=1) Z rfl rfl rfl rfl de fun a Z=>?_
 refine wpS_of_wp (wp_seq ?_)
 refine zg ?_
 refine fp Z 1 0 [(6,.iface fV (.int .i64 k))] fun a Z=>fy Z E 1 rfl rfl rfl (Yl.q8c rfl rfl) fun a Z=>?_
 refine fp Z 5 2 [(2,.int .i64 k),(3,.bool true)] fun a Z=>Dh rfl ?_
 refine wp_seq (wp_seq ?_)
 refine zg ?_
 refine fp Z 1 0 [(10,.iface fV (.int .i64 k))] fun a Z=>fy Z E 1 rfl rfl rfl (Yl.zc4 rfl rfl rfl) fun a Z=>?_
 refine fp Z 4 2 [(15,.bool false)] fun a Z=>Dh rfl ?_
 refine VJ Z rfl (wp_skip ?_)
 refine zg ?_
 refine fp Z 1 0 [(17,.int .i64 k)] fun a Z=>fo Z 1 rfl rfl ?_
 refine Sw Z E (i:=i) rfl rfl rfl rfl kr rfl hi (by simp) ?_
 clear E;intro w2 E
 refine Dh rfl ?_
 exact qp8 rfl Z ⟨rfl,rfl,E⟩
theorem qxf {W:World} {fs gs:List Fact} {i g:Nat} (x:Int) (w:World) (E:Mem W w fs) (hi:fs[i]?=some (.blk g #[.int .i64 x] fV)) (hg:fs.set i (.blk g #[.int .i64 0] fV)=gs):CallsD Tryz.prog 278 [Value.pointer (some ⟨g,0,none⟩)].toArray .returning w (rT W gs):=by
 subst hg
 refine qij Tryz.func278 rfl rfl kr (σ0:=[(0,.pointer (some ⟨g,0,none⟩))]) rfl fun c₀ cs a hu Z=>?_
 refine wpS_seq (wpS_region ?_)
 refine qii (i:=0) (v:= .nilIface) (cs':=c₀::cs) Z rfl rfl rfl rfl de (.inr ⟨by simp [recoverD,hu],rfl,rfl⟩) fun a Z=>?_
 refine qp7 (i:=1) Z rfl rfl rfl rfl de fun a Z=>?_
 refine wpS_of_wp (wp_seq ?_)
 refine zg ?_
 refine fp Z 1 0 [(6,.nilIface)] fun a Z=>fy Z E 1 rfl rfl rfl (Yl.q4u (z:= .int .i64 0) rfl rfl kr) fun a Z=>?_
 refine fp Z 5 2 [(2,.int .i64 0),(3,.bool false)] fun a Z=>Dh rfl ?_
 refine wp_seq (wp_seq ?_)
 refine zg ?_
 refine fp Z 1 0 [(10,.nilIface)] fun a Z=>fy Z E 1 rfl rfl rfl (Yl.zfl rfl rfl) fun a Z=>?_
 refine fp Z 4 2 [(15,.bool false)] fun a Z=>Dh rfl ?_
 refine VJ Z rfl (wp_skip ?_)
 refine zg ?_
 refine fp Z 1 0 [(17,.int .i64 0)] fun a Z=>fo Z 1 rfl rfl ?_
 refine Sw Z E (i:=i) rfl rfl rfl rfl kr rfl hi (by simp) ?_
 clear E;intro w2 E
 refine Dh rfl ?_
 have hc:c₀={c₀ with mode:=FrameMode.returning}:=by cases c₀;simp at hu;rw [hu]
 rw [hc]
 exact qp8 rfl Z ⟨rfl,rfl,E⟩
section
variable {α:Type} {b:List Nat} {a n:Nat} {p:α}
theorem qu6 {k:Nat→Nat→Except Nat α} (h:pX b a k= .ok p):∃x e,bA b a x e∧k x e= .ok p:=by
 rcases LH b a with h2|⟨x,e,h2⟩
 ·rw [TN h2] at h;cases h
 ·rw [h2.go1] at h;exact ⟨x,e,h2,h⟩
theorem OM {k:List Nat→Nat→Except Nat α} (h:nQ b n a k= .ok p):∃xs e,mI b n a xs e∧k xs e= .ok p:=by
 rcases LJ b n a with h2|⟨x,e,h2⟩
 ·rw [LG h2] at h;cases h
 ·rw [h2.goK] at h;exact ⟨x,e,h2,h⟩
theorem Yg {lo hi:Nat} {k:Nat→Nat→Except Nat α} (h:cnt1 b a lo hi k= .ok p):∃x e,bA b a x e∧(lo≤x∧x≤hi)∧k x e= .ok p:=by
 rcases TQ b a lo hi with h2|⟨x,e,h2,h3⟩|⟨x,e,h2,h3⟩
 ·rw [TP h2] at h;cases h
 ·rw [h2.bad h3] at h;cases h
 ·rw [h2.goC h3] at h;exact ⟨x,e,h2,by omega,h⟩
end
section
variable {b:List Nat} {p x e n:Nat} {xs:List Nat}
theorem bA.bytes (h:bA b p x e) (hl:∀z∈b,z<256):b.drop p=aj x++b.drop e:=by
 rw [Ws (fun z hz=>hl z (List.mem_of_mem_drop hz)) h.1]
 have:=List.take_append_drop (e-p) (b.drop p)
 rw [List.drop_drop,h.eq] at this
 exact this.symm
theorem mI.bytes (h:mI b n p xs e) (hl:∀z∈b,z<256):b.drop p=xs.flatMap aj++b.drop e∧∀x∈xs,x<18446744073709551616:=by
 obtain ⟨h1,_,h3,_⟩:=qwu n _ xs _ (fun z hz=>hl z (List.mem_of_mem_drop hz)) h.1
 refine ⟨?_,h3⟩
 rw [h1]
 have:=List.take_append_drop (e-p) (b.drop p)
 rw [List.drop_drop,h.eq] at this
 exact this.symm
end
structure Pr.Fit (p:Pr):Prop where
 cp1:1≤p.cp
 cp2:p.cp≤64
 gp1:1≤p.gp
 OO:p.gp≤256
 tk:p.tk≤65535
 gs:p.gs.length=2*(p.gp-1)
 cl:p.cl.length=p.cp
 cu:p.cu.length=p.cp
 ts:p.ts.length=8*p.tk
 sp:p.sp.length=p.cp+3*p.cp*(p.gp-1)
 lt:∀x∈p.nums,x<18446744073709551616
theorem zbj {b:List Nat} {p:Pr} (hb:3≤b.length) (hl:∀z∈b,z<256) (h:yY b= .ok p):p.Fit∧b.drop 3=p.nums.flatMap aj:=by
 obtain ⟨nx,e1,h1,h⟩:=qu6 h
 obtain ⟨cp,a1,h2,c2,h⟩:=Yg h
 obtain ⟨cr,a2,h3,h⟩:=qu6 h
 obtain ⟨gp,e2,h4,c4,h⟩:=Yg h
 obtain ⟨gs,e3,h5,h⟩:=OM h
 obtain ⟨cl,e4,h6,h⟩:=OM h
 obtain ⟨cu,e5,h7,h⟩:=OM h
 obtain ⟨tk,a3,h8,c8,h⟩:=Yg h
 obtain ⟨ts,e6,h9,h⟩:=OM h
 obtain ⟨sp,e7,h10,h⟩:=OM h
 unfold Aj at h
 split at h
 ·cases h
 rename_i he
 injection h with h
 subst h
 have i1:=h1.in hb
 have i2:=h2.in i1.2
 have i3:=h3.in i2.2
 have i4:=h4.in i3.2
 have i5:=h5.in i4.2
 have i6:=h6.in i5.2.2
 have i7:=h7.in i6.2.2
 have i8:=h8.in i7.2.2
 have i9:=h9.in i8.2
 have i10:=h10.in i9.2.2
 have b5:=h5.bytes hl
 have b6:=h6.bytes hl
 have b7:=h7.bytes hl
 have b9:=h9.bytes hl
 have b10:=h10.bytes hl
 have hend:b.drop e7=[]:=List.drop_eq_nil_of_le om
 refine ⟨⟨c2.1,c2.2,c4.1,c4.2,c8.2,i5.1,i6.1,i7.1,i9.1,i10.1,fun x hx=>?_⟩,?_⟩
 ·simp only [Pr.nums,List.mem_append,List.mem_cons,List.not_mem_nil,or_false] at hx
  rcases hx with (((((((rfl|rfl|rfl|rfl)|hx)|hx)|hx)|rfl)|hx)|hx)
  ·exact h1.lt hl
  ·exact h2.lt hl
  ·exact h3.lt hl
  ·exact h4.lt hl
  ·exact b5.2 x hx
  ·exact b6.2 x hx
  ·exact b7.2 x hx
  ·exact h8.lt hl
  ·exact b9.2 x hx
  ·exact b10.2 x hx
 ·rw [h1.bytes hl,h2.bytes hl,h3.bytes hl,h4.bytes hl,b5.1,b6.1,b7.1,h8.bytes hl,b9.1,b10.1,hend]
  simp [Pr.nums]
def aV (x:Nat):Int:=Go.IntKind.i64.wrap (x:Int)
def aC:Nat:=4611686018427387904
def bK {α:Type} (n:Nat) (f:Nat→α):List α:=(List.range n).map f
theorem vL {α:Type} (n:Nat) (f:Nat→α):(bK n f).length=n:=by simp [bK]
theorem D5 {α:Type} (n:Nat) (f:Nat→α):bK (n+1) f=bK n f++[f n]:=by unfold bK;rw [List.range_succ,List.map_append];rfl
theorem IJ {α:Type} {n i:Nat} {f:Nat→α} {d:α} (h:i<n):(bK n f).getD i d=f i:=by grind [bK]
theorem q60 {α β:Type} (n:Nat) (f:Nat→α) (g:α→β):(bK n f).map g=bK n fun i=>g (f i):=by unfold bK;rw [List.map_map];rfl
theorem qqb {l:List Nat} {n:Nat} (h:l.length=n) (f:Nat→Int):(bK n fun i=>f (l.getD i 0))=l.map f:=by
 subst h
 refine List.ext_getElem (by simp [bK]) fun i h1 h2=>?_
 grind [bK]
def Pr.gG (p:Pr) (g:Nat):Gr:=if g=0 then ⟨0,1⟩ else ⟨aV (p.gs.getD (2*(g-1)) 0),aV (p.gs.getD (2*(g-1)+1) 0)⟩
def Pr.tn (p:Pr) (i j:Nat):Nat:=p.ts.getD (8*i+j) 0
def Pr.wV (p:Pr):Nat→Int
 |0=>0
 |i+1=>if 65535<Go.IntKind.i64.wrap (p.wV i+aV (p.tn i 0)) then 65535 else Go.IntKind.i64.wrap (p.wV i+aV (p.tn i 0))
def Pr.mJ (p:Pr) (i:Nat):Int:=Go.IntKind.i64.wrap (p.wV i+aV (p.tn i 0))
def Pr.yg (p:Pr) (i:Nat):Tk:=⟨p.mJ i,aV (p.tn i 1),aV (p.tn i 2),aV (p.tn i 3),p.tn i 4,decide (p.tn i 5=1),p.tn i 6,p.tn i 7%4294967296⟩
def Pr.so (p:Pr) (g c:Nat):Nat:=if g=0 then c else p.cp+3*p.cp*(g-1)+3*c
def Pr.sn (p:Pr) (g c j:Nat):Nat:=p.sp.getD (p.so g c+j) 0
def Pr.vM (p:Pr) (g c:Nat):Sp:=if g=0 then ⟨0,0,p.sn g c 0⟩ else ⟨p.sn g c 0,p.sn g c 1%4294967296,p.sn g c 2⟩
def Pr.row (p:Pr) (g:Nat):List Sp:=bK p.cp (p.vM g)
def Pr.uN (p:Pr):bH:=⟨aV p.nx,⟨(p.cp:Int),p.cr,none,0,bK p.gp p.gG,none,0,p.cl.map aV,none,0,p.cu.map aV,none,0,bK p.tk p.yg,none,0,bK p.gp fun g=>⟨none,0,p.row g⟩⟩⟩
def dle (x m:Nat):Bool:=decide (x≤m)
def Pr.ok0 (p:Pr):Bool:=(((true&&dle p.nx aC)&&dle p.cp aC)&&dle p.cr 18446744073709551615)&&dle p.gp aC
def Pr.sF (p:Pr):Nat→Bool
 |0=>p.ok0
 |g+1=>if g=0 then p.ok0 else (p.sF g&&dle (p.gs.getD (2*(g-1)) 0) aC)&&dle (p.gs.getD (2*(g-1)+1) 0) aC
def Pr.D6 (p:Pr):Nat→Bool
 |0=>p.sF p.gp
 |k+1=>p.D6 k&&dle (p.cl.getD k 0) aC
def Pr.Am (p:Pr):Nat→Bool
 |0=>p.D6 p.cp
 |k+1=>p.Am k&&dle (p.cu.getD k 0) aC
def Pr.jL (p:Pr):Nat→Bool
 |0=>p.Am p.cp&&dle p.tk aC
 |i+1=>((((((((p.jL i&&dle (p.tn i 0) aC)&&dle (p.tn i 1) aC)&&dle (p.tn i 2) aC)&&dle (p.tn i 3) aC)&&dle (p.tn i 4) 18446744073709551615)&&dle (p.tn i 5) 1)&&dle (p.tn i 6) 18446744073709551615)&&dle (p.tn i 7) 4294967295)&&decide (p.mJ i≤65535)
def Pr.nD (p:Pr) (base:Bool) (g:Nat):Nat→Bool
 |0=>base
 |c+1=>if g=0 then p.nD base g c&&dle (p.sn g c 0) 18446744073709551615 else ((p.nD base g c&&dle (p.sn g c 0) 18446744073709551615)&&dle (p.sn g c 1) 4294967295)&&dle (p.sn g c 2) 18446744073709551615
def Pr.oI (p:Pr):Nat→Bool
 |0=>p.jL p.tk
 |g+1=>p.nD (p.oI g) g p.cp
def Pr.okB (p:Pr):Bool:=p.oI p.gp
section
variable {p:Pr} (h:p.Fit)
def Pr.oC (p:Pr):Nat:=4+2*(p.gp-1)
def Pr.oT (p:Pr):Nat:=p.oC+2*p.cp
def Pr.oS (p:Pr):Nat:=p.oT+1+8*p.tk
theorem TS {l m:List Nat} {k:Nat} (hk:k<l.length):(l++m).getD k 0=l.getD k 0:=by grind
theorem LK {l m:List Nat} {k j:Nat} (hk:k=l.length+j):(l++m).getD k 0=m.getD j 0:=by grind
theorem q61 (p:Pr):p.nums.getD 0 0=p.nx∧p.nums.getD 1 0=p.cp∧p.nums.getD 2 0=p.cr∧p.nums.getD 3 0=p.gp:=by
 unfold Pr.nums
 simp [List.append_assoc]
include h in
theorem q62:p.nums.length=p.oS+p.sp.length∧p.sp.length=p.cp+3*p.cp*(p.gp-1):=by
 unfold Pr.nums Pr.oS Pr.oT Pr.oC
 simp only [List.length_append,List.length_cons,List.length_nil,h.gs,h.cl,h.cu,h.ts]
 exact ⟨by omega,h.sp⟩
include h in
theorem q16 {j:Nat} (hj:j<2*(p.gp-1)):p.nums.getD (4+j) 0=p.gs.getD j 0:=by
 have:=h.gs
 unfold Pr.nums
 rw [List.append_assoc,List.append_assoc,List.append_assoc,List.append_assoc,List.append_assoc,LK (l:=[p.nx,p.cp,p.cr,p.gp]) (k:=4+j) (j:=j) rfl,TS om]
include h in
theorem zbk {j:Nat} (hj:j<p.cp):p.nums.getD (p.oC+j) 0=p.cl.getD j 0:=by
 have:=h.gs
 have:=h.cl
 unfold Pr.nums Pr.oC
 rw [List.append_assoc,List.append_assoc,List.append_assoc,List.append_assoc,LK (j:=j) (by simp only [List.length_append,List.length_cons,List.length_nil];omega),TS om]
include h in
theorem zbl {j:Nat} (hj:j<p.cp):p.nums.getD (p.oC+p.cp+j) 0=p.cu.getD j 0:=by
 have:=h.gs
 have:=h.cl
 have:=h.cu
 unfold Pr.nums Pr.oC
 rw [List.append_assoc,List.append_assoc,List.append_assoc,LK (j:=j) (by simp only [List.length_append,List.length_cons,List.length_nil];omega),TS om]
include h in
theorem zbm:p.nums.getD p.oT 0=p.tk:=by
 have:=h.gs
 have:=h.cl
 have:=h.cu
 unfold Pr.nums Pr.oT Pr.oC
 rw [List.append_assoc,List.append_assoc,LK (j:=0) (by simp only [List.length_append,List.length_cons,List.length_nil];omega)]
 rfl
include h in
theorem FN {j:Nat} (hj:j<8*p.tk):p.nums.getD (p.oT+1+j) 0=p.ts.getD j 0:=by
 have:=h.gs
 have:=h.cl
 have:=h.cu
 have:=h.ts
 unfold Pr.nums Pr.oT Pr.oC
 rw [List.append_assoc,LK (j:=j) (by simp only [List.length_append,List.length_cons,List.length_nil];omega),TS om]
include h in
theorem TT (j:Nat):p.nums.getD (p.oS+j) 0=p.sp.getD j 0:=by
 have:=h.gs
 have:=h.cl
 have:=h.cu
 have:=h.ts
 unfold Pr.nums Pr.oS Pr.oT Pr.oC
 rw [LK (j:=j) (by simp only [List.length_append,List.length_cons,List.length_nil];omega)]
theorem D7 (p:Pr) (c:Nat):p.so 0 c=c:=if_pos rfl
theorem yh {g:Nat} (hg:0<g) (c:Nat):p.so g c=p.cp+3*p.cp*(g-1)+3*c:=if_neg om
theorem TU {g:Nat}:p.so (g+1) 0=p.so g p.cp:=by
 rw [yh om]
 rcases Nat.eq_zero_or_pos g with h0|h0
 ·subst h0;rw [D7];omega
 ·rw [yh h0,show g+1-1=(g-1)+1 by omega,Nat.mul_succ];omega
include h in
theorem OP {g c:Nat} (hg:g<p.gp) (hc:c<p.cp):p.so g c+(if g=0 then 1 else 3)≤p.sp.length:=by
 rw [h.sp]
 rcases Nat.eq_zero_or_pos g with h0|h0
 ·subst h0;rw [D7,if_pos rfl];omega
 ·rw [yh h0,if_neg om]
  have:3*p.cp*(g-1)+3*p.cp≤3*p.cp*(p.gp-1):=by
   rw [←Nat.mul_succ]
   exact Nat.mul_le_mul_left _ om
  omega
end
def dH (A:Option Addr) (c:Nat):Nat→Option Addr
 |0=>A
 |k+1=>if c-k=1 then dH A c k else (dH A c k).map (·.add (1*1))
theorem Yh {w:World} {B c:Nat} {A:Option Addr} {q:List Nat} (h:Rd w B 1 A q.length (q.map aR)) (hc:q.length≤c):∀k,k≤q.length→Rd w B 1 (dH A c k) (q.length-k) ((q.drop k).map aR)
 |0,_=>h
 |k+1,hk=>by
  have h1:=Yh h hc k om
  have h2:=h1.mid (i:=1) (j:=q.length-k) (c:=c-k) om (Nat.le_refl _) om
  simp only [Nat.mul_one] at h2
  rw [←List.map_take,←List.map_drop,List.take_of_length_le (by rw [List.length_drop];omega),List.drop_drop] at h2
  rw [show q.length- (k+1)=q.length-k-1 by omega]
  exact h2
theorem zd7 {w:World} {B c k gS oS:Nat} {A:Option Addr} {q:List Nat} (h:Rd w B 1 A q.length (q.map aR)) (hc:q.length≤c) (hk:k<q.length) (hA:dH A c k=some ⟨gS,oS,none⟩):w.cell? ⟨gS,oS,none⟩=some (.int .u64 (q.getD k 0:Int)):=by
 have h1:=Yh h hc k om
 rw [hA] at h1
 have h2:=h1.SC (k:=0) (E5 (F:=aR) (x:=q.getD k 0) (by rw [List.getElem?_drop,List.getD_eq_getElem?_getD,Nat.add_zero,List.getElem?_eq_getElem hk];rfl))
 rwa [Nat.zero_mul,Nat.add_zero] at h2
theorem TV (x:Nat):aV x=((x:Int)+9223372036854775808)%18446744073709551616-9223372036854775808:=by unfold aV;rw [Go.IntKind.wrap_i64]
theorem LM {x:Nat} (h:x<18446744073709551616):ay (aV x)=x:=by rw [TV];unfold ay;omega
theorem zbn {x:Nat} (h:x<18446744073709551616) (h0:0≤aV x):aV x=x:=by rw [TV] at*;omega
theorem Yi {x:Nat} (h:x≤4611686018427387904):aV x=x:=by rw [TV];omega
theorem qu7 {a:Int} {x:Nat} (h:x<18446744073709551616):ay (Go.IntKind.i64.wrap (a+aV x)-a)=x:=by rw [Go.IntKind.wrap_i64,TV];unfold ay;omega
def Pr.pE (p:Pr):Nat→Int
 |0=>0
 |i+1=>Go.IntKind.i64.wrap (p.pE i+aV (p.tn i 0))
def Pr.oJ (p:Pr) (i:Nat):Tk:=⟨p.pE (i+1),aV (p.tn i 1),aV (p.tn i 2),aV (p.tn i 3),p.tn i 4,decide (0<p.tn i 5),p.tn i 6,p.tn i 7%4294967296⟩
def Pr.jZ (p:Pr):bH:=⟨aV p.nx,⟨(p.cp:Int),p.cr,none,0,bK p.gp p.gG,none,0,p.cl.map aV,none,0,p.cu.map aV,none,0,bK p.tk p.oJ,none,0,bK p.gp fun g=>⟨none,0,p.row g⟩⟩⟩
theorem q84 (p:Pr) (i:Nat):p.wV (i+1)=if 65535<p.mJ i then 65535 else p.mJ i:=rfl
theorem OQ {p:Pr}:∀i,(∀j,j<i→p.mJ j≤65535)→p.wV i=p.pE i
 |0,_=>rfl
 |i+1,h=>by
  have h1:=OQ i fun j hj=>h j om
  have h2:=h i om
  rw [q84,if_neg om]
  unfold Pr.mJ
  rw [h1]
  rfl
theorem OT {p:Pr}:∀i,(∀j,j<i→p.pE (j+1)≤65535)→p.wV i=p.pE i
 |0,_=>rfl
 |i+1,h=>by
  have h1:=OT i fun j hj=>h j om
  have h2:=h i om
  have h3:p.mJ i=p.pE (i+1):=by unfold Pr.mJ;rw [h1];rfl
  rw [q84,if_neg om,h3]
theorem FP {p:Pr} {i:Nat} (h:p.wV i=p.pE i):p.mJ i=p.pE (i+1):=by unfold Pr.mJ;rw [h];rfl
theorem Yj {α:Type} (l:List α) (o:Nat→Nat) (h0:o 0=0) (ho:∀i,o i≤o (i+1)):∀k,(eG k fun i=>(l.drop (o i)).take (o (i+1)-o i))=l.take (o k)
 |0=>by rw [qc2,h0,List.take_zero]
 |k+1=>by
  rw [qr,Yj l o h0 ho k,←List.take_add]
  congr 1
  have:=ho k
  omega
theorem zbo (l:List Nat):∀(m a:Nat),a+m≤l.length→(l.drop a).take m=(List.range m).map fun j=>l.getD (a+j) 0:=by intro x;induction x<;>grind [List.getElem?_eq_getElem,List.range_succ,List.take_add_one]
theorem yZ {α:Type} {f g:Nat→List α} {k:Nat} (h:∀i,i<k→f i=g i):eG k f=eG k g:=TL k h
theorem TW {l:List Nat} {m k:Nat} (h:l.length=m*k):l=eG k fun i=>(List.range m).map fun j=>l.getD (m*i+j) 0:=by
 have h1:=Yj l (fun i=>m*i) rfl (fun i=>by show m*i≤m*(i+1);rw [Nat.mul_succ];omega) k
 rw [List.take_of_length_le (show l.length≤m*k by omega)] at h1
 refine h1.symm.trans (yZ fun i hi=>?_)
 show (l.drop (m*i)).take (m*(i+1)-m*i)=_
 have h2:m*(i+1)≤m*k:=Nat.mul_le_mul_left _ hi
 grind [zbo]
theorem TY {α:Type} {f g:Nat→List α}:∀k,(∀i,i<k→(f i).length=(g i).length)→eG k f=eG k g→∀i,i<k→f i=g i:=by intro x;induction x<;>grind [eG,qr,List.append_inj,List.length,List.length_append,Nat.lt_or_ge]
theorem LP {α:Type} {f g:Nat→List α}:∀k,(∀i,i<k→(f i).length=(g i).length)→(eG k f).length=(eG k g).length
 |0,_=>rfl
 |k+1,h=>by rw [qr,qr,List.length_append,List.length_append,LP k (fun i hi=>h i om),h k om]
def Pr.sec (p:Pr):Nat→List Nat
 |0=>[p.nx]
 |1=>[p.cp,p.cr,p.gp]
 |2=>p.gs
 |3=>p.cl
 |4=>p.cu
 |5=>p.tk::p.ts
 |6=>p.sp
 |_=>[]
theorem qu8 (p:Pr):p.nums=eG 7 p.sec:=by simp_all [Pr.nums,Pr.sec,qr,qc2]
structure Pr.Low (p:Pr):Prop where
 t5:∀i,i<p.tk→p.tn i 5≤1
 t7:∀i,i<p.tk→p.tn i 7≤4294967295
 s1:∀g,g<p.gp→0<g→∀c,c<p.cp→p.sn g c 1≤4294967295
section
variable {p:Pr}
theorem zd8 (x:Nat) (h:x∈p.gs):x∈p.nums:=by simp [Pr.nums,h]
theorem q85 (x:Nat) (h:x∈p.cl):x∈p.nums:=by simp [Pr.nums,h]
theorem q86 (x:Nat) (h:x∈p.cu):x∈p.nums:=by simp [Pr.nums,h]
theorem zd9 (x:Nat) (h:x∈p.ts):x∈p.nums:=by simp [Pr.nums,h]
theorem zea (x:Nat) (h:x∈p.sp):x∈p.nums:=by simp [Pr.nums,h]
theorem OU {l:List Nat} {n:Nat} (h:∀x∈l,x<n) (hn:0<n) (k:Nat):l.getD k 0<n:=by grind [List.getElem?_eq_getElem,List.getElem?_eq_none,List.getElem_mem,Nat.lt_or_ge]
variable (h:p.Fit)
include h
theorem Ap (k:Nat):p.gs.getD k 0<18446744073709551616:=OU (fun x hx=>h.lt x (zd8 x hx)) de k
theorem OV (k:Nat):p.cl.getD k 0<18446744073709551616:=OU (fun x hx=>h.lt x (q85 x hx)) de k
theorem FQ (k:Nat):p.cu.getD k 0<18446744073709551616:=OU (fun x hx=>h.lt x (q86 x hx)) de k
theorem iO (i j:Nat):p.tn i j<18446744073709551616:=OU (fun x hx=>h.lt x (zd9 x hx)) de _
theorem Aw (g c j:Nat):p.sn g c j<18446744073709551616:=OU (fun x hx=>h.lt x (zea x hx)) de _
theorem FR:p.nx<18446744073709551616:=h.lt _ (by simp [Pr.nums])
theorem Ay:p.cr<18446744073709551616:=h.lt _ (by simp [Pr.nums])
theorem q63:p.gs=eG (p.gp-1) fun i=>[p.gs.getD (2*i) 0,p.gs.getD (2*i+1) 0]:=TW h.gs
theorem Yk:p.ts=eG p.tk fun i=>[p.tn i 0,p.tn i 1,p.tn i 2,p.tn i 3,p.tn i 4,p.tn i 5,p.tn i 6,p.tn i 7]:=TW h.ts
theorem zeb {g:Nat} (hg:g<p.gp):(p.sp.drop (p.so g 0)).take (p.so (g+1) 0-p.so g 0)=eG p.cp fun c=>if g=0 then [p.sn g c 0] else [p.sn g c 0,p.sn g c 1,p.sn g c 2]:=by
 have hs:=h.sp
 rcases Nat.eq_zero_or_pos g with h0|h0
 ·subst h0
  have e1:p.so (0+1) 0=p.cp:=by rw [TU,D7]
  rw [e1,D7,Nat.sub_zero,List.drop_zero]
  have hl:(p.sp.take p.cp).length=1*p.cp:=by rw [List.length_take];omega
  refine (TW hl).trans (yZ fun c hc=>?_)
  rw [if_pos rfl]
  show [(p.sp.take p.cp).getD (1*c+0) 0]=[p.sp.getD (p.so 0 c+0) 0]
  rw [D7,List.getD_eq_getElem?_getD,List.getD_eq_getElem?_getD,List.getElem?_take_of_lt om,Nat.one_mul]
 ·have e1:p.so (g+1) 0=p.so g 0+3*p.cp:=by rw [TU,yh h0,yh h0,Nat.mul_zero,Nat.add_zero]
  have hin:p.so g 0+3*p.cp≤p.sp.length:=by
   rw [yh h0,hs]
   have:3*p.cp*(g-1)+3*p.cp≤3*p.cp*(p.gp-1):=by
    rw [←Nat.mul_succ]
    exact Nat.mul_le_mul_left _ om
   omega
  rw [e1,Nat.add_sub_cancel_left]
  have hl:((p.sp.drop (p.so g 0)).take (3*p.cp)).length=3*p.cp:=by rw [List.length_take,List.length_drop];omega
  refine (TW hl).trans (yZ fun c hc=>?_)
  rw [if_neg om]
  have e2:∀j,j<3→((p.sp.drop (p.so g 0)).take (3*p.cp)).getD (3*c+j) 0=p.sn g c j:=fun j hj=>by
   unfold Pr.sn
   rw [List.getD_eq_getElem?_getD,List.getD_eq_getElem?_getD,List.getElem?_take_of_lt om,List.getElem?_drop,yh h0,yh h0]
   congr 2
   omega
  show [((p.sp.drop (p.so g 0)).take (3*p.cp)).getD (3*c+0) 0,((p.sp.drop (p.so g 0)).take (3*p.cp)).getD (3*c+1) 0,((p.sp.drop (p.so g 0)).take (3*p.cp)).getD (3*c+2) 0]=_
  rw [e2 0 om,e2 1 om,e2 2 om]
theorem Ym:p.sp=eG p.gp fun g=>eG p.cp fun c=>if g=0 then [p.sn g c 0] else [p.sn g c 0,p.sn g c 1,p.sn g c 2]:=by
 have h1:=Yj p.sp (fun g=>p.so g 0) (D7 p 0) (fun g=>by
  show p.so g 0≤p.so (g+1) 0
  rw [TU]
  rcases Nat.eq_zero_or_pos g with h0|h0
  ·subst h0;rw [D7];omega
  ·rw [yh h0,yh h0];omega) p.gp
 have h2:p.so p.gp 0=p.sp.length:=by rw [yh h.gp1,h.sp];omega
 rw [h2,List.take_length] at h1
 exact h1.symm.trans (yZ fun g hg=>zeb h hg)
end
theorem OW (p:Pr) {i:Nat} (hi:i≤p.tk):qh (bK p.tk p.oJ) i=p.pE i:=by
 cases i with
 |zero=>rfl
 |succ i=>rw [zt,IJ om];rfl
theorem D8 {p:Pr} (h:p.Fit):(∀i,i<7→(aK p.jZ i).length=(p.sec i).length)∧((∀i,i<7→aK p.jZ i=p.sec i)↔p.Low):=by
 have hG:aK p.jZ 2=p.gs:=by
  show eG ((bK p.gp p.gG).length-1) (yT (bK p.gp p.gG))=p.gs
  grind [Pr.gG,yT,Ap,q63,IJ,vL,LM,yZ]
 have hm:∀l:List Nat,(∀x∈l,x<18446744073709551616)→(l.map aV).map ay=l:=fun l hl=>by
  rw [List.map_map]
  exact (List.map_congr_left fun x hx=>LM (hl x hx)).trans (List.map_id l)
 have hT:aK p.jZ 5=p.tk::eG p.tk fun i=>[p.tn i 0,p.tn i 1,p.tn i 2,p.tn i 3,p.tn i 4,if decide (0<p.tn i 5)=true then 1 else 0,p.tn i 6,p.tn i 7%4294967296]:=by
  show ((bK p.tk p.oJ).length::eG (bK p.tk p.oJ).length fun i=>sD (qh (bK p.tk p.oJ) i) ((bK p.tk p.oJ).getD i Tk.zero))=_
  rw [vL]
  congr 1
  refine yZ fun i hi=>?_
  rw [OW p om,IJ hi]
  show [ay (Go.IntKind.i64.wrap (p.pE i+aV (p.tn i 0))-p.pE i),ay (aV (p.tn i 1)),ay (aV (p.tn i 2)),ay (aV (p.tn i 3)),_,_,_,_]=_
  rw [qu7 (iO h i 0),LM (iO h i 1),LM (iO h i 2),LM (iO h i 3)]
  rfl
 have hS:aK p.jZ 6=eG p.gp fun g=>eG p.cp fun c=>if g=0 then [p.sn g c 0] else [p.sn g c 0,p.sn g c 1%4294967296,p.sn g c 2]:=by
  show (eG (bK p.gp fun g=>(⟨none,0,p.row g⟩:Rw)).length fun g=>zV g ((bK p.gp fun g=>(⟨none,0,p.row g⟩:Rw)).getD g Rw.zero).l)=_
  rw [vL]
  refine yZ fun g hg=>?_
  rw [IJ hg]
  show eG (p.row g).length (fun c=>yU g ((p.row g).getD c Sp.zero))=_
  grind [Pr.row,Pr.vM,IJ,vL,Xv,Xw,yZ]
 have h0:aK p.jZ 0=p.sec 0:=by show [ay (aV p.nx)]=[p.nx];rw [LM (FR h)]
 have h1:aK p.jZ 1=p.sec 1:=by
  show [ay (p.cp:Int),p.cr,(bK p.gp p.gG).length]=[p.cp,p.cr,p.gp]
  have:=h.cp2
  rw [vL,q1c om]
 have h3:aK p.jZ 3=p.sec 3:=hm p.cl fun x hx=>h.lt x (q85 x hx)
 have h4:aK p.jZ 4=p.sec 4:=hm p.cu fun x hx=>h.lt x (q86 x hx)
 constructor
 ·intro i hi
  match i,hi with
  |0,_=>rw [h0]
  |1,_=>rw [h1]
  |2,_=>rw [hG];rfl
  |3,_=>rw [h3]
  |4,_=>rw [h4]
  |5,_=>
   rw [hT]
   refine congrArg (· +1) (Eq.trans ?_ (congrArg List.length (Yk h).symm))
   exact LP p.tk fun i _=>rfl
  |6,_=>
   rw [hS]
   refine Eq.trans ?_ (congrArg List.length (Ym h).symm)
   exact LP p.gp fun g _=>LP p.cp fun c _=>by split<;>rfl
 ·constructor
  ·intro hh
   have e5:=hh 5 om
   have e6:=hh 6 om
   rw [hT] at e5
   rw [hS] at e6
   replace e5:=(List.cons.inj e5).2
   rw [Yk h] at e5
   replace e6:_=p.sp:=e6
   rw [Ym h] at e6
   have f5:=TY p.tk (fun i _=>by rfl) e5
   have f6:=TY p.gp (fun g _=>LP p.cp fun c _=>by split<;>rfl) e6
   refine ⟨fun i hi=>?_,fun i hi=>?_,fun g hg g0 c hc=>?_⟩
   ·grind
   ·grind
   ·grind [TY]
  ·intro hl i hi
   match i,hi with
   |0,_=>exact h0
   |1,_=>exact h1
   |2,_=>exact hG
   |3,_=>exact h3
   |4,_=>exact h4
   |5,_=>
    rw [hT]
    show _=p.tk::p.ts
    congr 1
    refine Eq.trans (yZ fun i hi=>?_) (Yk h).symm
    have g5:=hl.t5 i hi
    have g7:=hl.t7 i hi
    grind
   | 6, _ =>
    rw [hS]
    refine Eq.trans (yZ fun g hg=>yZ fun c hc=>?_) (Ym h).symm
    rcases Nat.eq_zero_or_pos g with g0|g0
    ·rw [if_pos g0,if_pos g0]
    ·have:=hl.s1 g hg g0 c hc
     grind
theorem FT {p:Pr} (h:p.Fit):iN p.jZ=p.nums↔p.Low:=by
 rw [qu8]
 exact ⟨fun e=>(D8 h).2.1 (TY 7 (D8 h).1 e),fun e=>yZ ((D8 h).2.2 e)⟩
theorem sG {x m:Nat} (h:x≤m):dle x m=true:=decide_eq_true h
theorem q87 {x m:Nat} (h:dle x m=true):x≤m:=of_decide_eq_true h
section
variable {p:Pr}
theorem zec {b:Bool} {g:Nat}:∀k,p.nD b g k=true→b=true∧(0<g→∀c,c<k→p.sn g c 1≤4294967295):=by intro x;induction x<;>grind [Pr.nD,q87]
theorem q88:∀k,p.oI k=true→p.jL p.tk=true∧∀g,g<k→0<g→∀c,c<p.cp→p.sn g c 1≤4294967295
 |0,h=>⟨h,fun g hg=>by omega⟩
 |k+1,h=>by
  obtain ⟨h1,h2⟩:=zec p.cp h
  obtain ⟨h3,h4⟩:=q88 k h1
  grind
theorem zed:∀k,p.jL k=true→∀i,i<k→p.tn i 5≤1∧p.tn i 7≤4294967295∧p.mJ i≤65535:=by intro x;induction x<;>grind [Pr.jL,q87]
theorem q18 (h:p.okB=true):p.Low∧∀i,i<p.tk→p.mJ i≤65535:=by
 obtain ⟨h1,h2⟩:=q88 p.gp h
 have h3:=zed p.tk h1
 exact ⟨⟨fun i hi=>(h3 i hi).1,fun i hi=>(h3 i hi).2.1,h2⟩,fun i hi=>(h3 i hi).2.2⟩
theorem FU (h:p.Low) (h2:∀i,i≤p.tk→p.wV i=p.pE i):p.uN=p.jZ:=by
 have e:bK p.tk p.yg=bK p.tk p.oJ:=by
  unfold bK
  refine List.map_congr_left fun i hi=>?_
  rw [List.mem_range] at hi
  unfold Pr.yg Pr.oJ
  rw [FP (h2 i om),show decide (p.tn i 5=1)=decide (0<p.tn i 5) from decide_eq_decide.2 (by have:=h.t5 i hi;omega)]
 unfold Pr.uN Pr.jZ
 rw [e]
end
section
variable {p:Pr} (h:p.Fit)
include h
theorem q89 (hn:p.nx≤aC):p.ok0=true:=by
 unfold Pr.ok0
 have h1:=h.cp2
 have h2:=h.OO
 have h3:=Ay h
 unfold aC at*
 rw [sG hn,sG (show p.cp≤4611686018427387904 by omega),sG (show p.cr≤18446744073709551615 by omega),sG (show p.gp≤4611686018427387904 by omega)]
 rfl
theorem q9a (hn:p.nx≤aC) (hg:∀i,i<2*(p.gp-1)→p.gs.getD i 0≤aC):∀k,k≤p.gp→p.sF k=true
 |0,_=>q89 h hn
 | k + 1, hk => by
  rw [Pr.sF]
  split
  ·exact q89 h hn
  ·rw [q9a hn hg k om,sG (hg _ om),sG (hg _ om)]
   rfl
end
section
variable {p:Pr}
theorem zee (h0:p.sF p.gp=true) (hc:∀i,i<p.cp→p.cl.getD i 0≤aC):∀k,k≤p.cp→p.D6 k=true:=by intro x;induction x<;>grind [Pr.D6,sG]
theorem zef (h0:p.D6 p.cp=true) (hc:∀i,i<p.cp→p.cu.getD i 0≤aC):∀k,k≤p.cp→p.Am k=true:=by intro x;induction x<;>grind [Pr.Am,sG]
theorem q9b (h:p.Fit) (h0:p.Am p.cp=true) (hl:p.Low) (ht:∀i,i<p.tk→p.tn i 0≤aC∧p.tn i 1≤aC∧p.tn i 2≤aC∧p.tn i 3≤aC) (hi:∀i,i<p.tk→p.mJ i≤65535):∀k,k≤p.tk→p.jL k=true
 |0,_=>by
  rw [Pr.jL,h0,sG (by have:=h.tk;unfold aC;omega)];rfl
 |k+1,hk=>by
  obtain ⟨t0,t1,t2,t3⟩:=ht k om
  have t4:=iO h k 4
  have t6:=iO h k 6
  rw [Pr.jL,q9b h h0 hl ht hi k om,sG t0,sG t1,sG t2,sG t3,sG (show p.tn k 4≤18446744073709551615 by omega),sG (hl.t5 k om),sG (show p.tn k 6≤18446744073709551615 by omega),sG (hl.t7 k om),decide_eq_true (hi k om)]
  rfl
theorem zeg (h:p.Fit) {b:Bool} (hb:b=true) {g:Nat} (hg:0<g→∀c,c<p.cp→p.sn g c 1≤4294967295):∀k,k≤p.cp→p.nD b g k=true:=by intro x;induction x<;>grind [Pr.nD,sG,Aw]
theorem q9c (h:p.Fit) (h0:p.jL p.tk=true) (hl:p.Low):∀k,k≤p.gp→p.oI k=true
 |0,_=>h0
 |k+1,hk=>zeg h (q9c h h0 hl k om) (fun g0 c hc=>hl.s1 k om g0 c hc) p.cp (Nat.le_refl _)
end
theorem Yn (x:Int):bP (Go.IntKind.i64.wrap x):=by rw [Go.IntKind.wrap_i64];unfold bP;omega
theorem D9 (x:Nat):bP (aV x):=Yn _
theorem LQ {α:Type} {n:Nat} {f:Nat→α} {q:α→Prop} (h:∀i,i<n→q (f i)):∀x∈bK n f,q x:=by
 intro x hx
 obtain ⟨i,hi,rfl⟩:=List.mem_map.1 hx
 exact h i (List.mem_range.1 hi)
section
variable {p:Pr} (h:p.Fit)
include h
theorem q9d (g:Nat):(p.gG g).Ok:=by
 unfold Pr.gG
 split
 ·exact ⟨by unfold bP;decide,by unfold bP;decide⟩
 ·exact ⟨D9 _,D9 _⟩
theorem zeh (g c:Nat):(p.vM g c).Ok:=by
 have t0:=Aw h g c 0
 have t2:=Aw h g c 2
 unfold Pr.vM
 split
 ·exact ⟨show 0<18446744073709551616 by decide,show 0<4294967296 by decide,t0⟩
 ·exact ⟨t0,Nat.mod_lt _ de,t2⟩
theorem FV:bP (p.cp:Int):=by have:=h.cp2;unfold bP;omega
theorem T9 (l:List Nat):∀x∈l.map aV,bP x:=by
 intro x hx
 obtain ⟨y,_,rfl⟩:=List.mem_map.1 hx
 exact D9 y
theorem rows_ok:∀l∈(bK p.gp fun g=>(⟨none,0,p.row g⟩:Rw)).map Rw.l,∀x∈l,Sp.Ok x:=by
 intro l hl
 obtain ⟨y,hy,rfl⟩:=List.mem_map.1 hl
 obtain ⟨g,_,rfl⟩:=List.mem_map.1 hy
 exact LQ fun c _=>zeh h g c
theorem zbp (i:Nat):(p.yg i).Ok:=⟨Yn _,D9 _,D9 _,D9 _,iO h i 4,iO h i 6,Nat.mod_lt _ de⟩
theorem zbq (i:Nat):(p.oJ i).Ok:=⟨Yn _,D9 _,D9 _,D9 _,iO h i 4,iO h i 6,Nat.mod_lt _ de⟩
theorem q9e:p.uN.st.aD.Ok:=⟨FV h,Ay h,LQ fun g _=>q9d h g,T9 h _,T9 h _,LQ fun i _=>zbp h i,rows_ok h⟩
theorem zei:p.jZ.st.aD.Ok:=⟨FV h,Ay h,LQ fun g _=>q9d h g,T9 h _,T9 h _,LQ fun i _=>zbq h i,rows_ok h⟩
theorem Ua {l:List Nat} {n:Nat} (hl:l.length=n) (hn:n≤1000000):(l.map aV).length≤1000000:=by rw [List.length_map];omega
theorem qu9:∀y∈bK p.gp fun g=>(⟨none,0,p.row g⟩:Rw),y.l.length≤1000000:=LQ fun g _=>by
 have:=h.cp2
 show (p.row g).length≤1000000
 unfold Pr.row
 rw [vL]
 omega
theorem Yo (s:bH) (hs:s=p.uN∨s=p.jZ):aX s.st:=by
 have h1:=h.cp2
 have h2:=h.OO
 have h3:=h.tk
 rcases hs with rfl|rfl
 ·exact ⟨by show (bK _ _).length≤_;rw [vL];omega,Ua h h.cl om,Ua h h.cu om,by show (bK _ _).length≤_;rw [vL];omega,by show (bK _ _).length≤_;rw [vL];omega,qu9 h⟩
 ·exact ⟨by show (bK _ _).length≤_;rw [vL];omega,Ua h h.cl om,Ua h h.cu om,by show (bK _ _).length≤_;rw [vL];omega,by show (bK _ _).length≤_;rw [vL];omega,qu9 h⟩
end
theorem q2a {p:Pr} (h:p.Fit) (hk:bJ p.jZ=0) (hl:p.Low):p.okB=true∧p.uN=p.jZ:=by
 have hn:=(N8 hk).1
 have hr:=(N8 hk).2
 have hsh:=IC hk
 have e:aC=4611686018427387904:=rfl
 have big:∀{x:Nat} {n:Int},x<18446744073709551616→0≤aV x→aV x≤n→n≤4611686018427387904→x≤aC:=fun {x n} h1 h2 h3 h4=>by
  rw [zbn h1 h2] at h3;omega
 have hgl:p.jZ.st.gs.length=p.gp:=vL _ _
 have htl:p.jZ.st.ts.length=p.tk:=vL _ _
 have hrl:p.jZ.st.rs.length=p.gp:=vL _ _
 have hgd:∀g,g<p.gp→p.jZ.st.gs.getD g Gr.zero=p.gG g:=fun g hg=>IJ hg
 have htd:∀i,i<p.tk→p.jZ.st.ts.getD i Tk.zero=p.oJ i:=fun i hi=>IJ hi
 obtain ⟨hc1,hc2,_,hgs⟩:=yS hsh.cfg
 have hnx:p.nx≤aC:=big (FR h) (by have:=hn.1;show (0:Int)≤p.jZ.next;omega) hn.2 om
 have hG:∀i,i<2*(p.gp-1)→p.gs.getD i 0≤aC:=fun i hi=>by
  have hg:i/2+1<p.gp:=by omega
  have h1:=(Ll hgs).2.2.2 (i/2+1) om
  have h2:=Tj h1 om
  have h3:=zR hgs (g:=i/2+1) om
  unfold gK at h2
  rw [hgd _ hg] at h2 h3
  unfold Pr.gG at h2 h3
  rw [if_neg om] at h2 h3
  rw [Nat.add_sub_cancel] at h2 h3
  dsimp only at h2 h3
  rcases Nat.mod_two_eq_zero_or_one i with h4|h4
  ·rw [show i=2*(i/2) by omega]
   exact big (n:=256) (Ap h _) h2.1 (by have:=h2.2;have:=h.OO;show aV _≤256;omega) om
  ·rw [show i=2*(i/2)+1 by omega]
   exact big (Ap h _) (by have:=h3.1;show 0≤aV _;omega) h3.2 om
 have hmap:∀(l:List Nat) (k:Nat),k<l.length→(l.map aV).getD k 0=aV (l.getD k 0):=fun l k hk=>by
  grind
 have hC:∀i,i<p.cp→p.cl.getD i 0≤aC:=fun i hi=>by
  have hcl:=h.cl
  have h1:=hsh.cls i (by show i<(p.cl.map aV).length;rw [List.length_map];omega)
  rw [show p.jZ.st.cl.getD i 0=aV (p.cl.getD i 0) from hmap p.cl i om] at h1
  unfold gL at h1
  rw [decide_eq_true_eq] at h1
  exact big (OV h _) h1.1 h1.2 om
 have htk:∀i,i<p.tk→_:=fun i hi=>Tt (hsh.tk i om)
 have hT:∀i,i<p.tk→(1≤p.pE (i+1)∧p.pE (i+1)≤65535)∧p.tn i 1≤aC∧p.tn i 2≤aC∧p.tn i 3≤aC:=fun i hi=>by
  have h1:=(htk i hi).2
  rw [htd i hi] at h1
  unfold dF FB at h1
  simp only [Bool.and_eq_true,decide_eq_true_eq] at h1
  obtain ⟨⟨a1,a2,a3,a4,a5,a6⟩,⟨b1,b2⟩,_⟩:=h1
  rw [rO,hrl] at a4
  have:=h.OO
  have:=h.cp2
  refine ⟨⟨a1,a2⟩,big (n:=256) (iO h i 1) a3 (by show aV _≤256;have a4:aV (p.tn i 1)<p.gp:=a4;omega) om,big (iO h i 2) (by have b1:1≤aV (p.tn i 2):=b1;omega) b2 om,big (n:=64) (iO h i 3) a5 (by have a6:aV (p.tn i 3)<(p.cp:Int):=a6;omega) om⟩
 have hI:∀i,i≤p.tk→p.wV i=p.pE i:=fun i hi=>OT i fun j hj=>(hT j om).1.2
 have hA:∀i,i<p.tk→p.mJ i≤65535:=fun i hi=>by rw [FP (hI i om)];exact (hT i hi).1.2
 have h0:∀i,i<p.tk→p.tn i 0≤aC:=fun i hi=>by
  have h1:=(htk i hi).1
  have h2:0≤p.pE i∧p.pE i<p.pE (i+1):=by
   rcases i with _|i
   ·have:=(hT 0 hi).1.1
    exact ⟨Int.le_refl _,by show (0:Int)<_;omega⟩
   ·have h3:=(hT i om).1.1
    rw [Nat.add_sub_cancel,htd i om,htd (i+1) hi] at h1
    rcases h1 with h1|h1
    ·omega
    ·exact ⟨by omega,h1⟩
  have h3:=qu7 (a:=p.pE i) (iO h i 0)
  have h4:Go.IntKind.i64.wrap (p.pE i+aV (p.tn i 0))=p.pE (i+1):=rfl
  grind [ay]
 have hU:∀i,i<p.cp→p.cu.getD i 0≤aC:=fun i hi=>by
  have IB:=h.cu
  have hcl:i<p.jZ.st.cu.length:=by show i<(p.cu.map aV).length;rw [List.length_map];omega
  unfold sV at hr
  rw [Bool.and_eq_true] at hr
  have h1:=DR hr.2 (i:=i) hcl
  rw [Bool.and_eq_true] at h1
  have h2:=h1.1
  unfold eP at h2
  have hz:p.jZ.st.aD.cu.getD i 0=aV (p.cu.getD i 0):=hmap p.cu i om
  rw [hz] at h2
  rw [Bool.or_eq_true,decide_eq_true_eq] at h2
  rcases h2 with h2|h2
  ·exact big (FQ h _) om (Int.le_of_eq h2) om
  ·split at h2
   ·rename_i j hj
    obtain ⟨h3,h4⟩:=q07 hj
    have h3:j<p.tk:=by have:j<p.jZ.st.ts.length:=h3;omega
    rw [show p.jZ.st.aD.ts.getD j Tk.zero=p.oJ j from htd j h3] at h4
    have h5:=(hT j h3).1
    have h4:p.pE (j+1)=aV (p.cu.getD i 0):=h4
    exact big (n:=65535) (FQ h _) om om om
   ·cases h2
 refine ⟨q9c h (q9b h (zef (zee (q9a h hnx hG p.gp (Nat.le_refl _)) hC p.cp (Nat.le_refl _)) hU p.cp (Nat.le_refl _)) hl (fun i hi=>⟨h0 i hi,(hT i hi).2⟩) hA p.tk (Nat.le_refl _)) hl p.gp (Nat.le_refl _),FU hl hI⟩
theorem q2b {p:Pr} (hb:p.okB=true):p.uN=p.jZ:=by grind [OQ,q18,FU]
theorem q64 {xs ys:List Nat} (hx:∀x∈xs,x<18446744073709551616) (hy:∀x∈ys,x<18446744073709551616) (hl:xs.length=ys.length) (h:xs.flatMap aj=ys.flatMap aj):xs=ys:=by
 have h1:=qo4 xs [] hx
 grind [qo4]
theorem Yp {l:List Nat} {p:Pr} (hl:∀z∈l,z<256) (h:fu l= .ok p):15≤l.length∧l.length≤16777216∧p.Fit∧l=bF ([113,115,1]++p.nums.flatMap aj):=by
 unfold fu at h
 split at h
 ·cases h
 rename_i h1
 split at h
 ·cases h
 rename_i h2
 split at h
 ·cases h
 rename_i h3
 split at h
 ·cases h
 rename_i h4
 split at h
 ·cases h
 rename_i h5
 have h4:l.getD 0 0=113∧l.getD 1 0=115:=Decidable.of_not_not h4
 have h5:l.getD 2 0=1:=Decidable.of_not_not h5
 have hs:zq l=true:=by cases hq:zq l with|true=>rfl|false=>exact absurd hq h3
 have hlen:(l.take (l.length-4)).length=l.length-4:=by rw [List.length_take];omega
 obtain ⟨hf,hd⟩:=zbj om (fun z hz=>hl z (List.mem_of_mem_take hz)) h
 refine ⟨by omega,by omega,hf,?_⟩
 rw [←hd]
 have e:([113,115,1]:List Nat)=(l.take (l.length-4)).take 3:=by
  rw [List.take_take,show min 3 (l.length-4)=3 by omega]
  match l,h1,h4,h5 with
  |a::b::c::r,_,h4,h5=>
   grind
  |[],h1,_,_=>exact absurd de h1
  |[_],h1,_,_=>exact absurd (by simp) h1
  |[_,_],h1,_,_=>exact absurd (by simp) h1
 rw [e,List.take_append_drop,qzn hl hs]
theorem q65 {a b:List Nat} (h:bF a=bF b):a=b:=by
 have h1:=congrArg List.length h
 rw [Fe,Fe] at h1
 exact (List.append_inj h om).1
theorem q2c {l:List Nat} {p:Pr} (hl:∀z∈l,z<256) (h:fu l= .ok p):(p.okB=true∧bJ p.uN=0)↔(bJ p.jZ=0∧bT p.jZ=l):=by
 obtain ⟨_,_,hf,he⟩:=Yp hl h
 constructor
 ·grind [dN,FT,q18,q2b,LB]
 ·rintro ⟨h1,h2⟩
  rw [LB h1] at h2
  have h3:=q65 (h2.trans he)
  unfold dN at h3
  have h4:=q64 (XP (zei hf) (Yo hf _ (.inr rfl))) hf.lt (by rw [qu8];exact LP 7 (D8 hf).1) (List.append_cancel_left h3)
  grind [FT,q2a]
def rU (l:List Nat):Nat:=match fu l with
 | .ok p=>if p.okB=true∧bJ p.uN=0 then 0 else 347
 | .error k=>k
def Az:bH:=⟨0,⟨0,0,none,0,[],none,0,[],none,0,[],none,0,[],none,0,[]⟩⟩
def nE (l:List Nat):bH:=match fu l with
 | .ok p=>if p.okB=true∧bJ p.uN=0 then p.uN else Az
 | .error _=>Az
section
variable {l:List Nat} {p:Pr} {k:Nat}
theorem AA (h:fu l= .error k):rU l=k∧nE l=Az:=by unfold rU nE;rw [h];exact ⟨rfl,rfl⟩
theorem Ub (h:fu l= .ok p) (h2:¬(p.okB=true∧bJ p.uN=0)):rU l=347∧nE l=Az:=by unfold rU nE;rw [h];exact ⟨if_neg h2,if_neg h2⟩
theorem Yq (h:fu l= .ok p) (h2:p.okB=true∧bJ p.uN=0):rU l=0∧nE l=p.uN:=by unfold rU nE;rw [h];exact ⟨if_pos h2,if_pos h2⟩
theorem zbr (hl:∀z∈l,z<256) (h:fu l= .ok p) (h2:bJ p.jZ=0∧bT p.jZ=l):rU l=0∧nE l=p.jZ:=by
 have h3:=(q2c hl h).2 h2
 rw [←q2b h3.1]
 exact Yq h h3
end
section
variable {a b:List Nat} {p q:Pr} {k:Nat} {X Y:List jA} {i:Nat}
end
theorem Mem.IK {W w:World} (h:Mem W w []):Mem W w (kE Az.st):=((((h.nil 176 1).nil 232 8).nil 3 1).nil 3 1).nil 198 2
theorem qva:fK Az.st:=⟨Nat.le_refl _,Nat.le_refl _,Nat.le_refl _,Nat.le_refl _,Nat.le_refl _,fun y hy=>by cases hy⟩
theorem qqc (s:bH):bM s s:=qH rfl (qw9 _)
def Uc (w:World) (er:Nat) (s:bH) (r:Ending) (w':World):Prop:=∃z:bH,r= .returned (.tuple #[.agg z.cells,.int .i64 (er:Int)])∧bM s z∧fK z.st∧Mem w w' (kE z.st)
theorem Yr {w w':World} {er k:Nat} {s:bH} {r:Ending} (h:er=k∧s=Az) (hr:r= .returned (.tuple #[.agg Az.cells,.int .i64 (k:Int)])) (E:Mem w w' []):Uc w er s r w':=by
 obtain ⟨rfl,rfl⟩:=h
 exact ⟨Az,hr,qqc _,qva,E.IK⟩
theorem q2e {w w':World} {er:Nat} {s t z:bH} {r:Ending} (h:er=0∧s=t) (hr:r= .returned (.tuple #[.agg z.cells,.int .i64 0])) (hz:bM t z) (hc:fK z.st) (E:Mem w w' (kE z.st)):Uc w er s r w':=by
 obtain ⟨rfl,rfl⟩:=h
 exact ⟨z,hr,hz,hc,E⟩
theorem Yt {s z:bH} (h:bM s z) (hok:s.st.aD.Ok):z.st.aD.Ok:=by rw [q82 (CX h)];exact hok
structure Pl where
 nx:Nat
 sn:Nat
 st:Nat
 en:Nat
deriving DecidableEq
def Pl.zero:Pl:=⟨0,0,0,0⟩
def Pl.cells (p:Pl):Array Value:= #[.int .i64 (p.nx:Int),.int .i64 (p.sn:Int),.int .i64 (p.st:Int),.int .i64 (p.en:Int)]
def kX (p:Pl):List Value:=[.int .i64 (p.nx:Int),.int .i64 (p.sn:Int),.int .i64 (p.st:Int),.int .i64 (p.en:Int)]
theorem y8 (p:Pl):(kX p).length=4:=rfl
def dI (b:List Nat) (p m:Nat):Nat:=bB m (b.drop p)
def aW (b:List Nat) (p:Nat):Nat:=p+(aA (b.drop p)).2.1
def fA (b:List Nat) (p m:Nat):Bool:=jE m (b.drop p)
section
variable {b:List Nat} {p m k last sum q s a:Nat} {l:List Pl}
theorem Yu:dI b p m≤m:=qc1 _ _
theorem Yv:p≤aW b p:=Nat.le_add_right _ _
theorem AB (h:p≤b.length):aW b p≤b.length:=by grind [aW,ER]
theorem Ud (hb:∀x∈b,x<256) (hp:p≤b.length) (h:fA b p m=true):b.take (aW b p)=b.take p++aj (dI b p m):=by
 obtain ⟨h1,h2⟩:=of_decide_eq_true h
 grind [aW,dI,bB,aA,Ws]
def Ea (b:List Nat) (p:Nat):Bool:=fA b p 4611686018427387904&& (fA b (aW b p) 16777216&&fA b (aW b (aW b p)) 16777216)
def rowP (b:List Nat) (p:Nat):Nat:=aW b (aW b (aW b p))
def nR (b:List Nat) (p:Nat):Nat:=dI b p 4611686018427387904
def nS (b:List Nat) (p:Nat):Nat:=dI b (aW b p) 16777216
def pY (b:List Nat) (p:Nat):Nat:=dI b (aW b (aW b p)) 16777216
theorem zbs (h:p≤b.length):rowP b p≤b.length:=AB (AB (AB h))
def nG (b:List Nat):Nat→Nat→Nat→Nat→Option (List Pl×Nat×Nat)
 |0,p,_,sum=>some ([],p,sum)
 | k + 1, p, last, sum => if Ea b p = true ∧ last ≤ nR b p then
   (nG b k (rowP b p) (nR b p) (sum+nS b p+pY b p)).map fun r=>(⟨nR b p,sum,sum+nS b p,sum+nS b p+pY b p⟩::r.1,r.2)
  else none
def l8 (b:List Nat) (ok:Bool) (k p last sum:Nat):Option (List Pl×Nat×Nat):=if ok=true then nG b k p last sum else none
theorem q2g:l8 b false k p last sum=none:=rfl
theorem OX:l8 b true k p last sum=nG b k p last sum:=rfl
def Pl.up (a:Nat) (x:Pl):Pl:=⟨x.nx,x.sn+a,x.st+a,x.en+a⟩
def dP (b:List Nat):List Pl×Nat:=
 if 16777216<b.length then ([],3)
 else if ¬(b.take 3=[113,97,1]) then ([],410)
 else match l8 b (fA b 3 1024) (dI b 3 1024) (aW b 3) 0 0 with
  |none=>([],410)
  |some (l,p,s)=>if p+4≤b.length∧zq (b.take (p+4))=true∧p+4+s=b.length then (l.map (Pl.up (p+4)),0) else ([],410)
theorem q66 (h:16777216<b.length):dP b=([],3):=by unfold dP;rw [if_pos h]
theorem qvc (h:¬16777216<b.length) (h2:¬(b.take 3=[113,97,1])):dP b=([],410):=by unfold dP;rw [if_neg h,if_pos h2]
theorem Yw (h:¬16777216<b.length) (h2:b.take 3=[113,97,1]) (h3:l8 b (fA b 3 1024) (dI b 3 1024) (aW b 3) 0 0=none):dP b=([],410):=by unfold dP;rw [if_neg h,if_neg (fun x=>x h2),h3]
theorem Yx (h:¬16777216<b.length) (h2:b.take 3=[113,97,1]) (h3:l8 b (fA b 3 1024) (dI b 3 1024) (aW b 3) 0 0=some (l,p,s)) (h4:¬(p+4≤b.length∧zq (b.take (p+4))=true∧p+4+s=b.length)):dP b=([],410):=by grind [dP]
theorem zej (h:¬16777216<b.length) (h2:b.take 3=[113,97,1]) (h3:l8 b (fA b 3 1024) (dI b 3 1024) (aW b 3) 0 0=some (l,p,s)) (h4:p+4≤b.length∧zq (b.take (p+4))=true∧p+4+s=b.length):dP b=(l.map (Pl.up (p+4)),0):=by grind [dP]
def j3:Nat→Nat→List Pl→Nat→Prop
 |_,sum,[],s=>sum=s
 |last,sum,x::t,s=>(x.sn=sum∧x.sn≤x.st∧x.st≤x.en∧last≤x.nx∧x.nx≤4611686018427387904)∧j3 x.nx x.en t s
theorem j3.le:∀{l:List Pl} {last sum s:Nat},j3 last sum l s→sum≤s
 |[],_,_,_,h=>Nat.le_of_eq h
 |x::t,_,_,_,h=>by have:=j3.le h.2;have:=h.1;omega
theorem j3.mem:∀{l:List Pl} {last sum s:Nat},j3 last sum l s→∀x∈l,sum≤x.sn∧x.sn≤x.st∧x.st≤x.en∧x.en≤s∧x.nx≤4611686018427387904
 |[],_,_,_,_=>fun x hx=>by cases hx
 |y::t,_,_,_,h=>fun x hx=>by
  have h1:=h.1
  have h2:=j3.le h.2
  rcases List.mem_cons.1 hx with rfl|hx
  ·omega
  ·have:=j3.mem h.2 x hx;omega
def Eb (x:Pl):List Nat:=[x.nx,x.st-x.sn,x.en-x.st]
theorem ql6 (hb:∀x∈b,x<256):∀(k p last sum:Nat) {l:List Pl} {q s:Nat},p≤b.length→nG b k p last sum=some (l,q,s)→l.length=k∧j3 last sum l s∧p≤q∧q≤b.length∧b.take q=b.take p++(l.flatMap Eb).flatMap aj
 |0,p,last,sum,l,q,s,hp,h=>by
  have h:some (([]:List Pl),p,sum)=some (l,q,s):=h
  injection h with h;injection h with h1 h;injection h with h2 h3
  subst h1 h2 h3
  exact ⟨rfl,rfl,Nat.le_refl _,hp,by simp⟩
 | k + 1, p, last, sum, l, q, s, hp, h => by
  rw [nG] at h
  split at h
  ·rename_i hc
   obtain ⟨ho,hl⟩:=hc
   obtain ⟨⟨l2,q2,s2⟩,h1,h2⟩:=Option.map_eq_some_iff.1 h
   injection h2 with h2 h3;injection h3 with h3 h4
   dsimp only at h2 h3 h4
   subst h2 h3 h4
   obtain ⟨i1,i2,i3,i4,i5⟩:=ql6 hb k _ _ _ (zbs hp) h1
   unfold Ea at ho
   rw [Bool.and_eq_true,Bool.and_eq_true] at ho
   have t1:=Ud hb hp ho.1
   have t2:=Ud hb (AB hp) ho.2.1
   have t3:=Ud hb (AB (AB hp)) ho.2.2
   refine ⟨by rw [List.length_cons,i1],⟨⟨rfl,Nat.le_add_right _ _,Nat.le_add_right _ _,hl,Yu⟩,i2⟩,?_,i4,?_⟩
   ·exact Nat.le_trans (Nat.le_trans Yv (Nat.le_trans Yv Yv)) i3
   ·rw [i5]
    show b.take (aW b (aW b (aW b p)))++_=_
    rw [t3,t2,t1,List.flatMap_cons]
    unfold Eb nR nS pY
    simp_all
  ·cases h
structure AJ (b:List Nat) (L:List Pl):Prop where
 form:∃(l:List Pl) (p s:Nat),L=l.map (Pl.up (p+4))∧j3 0 0 l s∧p+4+s=b.length∧l.length≤1024∧b.take (p+4)=bF ([113,97,1]++(l.length::l.flatMap Eb).flatMap aj)
 few:b.length≤16777216
theorem qvd (hb:∀x∈b,x<256) {L:List Pl} (h:dP b=(L,0)):AJ b L:=by
 unfold dP at h
 split at h
 ·injection h with _ h;cases h
 ·rename_i hlen
  split at h
  ·injection h with _ h;cases h
  ·rename_i hhd
   have hhd:b.take 3=[113,97,1]:=Classical.not_not.1 hhd
   split at h
   ·injection h with _ h;cases h
   ·rename_i l p s hi
    split at h
    ·rename_i hc
     obtain ⟨c1,c2,c3⟩:=hc
     injection h with h _
     have h3:3≤b.length:=by
      grind
     have ho:fA b 3 1024=true:=by
      grind [q2g,fA]
     rw [ho,OX] at hi
     obtain ⟨i1,i2,i3,i4,i5⟩:=ql6 hb _ _ _ _ (AB h3) hi
     have t:=Ud hb h3 ho
     refine ⟨⟨l,p,s,h.symm,i2,c3,by rw [i1];exact Yu,?_⟩,by omega⟩
     have h5:=qzn (l:=b.take (p+4)) (fun x hx=>hb x (List.mem_of_mem_take hx)) c2
     grind
    ·injection h with _ h;cases h
end
def bR (b:List Nat) (i j:Nat):List Nat:=(b.take j).drop i
theorem OY {b:List Nat} {i j:Nat} (h:j≤b.length):(bR b i j).length=j-i:=by grind [bR]
theorem Yy {b:List Nat} (h:∀x∈b,x<256) (i j:Nat):∀x∈bR b i j,x<256:=fun x hx=>h x (List.mem_of_mem_take (List.mem_of_mem_drop hx))
def kY (b:List Nat) (x:Pl):Nat:=
 if rU (bR b x.sn x.st)≠0 then rU (bR b x.sn x.st)
 else if (nE (bR b x.sn x.st)).next≠(x.nx:Int) then 412
 else (readAll (bR b x.st x.en)).2
theorem zbt {b:List Nat} {x:Pl} (h:rU (bR b x.sn x.st)≠0):kY b x=rU (bR b x.sn x.st):=by unfold kY;rw [if_pos h]
theorem zbu {b:List Nat} {x:Pl} (h:rU (bR b x.sn x.st)=0) (h2:(nE (bR b x.sn x.st)).next≠(x.nx:Int)):kY b x=412:=by unfold kY;rw [if_neg (fun n=>n h),if_pos h2]
theorem q2h {b:List Nat} {x:Pl} (h:rU (bR b x.sn x.st)=0) (h2:(nE (bR b x.sn x.st)).next=(x.nx:Int)):kY b x=(readAll (bR b x.st x.en)).2:=by unfold kY;rw [if_neg (fun n=>n h),if_neg (fun n=>n h2)]
structure Pv where
 s:bH
 bs:List Bk
def Pv.zero:Pv:=⟨Az,[]⟩
def nT:List Pv→Int→Nat→Int×Nat
 |[],_,_=>(-1,0)
 |x::t,last,i=>if bJ x.s≠0 then ((i:Int),bJ x.s) else if dO x.bs≠0 then ((i:Int),dO x.bs) else if x.s.next<last then ((i:Int),411) else nT t x.s.next (i+1)
def nH (l:List Pv):Int×Nat:=if 1024<l.length then (-1,5) else nT l 0 0
def vO (x:Pv):List Nat:=[ay x.s.next,(bT x.s).length,(zh x.bs).1.length]
def wW (l:List Pv) (i:Nat):List Nat:=l.length::(l.take i).flatMap vO
def qI (d:List Nat×Bool) (x:Pv):List Nat×Bool:=
 if (d.2||decide ((zh x.bs).2≠0)||decide (16777216<d.1.length+(bT x.s).length+(zh x.bs).1.length))=true then (d.1,true) else (d.1++bT x.s++(zh x.bs).1,false)
def stA (l:List Pv):Nat→List Nat×Bool
 |0=>([],false)
 |i+1=>qI (stA l i) (l.getD i Pv.zero)
def headA (l:List Pv):List Nat:=bF ([113,97,1]++(wW l l.length).flatMap aj)
def nI (l:List Pv):List Nat×Nat:=
 if (nH l).2≠0 then ([],(nH l).2)
 else if (stA l l.length).2=true∨16777216<(headA l).length+(stA l l.length).1.length then ([],3)
 else (headA l++(stA l l.length).1,0)
theorem zek {l:List Nat} (hl:∀z∈l,z<256) (h:rU l=0):bJ (nE l)=0∧bT (nE l)=l:=by
 cases ho:fu l with
 |error k=>
  rw [(AA ho).1] at h
  have:=Yf ho
  omega
 | ok p =>
  by_cases h2:p.okB=true∧bJ p.uN=0
  ·grind [q2c,zbr]
  ·rw [(Ub ho h2).1] at h
   cases h
structure Yz (b:List Nat) (L:List Pl) (l:List Pv):Prop where
 len:l.length=L.length
 s:∀i,i<L.length→bM (nE (bR b (L.getD i Pl.zero).sn (L.getD i Pl.zero).st)) (l.getD i Pv.zero).s
 bs:∀i,i<L.length→(l.getD i Pv.zero).bs=(readAll (bR b (L.getD i Pl.zero).st (L.getD i Pl.zero).en)).1
section
variable {b:List Nat} {L:List Pl} {l:List Pv} {a:Nat}
def yj (a:Nat) (L:List Pl) (i:Nat):Nat:=match i with
 |0=>a
 |i+1=>(L.getD i Pl.zero).en
theorem j3.at:∀{l:List Pl} {last sum s i:Nat},j3 last sum l s→i<l.length→(l.getD i Pl.zero).sn=yj sum l i∧(0<i→(l.getD (i-1) Pl.zero).nx≤(l.getD i Pl.zero).nx)∧(i=0→last≤(l.getD i Pl.zero).nx)
 |x::t,last,sum,s,0,h,_=>⟨h.1.1,fun h=>absurd h (Nat.lt_irrefl 0),fun _=>h.1.2.2.2.1⟩
 | x :: t, last, sum, s, i + 1, h, hi => by
  have hi:i<t.length:=Nat.lt_of_succ_lt_succ hi
  obtain ⟨h1,h2,h3⟩:=j3.at h.2 hi
  refine ⟨?_,fun _=>?_,fun h=>absurd h (Nat.succ_ne_zero i)⟩
  ·show (t.getD i Pl.zero).sn=_
   rw [h1]
   cases i with
   |zero=>rfl
   |succ i=>rfl
  ·grind
theorem j3.last:∀{l:List Pl} {last sum s:Nat},j3 last sum l s→yj sum l l.length=s
 |[],_,_,_,h=>h
 |x::t,last,sum,s,h=>by
  have h1:=j3.last h.2
  rw [←h1]
  cases t with
  |nil=>rfl
  |cons y t=>rfl
theorem Ue {i:Nat} (h:i<L.length):(L.map (Pl.up a)).getD i Pl.zero=(L.getD i Pl.zero).up a:=by grind
theorem q2i {s i:Nat} (h:i≤L.length):yj (s+a) (L.map (Pl.up a)) i=yj s L i+a:=by
 cases i with
 |zero=>rfl
 |succ i=>show ((L.map (Pl.up a)).getD i Pl.zero).en=_;rw [Ue om];rfl
theorem zel (x:Pl):Eb (x.up a)=Eb x:=by grind [Pl.up,Eb]
structure YA (b:List Nat) (L:List Pl) (a:Nat):Prop where
 sn:∀i,i<L.length→(L.getD i Pl.zero).sn=yj a L i∧(L.getD i Pl.zero).sn≤(L.getD i Pl.zero).st∧(L.getD i Pl.zero).st≤(L.getD i Pl.zero).en∧(L.getD i Pl.zero).en≤b.length∧(L.getD i Pl.zero).nx≤4611686018427387904
 nx:∀i,0<i→i<L.length→(L.getD (i-1) Pl.zero).nx≤(L.getD i Pl.zero).nx
 low:a≤b.length
 last:yj a L L.length=b.length
 few:L.length≤1024
 head:b.take a=bF ([113,97,1]++(L.length::L.flatMap Eb).flatMap aj)
theorem AJ.at (h:AJ b L):∃a,YA b L a:=by
 obtain ⟨l,p,s,rfl,hc,hl,hf,hh⟩:=h.form
 have hll:(l.map (Pl.up (p+4))).length=l.length:=List.length_map ..
 refine ⟨p+4,fun i hi=>?_,fun i h0 hi=>?_,by omega,?_,by rw [hll];exact hf,?_⟩
 ·rw [hll] at hi
  have h1:=hc.at hi
  have h2:=hc.mem _ (qi Pl.zero hi)
  have h3:=q2i (a:=p+4) (s:=0) (L:=l) (i:=i) om
  grind [Pl.up,Ue]
 ·rw [hll] at hi
  rw [Ue hi,Ue om]
  exact (hc.at hi).2.1 h0
 ·have h3:=q2i (a:=p+4) (s:=0) (L:=l) (i:=l.length) (Nat.le_refl _)
  rw [Nat.zero_add] at h3
  rw [hll,h3,hc.last]
  omega
 ·rw [hll,hh]
  have h4:(l.map (Pl.up (p+4))).flatMap Eb=l.flatMap Eb:=by
   rw [List.flatMap_map]
   exact congrArg (fun f=>l.flatMap f) (funext fun x=>zel x)
  rw [h4]
end
structure Pm where
 z:bH
 A:Option Addr
 c:Nat
 q:List Hb
def Pm.zero:Pm:=⟨Az,none,0,[]⟩
def Pm.v (p:Pm):Pv:=⟨p.z,p.q.map Hb.b⟩
def Pm.cells (p:Pm):Array Value:= #[.int .i64 p.z.next,.int .i64 p.z.st.aB,.int .u64 (p.z.st.ak:Int),.slice p.z.st.gA p.z.st.gs.length p.z.st.gc,.slice p.z.st.lA p.z.st.cl.length p.z.st.lc,.slice p.z.st.uA p.z.st.cu.length p.z.st.uc,.slice p.z.st.tA p.z.st.ts.length p.z.st.tc,.slice p.z.st.sA p.z.st.rs.length p.z.st.sc,.slice p.A p.q.length p.c]
def jM (p:Pm):List Value:=p.cells.toList
theorem vR (p:Pm):(jM p).length=9:=rfl
structure dQ (w:World) (p:Pm):Prop where
 st:cB w p.z.st
 bl:Rd w w.heap.size 5 p.A p.q.length (p.q.flatMap hbL)
 ev:mU w p.q
theorem dQ.old {W w:World} {fs:List Fact} {p:Pm} (h:dQ W p) (E:Mem W w fs):dQ w p:=⟨h.st.old E,E.old h.bl,h.ev.old E⟩
structure fH (p:Pm):Prop where
 ok:p.z.st.aD.Ok
 few:aX p.z.st
 cap:fK p.z.st
 nx:bP p.z.next
 LU:∀h∈p.q,h.b.Ok
 FW:∀h∈p.q,h.b.evs.length≤1000000
 len:p.q.length≤1000000
 pc:p.q.length≤p.c
def mK (p:Pm):List Fact:=kE p.z.st++(.row (.slice p.A p.q.length p.c) p.q.length (p.q.flatMap hbL) 85 5::iB 73 p.q)
section
variable {W w w':World} {F T:List Fact} {p:Pm} {l:List Pm}
theorem Mem.IL (h:Mem W w F) (hs:∀f∈mK p,f∈F):dQ w p:=
 ⟨h.DY fun f hf=>hs f (List.mem_append_left _ hf),h.Du (hs _ (List.mem_append_right _ (List.mem_cons_self ..))),h.Ny fun f hf=>hs f (List.mem_append_right _ (List.mem_cons_of_mem _ hf))⟩
end
theorem bS:SI Tryz.prog 53 9:=⟨by kernel_rfl,by kernel_rfl⟩
theorem AL:EI Tryz.prog 24 53 (.agg #[.int .i64 0,.int .i64 0,.int .u64 0,.slice none 0 0,.slice none 0 0,.slice none 0 0,.slice none 0 0,.slice none 0 0,.slice none 0 0]) 9 168:=⟨by kernel_rfl,by kernel_rfl,rfl,by omega⟩
theorem wX:SI Tryz.prog 57 4:=⟨by kernel_rfl,by kernel_rfl⟩
theorem FX:EI Tryz.prog 35 57 (.agg #[.int .i64 0,.int .i64 0,.int .i64 0,.int .i64 0]) 4 32:=⟨by kernel_rfl,by kernel_rfl,rfl,by omega⟩
theorem zbv:SI Tryz.prog 131 5:=⟨by kernel_rfl,by kernel_rfl⟩
theorem FY (p:Pm):∀v∈p.cells.toList,v.oneCell'=true:=by
 intro v hv
 simp only [Pm.cells,List.mem_cons,List.not_mem_nil,or_false] at hv
 rcases hv with rfl|rfl|rfl|rfl|rfl|rfl|rfl|rfl|rfl<;>rfl
theorem zem (p:Pl):∀v∈p.cells.toList,v.oneCell'=true:=by
 intro v hv
 simp only [Pl.cells,List.mem_cons,List.not_mem_nil,or_false] at hv
 rcases hv with rfl|rfl|rfl|rfl<;>rfl
section
variable {l:List Pm} {i:Nat} {last:Int}
theorem q2j (h:i<l.length):nT ((l.map Pm.v).drop i) last i=if bJ (l.getD i Pm.zero).z≠0 then ((i:Int),bJ (l.getD i Pm.zero).z) else if dO ((l.getD i Pm.zero).q.map Hb.b)≠0 then ((i:Int),dO ((l.getD i Pm.zero).q.map Hb.b)) else if (l.getD i Pm.zero).z.next<last then ((i:Int),411) else nT ((l.map Pm.v).drop (i+1)) (l.getD i Pm.zero).z.next (i+1):=by
 rw [List.drop_eq_getElem_cons (by rw [List.length_map];exact h),nT,List.getElem_map,List.getD_eq_getElem?_getD,List.getElem?_eq_getElem h]
 rfl
theorem qqd:nT ((l.map Pm.v).drop l.length) last i=(-1,0):=by
 rw [List.drop_eq_nil_of_le (by rw [List.length_map];exact Nat.le_refl _)]
 rfl
theorem yt {w w':World} {R:Int×Nat} {v n:Int} {m:Nat} (h:R=(v,m)) (hn:n=(m:Int)) (hb:Below w.heap.size w w'):Is w (.tuple #[.int .i64 R.1,.int .i64 (R.2:Int)]) (.returned (.tuple #[.int .i64 v,.int .i64 n])) w':=by
 subst h hn
 exact ⟨rfl,hb⟩
end
section
variable {l:List Pm} {lv:List Pv} {i:Nat} {x:Pm} {d wb:List Nat} {lg:Bool} {we ce:Nat} {ci:Int}
theorem OZ (hi:i<l.length) (hx:l.getD i Pm.zero=x) (hst:stA (l.map Pm.v) i=(d,lg)) (hw:zh (x.q.map Hb.b)=(wb,we)) (h:lg=true∨we≠0∨16777216<d.length+(bT x.z).length+wb.length):stA (l.map Pm.v) (i+1)=(d,true):=by grind [Pm.v,Pm.zero,Pv.zero,getD_at,stA,qI]
theorem q9f (hi:i<l.length) (hx:l.getD i Pm.zero=x) (hst:stA (l.map Pm.v) i=(d,lg)) (hw:zh (x.q.map Hb.b)=(wb,we)) (h:¬(lg=true∨we≠0∨16777216<d.length+(bT x.z).length+wb.length)):stA (l.map Pm.v) (i+1)=(d++bT x.z++wb,false):=by grind [Pm.v,Pm.zero,Pv.zero,getD_at,stA,qI]
def bG (l:List Pm) (i:Nat):List Nat:=l.length::(l.take i).flatMap fun p=>vO p.v
theorem ql7 (hi:i<l.length) (hx:l.getD i Pm.zero=x) (hw:zh (x.q.map Hb.b)=(wb,we)):bG l (i+1)=bG l i++[ay x.z.next,(bT x.z).length,wb.length]:=by grind [Pm.v,Pm.zero,bG,bT,vO,Lj,ay]
theorem q2k:bG l l.length=wW (l.map Pm.v) (l.map Pm.v).length:=by grind [bG,wW,List.flatMap_map,List.length_map,List.take_length]
theorem LV:∀i,i≤l.length→(bG l i).length=1+3*i:=fun i h=>by
 unfold bG
 rw [List.length_cons]
 have key:∀m:List Pm,(m.flatMap fun p=>vO p.v).length=3*m.length:=fun m=>by
  induction m with
  |nil=>rfl
  |cons a t ih=>rw [List.flatMap_cons,List.length_append,ih,List.length_cons];show 3+_=_;omega
 grind
theorem q2l:0<((bG l i).flatMap aj).length:=by grind [bG,WY]
theorem q67 (h:l.length≤1000000):∀i,∀x∈bG l i,x<18446744073709551616:=fun i x hx=>by
 rcases List.mem_cons.1 hx with rfl|hx
 ·omega
 ·obtain ⟨p,_,hp⟩:=List.mem_flatMap.1 hx
  have h1:=Uf p.z
  have h2:=X0 (p.q.map Hb.b)
  rcases List.mem_cons.1 hp with rfl|hp
  ·exact FH _
  ·rcases List.mem_cons.1 hp with rfl|hp
   ·show (bT p.z).length<_;omega
   ·grind [zh]
theorem ql8 (h:nH lv=(ci,ce)) (he:ce≠0):nI lv=([],ce):=by unfold nI;rw [h];exact if_pos he
theorem Ug (h:nH lv=(ci,ce)) (he:ce=0) (hst:stA lv lv.length=(d,lg)) (hl:lg=true∨16777216<(headA lv).length+d.length):nI lv=([],3):=by grind [nI]
theorem qqe (h:nH lv=(ci,ce)) (he:ce=0) (hst:stA lv lv.length=(d,lg)) (hl:¬(lg=true∨16777216<(headA lv).length+d.length)):nI lv=(headA lv++d,0):=by grind [nI]
end
def Gc (W:World) (gb ga gk:Nat) (b:List Nat) (A:Option Addr) (c p:Nat) (vw:Bool) (most:Nat) (fr:List Fact) (r:Ending) (w':World):Prop:=
 r= .returned (.int .i64 (dI b p most:Int))∧Mem W w' (.blk gb #[.slice A b.length c] 30:: .blk ga #[.int .i64 (aW b p:Int)] 3:: .blk gk #[.bool (vw&&fA b p most)] 4::fr)
theorem Zj {W w':World} {gb ga gk c p most:Nat} {b:List Nat} {A:Option Addr} {vw Nw:Bool} {fr:List Fact} {q:Nat} (h1:aW b p=q) (h2:(vw&&fA b p most)=Nw)
  (E:Mem W w' (.blk gb #[.slice A b.length c] 30:: .blk ga #[.int .i64 (q:Int)] 3:: .blk gk #[.bool Nw] 4::fr)):Gc W gb ga gk b A c p vw most fr (.returned (.int .i64 (dI b p most:Int))) w':=by
 subst h1 h2
 exact ⟨rfl,E⟩
section
variable {b:List Nat} {p k last sum i K p0:Nat} {ok ok0 o1 o2 o3:Bool} {out:List Pl}
def gV (b:List Nat) (ok0:Bool) (K p0:Nat) (ok:Bool) (k p last sum:Nat) (out:List Pl):Prop:=l8 b ok0 K p0 0 0=(l8 b ok k p last sum).map fun r=>(out++r.1,r.2)
theorem zb4:gV b ok0 K p0 ok0 K p0 0 0 []:=by
 unfold gV
 cases l8 b ok0 K p0 0 0<;>rfl
def nK (b:List Nat) (p sum:Nat):Pl:=⟨nR b p,sum,sum+nS b p,sum+nS b p+pY b p⟩
theorem gV.step (h:gV b ok0 K p0 ok (k+1) p last sum out) (ho:(((ok&&fA b p 4611686018427387904)&&fA b (aW b p) 16777216)&&fA b (aW b (aW b p)) 16777216)=true) (hl:last≤nR b p):gV b ok0 K p0 true k (rowP b p) (nR b p) (sum+nS b p+pY b p) (out++[nK b p sum]):=by
 rw [Bool.and_assoc,Bool.and_assoc,Bool.and_eq_true] at ho
 unfold gV at h⊢
 rw [h,ho.1,OX,OX,nG,if_pos ⟨by unfold Ea;rw [←Bool.and_assoc];rw [←Bool.and_assoc] at ho;exact ho.2,hl⟩,Option.map_map]
 congr 1
 funext r
 show (out++(_::r.1),r.2)=((out++[_])++r.1,r.2)
 rw [List.append_assoc]
 rfl
theorem gV.stop (h:gV b ok0 K p0 ok (k+1) p last sum out) (ho:¬((((ok&&fA b p 4611686018427387904)&&fA b (aW b p) 16777216)&&fA b (aW b (aW b p)) 16777216)=true∧last≤nR b p)):l8 b ok0 K p0 0 0=none:=by
 unfold gV at h
 rw [h]
 cases ok with
 |false=>rfl
 | true =>
  rw [OX,nG,if_neg]
  ·rfl
  ·rintro ⟨h1,h2⟩
   refine ho ⟨?_,h2⟩
   unfold Ea at h1
   rw [Bool.true_and,Bool.and_assoc]
   exact h1
theorem gV.fin (h:gV b ok0 K p0 true 0 p last sum out):l8 b ok0 K p0 0 0=some (out,p,sum):=by grind [gV,OX,nG]
theorem gV.bad (h:gV b ok0 K p0 false k p last sum out):l8 b ok0 K p0 0 0=none:=by
 unfold gV at h
 rw [h,q2g]
 rfl
theorem zb5:nR b p≤4611686018427387904:=qc1 _ _
theorem zb6:nS b p≤16777216:=qc1 _ _
theorem zb7:pY b p≤16777216:=qc1 _ _
end
def L9 (w:World) (R:List Pl×Nat) (r:Ending) (w':World):Prop:=
 (∃A c,r= .returned (.tuple #[.slice A R.1.length c,.int .i64 (R.2:Int)])∧w'.ownsRow w.heap.size 57 4 (.slice A R.1.length c) R.1.length (R.1.flatMap kX)∧R.1.length≤c)∧Below w.heap.size w w'
theorem Eu {w w':World} {R:List Pl×Nat} {er:Nat} {n:Int} (hb:Below w.heap.size w w') (he:R=([],er)) (hn:n=er):L9 w R (.returned (.tuple #[.slice none 0 0,.int .i64 n])) w':=by
 subst he hn
 exact ⟨⟨none,0,rfl,World.ownsRow_nil _ _ _ _,Nat.le_refl _⟩,hb⟩
theorem q24 {w w':World} {R:List Pl×Nat} {L:List Pl} {A:Option Addr} {c n:Nat} (he:R=(L,0)) (hn:n=L.length) (ho:w'.ownsRow w.heap.size 57 4 (.slice A n c) n (L.flatMap kX)) (hc:n≤c) (hb:Below w.heap.size w w'):L9 w R (.returned (.tuple #[.slice A n c,.int .i64 0])) w':=by
 subst he hn
 exact ⟨⟨A,c,rfl,ho,hc⟩,hb⟩
def Pl.Ew (a:Nat) (x:Pl):Pl:={x with sn:=x.sn+a}
def Pl.Jz (a:Nat) (x:Pl):Pl:={x with sn:=x.sn+a,st:=x.st+a}
theorem q25 {f:Pl→Pl} {l:List Pl} {k:Nat} (h:l.length≤k):fD f l k=l.map f:=by grind [fD,List.drop_eq_nil_of_le,List.take_of_length_le]
end Go.Proofs.YtekiimhdnigmcaaGreatDoor
namespace Go.Proofs.YtekiimhdnigmcaaGreatDoor
open Go.RowKit Go.ChangeShapes Go.WideShapes Go.ChangeAt
section
variable {H:Type} {enc:TypeId×Value→H} {W:World} {b0:Nat} {v:Value} {d:DataW H} {p:List MemPlace}
theorem q68:Tryz.prog.underlying 51=some (.slice 85):=by kernel_rfl
theorem qqf:Tryz.prog.underlying 24=some (.slice 53):=by kernel_rfl
theorem qve:Tryz.prog.cellsOf 53=9:=by kernel_rfl
theorem qxg:Tryz.prog.cellsOf 51=1:=by kernel_rfl
theorem O9:fieldAt Tryz.prog 53 0 0 50=true:=by kernel_rfl
theorem Pb:fieldAt Tryz.prog 53 1 8 51=true:=by kernel_rfl
structure AO (W:World) (x:Hb):Prop where
 ok:x.b.Ok
 hc:x.b.evs.length≤x.c
 rd:Rd W W.heap.size 11 x.A x.b.evs.length (x.b.evs.flatMap eF)
set_option maxRecDepth 100000 in
theorem q69 {fuel:Nat} {cs:List Value} {y:DataW H×List MemPlace} (hf:DataW.trod enc Tryz.prog W 0 (fun _=>true) true fuel 85 cs=some y):∃x:Hb,hbL x=cs∧AO W x:=by
 obtain ⟨hl,_,y0,g0⟩:=qo OB hf
 obtain ⟨_,_,y1,g1⟩:=qo OC hf
 obtain ⟨_,_,y2,g2⟩:=qo OD hf
 obtain ⟨_,_,y3,g3⟩:=qo OE hf
 obtain ⟨_,_,y4,g4⟩:=qo OG hf
 rw [qu2] at hl
 obtain ⟨kd,e0,_,w0⟩:=DataW.trod_int U9 g0
 obtain ⟨cpu,e1,_,w1⟩:=DataW.trod_int U9 g1
 obtain ⟨lo,e2,_,w2⟩:=DataW.trod_int Dg g2
 obtain ⟨nx,e3,_,w3⟩:=DataW.trod_int Dg g3
 obtain ⟨A,n,c,l,e4,k1,k2,k3,k4⟩:=qrl g4
 rw [q41] at e0 e1
 rw [KS] at e2 e3
 rw [qyz] at e4
 have a0:=qv e0
 have a1:=qv e1
 have a2:=qv e2
 have a3:=qv e3
 have a4:=qv e4
 have u0:=wI w0
 have u1:=wI w1
 have hn:=q6q k4
 subst hn
 refine ⟨⟨⟨kd.toNat,cpu.toNat,lo,nx,l⟩,A,c⟩,?_,⟨⟨by show kd.toNat<256;omega,by show cpu.toNat<256;omega,qZ w2,qZ w3,k3⟩,k1,k4⟩⟩
 refine ((q1v hl a0 a1 a2 a3 a4).trans ?_).symm
 show _=[Value.int .u8 ((kd.toNat:Nat):Int),.int .u8 ((cpu.toNat:Nat):Int),.int .i64 lo,.int .i64 nx,.slice A l.length c]
 rw [Int.toNat_of_nonneg u0.1,Int.toNat_of_nonneg u1.1]
theorem q2m {fuel:Nat} {cs:List Value} {x:DataW H×List MemPlace} (hf:DataW.trod enc Tryz.prog W 0 (fun _=>true) true fuel 50 cs=some x):∃s:bH,s.cells.toList=cs∧bP s.next∧IE W s.st:=by
 obtain ⟨hl,_,y0,g0⟩:=qo zd5 hf
 obtain ⟨_,_,y1,g1⟩:=qo zd6 hf
 obtain ⟨z0,e0,_,w0⟩:=DataW.trod_int Dg g0
 obtain ⟨y,hy,hin⟩:=zba g1
 rw [qp0] at hl
 rw [KS] at e0
 rw [quz] at hy
 refine ⟨⟨z0,y⟩,(ET (m:=(bH.cells ⟨z0,y⟩).toList) hl fun i hi=>?_).symm,qZ w0,hin⟩
 have hi2:i<8:=hi
 rcases Nat.eq_zero_or_pos i with h0|h0
 ·subst h0;exact qv e0
 ·obtain ⟨k,rfl⟩:∃k,i=1+k:=⟨i-1,by omega⟩
  have:=DZ hy.symm k om
  rw [Nat.add_comm] at this⊢
  exact this
structure AP (W:World) (p:Pm):Prop where
 nx:bP p.z.next
 st:IE W p.z.st
 bl:Rd W W.heap.size 5 p.A p.q.length (p.q.flatMap hbL)
 bi:∀h∈p.q,AO W h
 pc:p.q.length≤p.c
theorem zbw {fuel:Nat} {cs:List Value} {x:DataW H×List MemPlace} (hf:DataW.trod enc Tryz.prog W 0 (fun _=>true) true fuel 53 cs=some x):∃p:Pm,jM p=cs∧AP W p:=by
 obtain ⟨hl,_,y0,g0⟩:=qo O9 hf
 obtain ⟨_,_,y1,g1⟩:=qo Pb hf
 obtain ⟨s,e0,hn,hs⟩:=q2m g0
 obtain ⟨A,c,l,e1,h1,_,h3,h4⟩:=Fz (sp:=fun _=>true) hbL (AO W) q68 qu2 de qc5 (fun _ _ _ h=>q69 h) g1
 rw [qve] at hl
 rw [qp0] at e0
 rw [qxg] at e1
 refine ⟨⟨s,A,c,l⟩,(ET (m:=jM ⟨s,A,c,l⟩) hl fun i hi=>?_).symm,⟨hn,hs,h4,h3,h1⟩⟩
 have hi2:i<9:=hi
 have hc:i=0∨i=1∨i=2∨i=3∨i=4∨i=5∨i=6∨i=7∨i=8:=by omega
 rcases hc with rfl|rfl|rfl|rfl|rfl|rfl|rfl|rfl|rfl
 ·exact DZ (o:=0) e0.symm 0 de
 ·exact DZ (o:=0) e0.symm 1 de
 ·exact DZ (o:=0) e0.symm 2 de
 ·exact DZ (o:=0) e0.symm 3 de
 ·exact DZ (o:=0) e0.symm 4 de
 ·exact DZ (o:=0) e0.symm 5 de
 ·exact DZ (o:=0) e0.symm 6 de
 ·exact DZ (o:=0) e0.symm 7 de
 ·exact qv e1
set_option maxRecDepth 100000 in
theorem q2n (hval:Value.okWide Tryz.prog W .any b0 24 v) (h:DataW.Trod enc Tryz.prog W 0 (fun _=>true) true 24 v d p):
  ∃(A:Option Addr) (c:Nat) (l:List Pm),v= .slice A l.length c∧l.length≤c∧c≤maxLen∧(∀x∈l,AP W x)∧Rd W W.heap.size 9 A l.length (l.flatMap jM):=by
 obtain ⟨a0,len,cap,rfl⟩:=okWide_slice qqf hval
 obtain ⟨fuel,hf⟩:=h
 obtain ⟨A,c,l,hcs,h1⟩:=Fz jM (AP W) qqf qve de vR (fun _ _ _ h=>zbw h) hf
 simp only [Value.cells,List.cons.injEq,and_true,Value.slice.injEq] at hcs
 obtain ⟨rfl,rfl,rfl⟩:=hcs
 exact ⟨_,_,l,rfl,h1⟩
theorem AP.rdP {p:Pm} (h:AP W p):dQ W p:=⟨h.st.rd,h.bl,fun x hx=>(h.bi x hx).rd⟩
end
end Go.Proofs.YtekiimhdnigmcaaGreatDoor
namespace Go.Proofs.YtekiimhdnigmcaaGreatDoor
open Go.RowKit
def Bj (W:World) (g p:Nat) (A:Option Addr) (c:Nat) (b q:List Nat) (sv:Value) (fs:List Fact) (r:Ending) (w':World):Prop:=
 (∃x e NA nc,bA b p x e∧r= .returned (vQ x)∧(q++[x]).length≤nc∧Mem W w' (.blk g #[.slice A b.length c,vI e,.slice NA (q++[x]).length nc,sv] 300:: .row (.slice NA (q++[x]).length nc) (q++[x]).length ((q++[x]).map aR) 41 1::fs))∨((aA (b.drop p)).2.2≠0∧l7 W fs (uM fV 344) r w')
theorem q7d {W w':World} {g p:Nat} {A:Option Addr} {c:Nat} {b q:List Nat} {sv:Value} {fs:List Fact} {r:Ending} (h:(aA (b.drop p)).2.2≠0) (hd:l7 W fs (uM fV 344) r w'):Bj W g p A c b q sv fs r w':= .inr ⟨h,hd⟩
theorem q7e {W w':World} {g p:Nat} {A:Option Addr} {c:Nat} {b q:List Nat} {sv:Value} {fs:List Fact} {r:Ending} {x e nc:Nat} {NA:Option Addr} (h:bA b p x e) (hr:r= .returned (vQ x)) (hc:(q++[x]).length≤nc) (hm:Mem W w' (.blk g #[.slice A b.length c,vI e,.slice NA (q++[x]).length nc,sv] 300:: .row (.slice NA (q++[x]).length nc) (q++[x]).length ((q++[x]).map aR) 41 1::fs)):Bj W g p A c b q sv fs r w':= .inl ⟨x,e,NA,nc,h,hr,hc,hm⟩
theorem qma (W w:World) (g p:Nat) (A NA:Option Addr) (c nc:Nat) (b q:List Nat) (sv:Value) (fs:List Fact) (HW:Mem W w (.blk g #[.slice A b.length c,vI p,.slice NA q.length nc,sv] 300:: .row (.slice NA q.length nc) q.length (q.map aR) 41 1::fs)) (hin:Rd W W.heap.size 1 A b.length (b.map B8)) (hbc:b.length≤c) (hl:∀z∈b,z<256) (hb:b.length≤16777216) (ha:p≤b.length) (hq:q.length≤p):
    Calls Tryz.prog 280 #[vP g 0] w (Bj W g p A c b q sv fs):=by
 refine (bZ Tryz.func280 42) ?_
 intro a Z E
 replace E:=HW
 have hv:∃x n er,aA (b.drop p)=(x,n,er):=⟨_,_,_,rfl⟩
 obtain ⟨x,n,er,hv⟩:=hv
 have hl2:∀z∈b.drop p,z<256:=fun z hz=>hl z (List.mem_of_mem_drop hz)
 have hdl:(b.drop p).length=b.length-p:=List.length_drop
 refine Jb Z E ((JP∘Jp 1∘Jj) fun a Z E=>?_)
 refine wp_seq ?_
 refine Jb Z E ((Vs .n []) fun Tc=>(Vp [0,4]∘Vn 1∘Vf 2 0∘Vc 3 O0∘Vn 5∘Vf 6 1∘Vc 7 O0∘Vy 8 (v:= .slice (if c=p then A else A.map (·.add (p*1))) (b.length-p) (c-p)) (h:=by exact Yl.sliceFrom aL (j:=p) rfl rfl rfl om)∘Vo (.slice (if c=p then A else A.map (·.add (p*1))) ((b.drop p).length) (c-p)) (by rw [List.length_drop])∘VI 9 .n (h:=by exact fun E=>q6z hv (OL (E.old hin) ha hbc) hl2 om)) fun w16 hbw=>(Vp [10]∘Vx 11∘Vx 12∘Vx 13∘Vp [14,15,16]∘Vd∘JQ∘JP∘Jp 2∘aT∘Jj) (Ju (fun fT=>?_) fun fT=>?_))
 ·
  intro a Z E
  have nO:=bne_iff_ne.1 fT
  refine Jb Z E ((JT∘JR) fun a Z E=>?_)
  refine fo Z 0 rfl rfl ?_
  exact rR Z [vI 344] rfl (TR 344 _ (E.pt 2 [])) fun w2 E=>LD Z (q7d (q11 hv nO) ⟨rfl,E⟩)
 intro a Z E
 have nO:=bne_eq_false_iff_eq.1 fT
 have her:er=0:=by omega
 revert E;revert a;repeat (first|clear Z|clear E)
 intro a Z E
 subst her
 have hin2:=qu4 ha hv
 refine Jb Z E ((JF∘aG∘JP∘Jp 1∘Jn∘Jg 1 O0∘Jp 1∘Ja∘Jn∘Jf 1∘JW bg gQ) fun aqI=>(lH∘Jr∘Jp 2∘Jn∘Jg 2 O0∘Jp 1∘JU qt #[vQ x]) fun CS g37=>(JD [aR x] 2 (fun _ _=>gH) qt (hr:=by exact fun E=>E.aN (i:=0) (n:=1) (size:=1) rfl rfl) (h1:=by simp [Value.oneCell',aR,B8])) fun Wj A38 c38 hc38=>(Jn∘Jf 2∘JW gQ gH) fun af4=>(lH∘Jq) fun a Z E=>?_)
 have Bl:q.length+1=(q++[x]).length:=q0 rfl
 replace E:=E.aI (i:=2) (ys:=(q++[x]).map aR) rfl Bl (by simp)
 rw [Bl] at hc38
 replace E:=E.dZ (i:=1) (ds:= #[.slice A b.length c,vI (p+n:Nat),.slice A38 ((q++[x]).length) c38,sv]) rfl (by rw [Bl];try rfl)
 exact Jb Z E ((JG∘JP∘Jp 2∘jq∘Jj∘JZ∘aH) fun E=>q7e (.of hv) rfl hc38 (E.pt 3 [1,2]))
theorem Ul (W w:World) (g p:Nat) (A NA:Option Addr) (c nc:Nat) (b q:List Nat) (sv:Value) (fs:List Fact) (HW:Mem W w (.blk g #[.slice A b.length c,vI p,.slice NA q.length nc,sv] 300:: .row (.slice NA q.length nc) q.length (q.map aR) 41 1::fs)) (hin:Rd W W.heap.size 1 A b.length (b.map B8)) (hbc:b.length≤c) (hl:∀z∈b,z<256) (hb:b.length≤16777216) (ha:p≤b.length) (hq:q.length≤p) {x e:Nat} (h:bA b p x e):
  Calls Tryz.prog 280 #[vP g 0] w (fun r w'=>r= .returned (vQ x)∧∃NA nc,(q++[x]).length≤nc∧Mem W w' (.blk g #[.slice A b.length c,vI e,.slice NA (q++[x]).length nc,sv] 300:: .row (.slice NA (q++[x]).length nc) (q++[x]).length ((q++[x]).map aR) 41 1::fs)):=
 (qma W w g p A NA c nc b q sv fs HW hin hbc hl hb ha hq).mono fun r w' h1 => by
  rcases h1 with ⟨x2,e2,NA,nc,h2,h3,h4,h5⟩|⟨h2,_⟩
  ·obtain ⟨rfl,rfl⟩:=bA.one h h2
   exact ⟨h3,NA,nc,h4,h5⟩
  ·rw [h.1] at h2;exact absurd rfl h2
theorem Um (W w:World) (g p:Nat) (A NA:Option Addr) (c nc:Nat) (b q:List Nat) (sv:Value) (fs:List Fact) (HW:Mem W w (.blk g #[.slice A b.length c,vI p,.slice NA q.length nc,sv] 300:: .row (.slice NA q.length nc) q.length (q.map aR) 41 1::fs)) (hin:Rd W W.heap.size 1 A b.length (b.map B8)) (hbc:b.length≤c) (hl:∀z∈b,z<256) (hb:b.length≤16777216) (ha:p≤b.length) (hq:q.length≤p) (h:(aA (b.drop p)).2.2≠0):
  Calls Tryz.prog 280 #[vP g 0] w (l7 W fs (uM fV 344)):=
 (qma W w g p A NA c nc b q sv fs HW hin hbc hl hb ha hq).mono fun r w' h1 => by
  rcases h1 with ⟨x2,e2,NA,nc,h2,h3,h4,h5⟩|⟨_,h2⟩
  ·rw [h2.1] at h;exact absurd rfl h
  ·exact h2
def xg (W:World) (g p:Nat) (A:Option Addr) (c:Nat) (b q:List Nat) (sv:Value) (lo hi:Nat) (fs:List Fact) (r:Ending) (w':World):Prop:=
 (∃x e NA nc,bA b p x e∧¬(x<lo∨hi<x)∧r= .returned (vI x)∧(q++[x]).length≤nc∧Mem W w' (.blk g #[.slice A b.length c,vI e,.slice NA (q++[x]).length nc,sv] 300:: .row (.slice NA (q++[x]).length nc) (q++[x]).length ((q++[x]).map aR) 41 1::fs))∨((∃x e,bA b p x e∧(x<lo∨hi<x))∧l7 W fs (uM fV 345) r w')∨((aA (b.drop p)).2.2≠0∧l7 W fs (uM fV 344) r w')
theorem q7f {W w':World} {g p:Nat} {A:Option Addr} {c:Nat} {b q:List Nat} {sv:Value} {fs:List Fact} {r:Ending} {lo hi:Nat} (h:(aA (b.drop p)).2.2≠0) (hd:l7 W fs (uM fV 344) r w'):xg W g p A c b q sv lo hi fs r w':= .inr (.inr ⟨h,hd⟩)
theorem qqk {W w':World} {g p:Nat} {A:Option Addr} {c:Nat} {b q:List Nat} {sv:Value} {fs:List Fact} {r:Ending} {lo hi x e:Nat} (h:bA b p x e) (h2:x<lo∨hi<x) (hd:l7 W fs (uM fV 345) r w'):xg W g p A c b q sv lo hi fs r w':= .inr (.inl ⟨⟨x,e,h,h2⟩,hd⟩)
theorem q7g {W w':World} {g p:Nat} {A:Option Addr} {c:Nat} {b q:List Nat} {sv:Value} {fs:List Fact} {r:Ending} {lo hi x e nc:Nat} {NA:Option Addr} (h:bA b p x e) (h2:¬(x<lo∨hi<x)) (hr:r= .returned (vI x)) (hc:(q++[x]).length≤nc) (hm:Mem W w' (.blk g #[.slice A b.length c,vI e,.slice NA (q++[x]).length nc,sv] 300:: .row (.slice NA (q++[x]).length nc) (q++[x]).length ((q++[x]).map aR) 41 1::fs)):xg W g p A c b q sv lo hi fs r w':= .inl ⟨x,e,NA,nc,h,h2,hr,hc,hm⟩
theorem Y2 (W w:World) (g p:Nat) (A NA:Option Addr) (c nc:Nat) (b q:List Nat) (sv:Value) (fs:List Fact) (lo hi:Nat) (hhi:hi<9223372036854775808) (HW:Mem W w (.blk g #[.slice A b.length c,vI p,.slice NA q.length nc,sv] 300:: .row (.slice NA q.length nc) q.length (q.map aR) 41 1::fs)) (hin:Rd W W.heap.size 1 A b.length (b.map B8)) (hbc:b.length≤c) (hl:∀z∈b,z<256) (hb:b.length≤16777216) (ha:p≤b.length) (hq:q.length≤p):
    Calls Tryz.prog 281 #[vP g 0,vQ lo,vQ hi] w (xg W g p A c b q sv lo hi fs):=by
 refine (Hg Tryz.func281 21) ?_
 intro a Z E
 replace E:=HW
 refine Jb Z E ((JP∘Jp 1∘Jj∘JQ) fun a Z E=>?_)
 rcases LH b p with hv|⟨x,e,hv⟩
 ·
  refine Jb Z E ((JR∘Jp 1) fun a Z E=>?_)
  refine fo Z 1 rfl rfl ?_
  exact rR Z [vP g 0] rfl (Um W _ g p A NA c nc b q sv _ (E.pt 2 [0,1]) hin hbc hl hb ha hq hv) fun w2 E=>LD Z (q7f hv ⟨rfl,(E)⟩)
 ·
  have hx:=hv.lt hl
  refine Jb Z E ((JR∘Jp 1∘JL (h:=by exact fun E=>Ul W _ g p A NA c nc b q sv _ (E.pt 2 [0,1]) hin hbc hl hb ha hq hv)) ?_)
  rintro E _ w9 ⟨rfl,A9,c9,Si,eX⟩
  refine ⟨_,rfl,_,eX,?_⟩
  refine (Jp 1∘aT∘Jj∘JQ∘JP∘Jp 4) (Ju (fun dS=>?_) fun dS=>?_)
  ·
   intro a Z E
   have kU:=of_decide_eq_true dS
   refine Jb Z E ((Jp 4∘aF∘Jj∘JT∘JR) fun a Z E=>?_)
   refine fo Z 0 rfl rfl ?_
   exact rR Z [vI 345] rfl (TR 345 _ (E.pt 2 [])) fun w2 E=>LD Z (qqk hv (.inl om) ⟨rfl,E⟩)
  intro a Z E
  have kU:=of_decide_eq_false dS
  refine Jb Z E ((Jp 4∘aF∘Jj) (Ji (fun iQ=>?_) fun iQ=>?_))
  ·
   refine (JT∘JR) fun a Z E=>?_
   refine fo Z 0 rfl rfl ?_
   exact rR Z [vI 345] rfl (TR 345 _ (E.pt 2 [])) fun w2 E=>LD Z (qqk hv (.inr om) ⟨rfl,E⟩)
  exact (JF∘aG∘JP∘Jp 1∘Jw .i64∘Jp 1∘aT∘Jj∘JZ∘aH) fun E=>q7g hv om rfl Si (E.pt 2 [0,1])
theorem Un (W w:World) (g p:Nat) (A NA:Option Addr) (c nc:Nat) (b q:List Nat) (sv:Value) (fs:List Fact) (lo hi:Nat) (hhi:hi<9223372036854775808) (HW:Mem W w (.blk g #[.slice A b.length c,vI p,.slice NA q.length nc,sv] 300:: .row (.slice NA q.length nc) q.length (q.map aR) 41 1::fs)) (hin:Rd W W.heap.size 1 A b.length (b.map B8)) (hbc:b.length≤c) (hl:∀z∈b,z<256) (hb:b.length≤16777216) (ha:p≤b.length) (hq:q.length≤p) {x e:Nat} (h:bA b p x e) (hh:¬(x<lo∨hi<x)):
  Calls Tryz.prog 281 #[vP g 0,vQ lo,vQ hi] w (fun r w'=>r= .returned (vI x)∧∃NA nc,(q++[x]).length≤nc∧Mem W w' (.blk g #[.slice A b.length c,vI e,.slice NA (q++[x]).length nc,sv] 300:: .row (.slice NA (q++[x]).length nc) (q++[x]).length ((q++[x]).map aR) 41 1::fs)):=
 (Y2 W w g p A NA c nc b q sv fs lo hi hhi HW hin hbc hl hb ha hq).mono fun r w' h1 => by
  rcases h1 with ⟨x2,e2,NA,nc,h2,_,h3,h4,h5⟩|⟨⟨x2,e2,h2,h3⟩,_⟩|⟨h2,_⟩
  ·obtain ⟨rfl,rfl⟩:=bA.one h h2
   exact ⟨h3,NA,nc,h4,h5⟩
  ·obtain ⟨rfl,rfl⟩:=bA.one h h2
   exact absurd h3 hh
  ·rw [h.1] at h2;exact absurd rfl h2
theorem Y3 (W w:World) (g p:Nat) (A NA:Option Addr) (c nc:Nat) (b q:List Nat) (sv:Value) (fs:List Fact) (lo hi:Nat) (hhi:hi<9223372036854775808) (HW:Mem W w (.blk g #[.slice A b.length c,vI p,.slice NA q.length nc,sv] 300:: .row (.slice NA q.length nc) q.length (q.map aR) 41 1::fs)) (hin:Rd W W.heap.size 1 A b.length (b.map B8)) (hbc:b.length≤c) (hl:∀z∈b,z<256) (hb:b.length≤16777216) (ha:p≤b.length) (hq:q.length≤p) {x e:Nat} (h:bA b p x e) (hh:x<lo∨hi<x):
  Calls Tryz.prog 281 #[vP g 0,vQ lo,vQ hi] w (l7 W fs (uM fV 345)):=
 (Y2 W w g p A NA c nc b q sv fs lo hi hhi HW hin hbc hl hb ha hq).mono fun r w' h1 => by
  rcases h1 with ⟨x2,e2,NA,nc,h2,h3,_⟩|⟨_,h2⟩|⟨h2,_⟩
  ·obtain ⟨rfl,rfl⟩:=bA.one h h2
   exact absurd hh h3
  ·exact h2
  ·rw [h.1] at h2;exact absurd rfl h2
theorem Y4 (W w:World) (g p:Nat) (A NA:Option Addr) (c nc:Nat) (b q:List Nat) (sv:Value) (fs:List Fact) (lo hi:Nat) (hhi:hi<9223372036854775808) (HW:Mem W w (.blk g #[.slice A b.length c,vI p,.slice NA q.length nc,sv] 300:: .row (.slice NA q.length nc) q.length (q.map aR) 41 1::fs)) (hin:Rd W W.heap.size 1 A b.length (b.map B8)) (hbc:b.length≤c) (hl:∀z∈b,z<256) (hb:b.length≤16777216) (ha:p≤b.length) (hq:q.length≤p) (h:(aA (b.drop p)).2.2≠0):
  Calls Tryz.prog 281 #[vP g 0,vQ lo,vQ hi] w (l7 W fs (uM fV 344)):=
 (Y2 W w g p A NA c nc b q sv fs lo hi hhi HW hin hbc hl hb ha hq).mono fun r w' h1 => by
  rcases h1 with ⟨x2,e2,NA,nc,h2,_⟩|⟨⟨x2,e2,h2,_⟩,_⟩|⟨_,h2⟩
  ·rw [h2.1] at h;exact absurd rfl h
  ·rw [h2.1] at h;exact absurd rfl h
  ·exact h2
def Y5 (W:World) (g p:Nat) (A:Option Addr) (c:Nat) (b q:List Nat) (sv:Value) (n:Nat) (fs:List Fact) (r:Ending) (w':World):Prop:=
 (∃xs e NA nc,mI b n p xs e∧r= .returned (.tuple #[])∧(q++xs).length≤nc∧Mem W w' (.blk g #[.slice A b.length c,vI e,.slice NA (q++xs).length nc,sv] 300:: .row (.slice NA (q++xs).length nc) (q++xs).length ((q++xs).map aR) 41 1::fs))∨((aY n (b.drop p)).2.2≠0∧l7 W fs (uM fV 344) r w')
theorem q2v {W w':World} {g p:Nat} {A:Option Addr} {c:Nat} {b q:List Nat} {sv:Value} {fs:List Fact} {r:Ending} {n:Nat} (h:(aY n (b.drop p)).2.2≠0) (hd:l7 W fs (uM fV 344) r w'):Y5 W g p A c b q sv n fs r w':= .inr ⟨h,hd⟩
theorem q2w {W w':World} {g p:Nat} {A:Option Addr} {c:Nat} {b q:List Nat} {sv:Value} {fs:List Fact} {r:Ending} {n e nc:Nat} {xs:List Nat} {NA:Option Addr} (h:mI b n p xs e) (hr:r= .returned (.tuple #[])) (hc:(q++xs).length≤nc) (hm:Mem W w' (.blk g #[.slice A b.length c,vI e,.slice NA (q++xs).length nc,sv] 300:: .row (.slice NA (q++xs).length nc) (q++xs).length ((q++xs).map aR) 41 1::fs)):Y5 W g p A c b q sv n fs r w':= .inl ⟨xs,e,NA,nc,h,hr,hc,hm⟩
theorem qvk (W w:World) (g p:Nat) (A NA:Option Addr) (c nc:Nat) (b q:List Nat) (sv:Value) (fs:List Fact) (n:Nat) (hnn:n≤1000000) (hnc:q.length≤nc) (HW:Mem W w (.blk g #[.slice A b.length c,vI p,.slice NA q.length nc,sv] 300:: .row (.slice NA q.length nc) q.length (q.map aR) 41 1::fs)) (hin:Rd W W.heap.size 1 A b.length (b.map B8)) (hbc:b.length≤c) (hl:∀z∈b,z<256) (hb:b.length≤16777216) (ha:p≤b.length) (hq:q.length≤p):
    Calls Tryz.prog 282 #[vP g 0,vI n] w (Y5 W g p A c b q sv n fs):=by
 refine (jw Tryz.func282 10) ?_
 intro a Z E
 replace E:=HW
 refine Jb Z E ((JP∘Jp 2∘Jq) fun a Z E=>?_)
 rw [←List.append_nil q] at E
 refine Jb Z E ((JG∘JB) fun a Z E=>?_)
 refine qc (fun mS aS wS=>∃(k:Nat) (xs:List Nat) (e:Nat) (NA:Option Addr) (nc:Nat),(mI b k p xs e)∧(k≤n)∧((q++xs).length≤nc)∧mS=n-k∧Fr aS 10 [] [(0,vP g 0),(4,vI n),(5,vI k)]∧Mem W wS (.blk g #[.slice A b.length c,vI e,.slice NA ((q++xs).length) nc,sv] 300:: .row (.slice NA ((q++xs).length) nc) ((q++xs).length) ((q++xs).map aR) 41 1::fs)) (m:=n-0) ⟨0,[],p,NA,nc,mI.nil b p,Nat.zero_le _,(by rw [List.append_nil];exact hnc),rfl,Z.sub kr,E.pt 2 [0,1]⟩ ?_
 clear Z E;rintro mS a w_ ⟨k,xs,e,NA,nc,hxs,hle,hnc,rfl,Z,E⟩
 have hin2:=hxs.in ha
 refine Jb Z E ((JP∘Jp 1∘Jj∘JQ) (Ji (fun hd6=>?_) fun hd6=>?_))
 ·
  refine (JT∘aG∘JQ∘JB) fun a Z E=>?_
  have hkn:k<n:=by omega
  rcases LH b e with hv|⟨x,e2,hv⟩
  ·
   refine Jb Z E ((JR∘Jp 1) fun a Z E=>?_)
   refine fo Z 1 rfl rfl ?_
   exact rR Z [vP g 0] rfl (Um W _ g e A NA c nc b (q++xs) sv _ (E.pt 2 [0,1]) hin hbc hl hb om (by rw [List.length_append];omega) hv) fun w2 E=>LD Z (q2v (hxs.stuck hkn hv) ⟨rfl,E⟩)
  ·
   refine Jb Z E ((JR∘Jp 1∘JL (h:=by exact fun E=>Ul W _ g e A NA c nc b (q++xs) sv _ (E.pt 2 [0,1]) hin hbc hl hb om (by rw [List.length_append];omega) hv)) ?_)
   rintro E _ w8 ⟨rfl,A8,c8,hc8,eX⟩
   refine ⟨_,rfl,_,eX,?_⟩
   refine (yN∘Jq) fun a Z E=>?_
   rw [List.append_assoc] at E
   refine Jb Z E ((JG∘JR∘bn 1∘Jp 1∘aQ∘Jq) fun a Z E=>?_)
   exact ⟨_,om,k+1,(xs++[x]),e2,A8,c8,hxs.snoc hv,hkn,(by rwa [List.append_assoc] at hc8),rfl,Z.sub kr,E.pt 2 [0,1]⟩
 refine (JF∘JX) ?_
 repeat (first|clear Z|clear E)
 intro a Z E
 obtain rfl:k=n:=by omega
 exact nA rfl Z (q2w hxs rfl hnc E)
theorem PS (W w:World) (g p:Nat) (A NA:Option Addr) (c nc:Nat) (b q:List Nat) (sv:Value) (fs:List Fact) (n:Nat) (hnn:n≤1000000) (hnc:q.length≤nc) (HW:Mem W w (.blk g #[.slice A b.length c,vI p,.slice NA q.length nc,sv] 300:: .row (.slice NA q.length nc) q.length (q.map aR) 41 1::fs)) (hin:Rd W W.heap.size 1 A b.length (b.map B8)) (hbc:b.length≤c) (hl:∀z∈b,z<256) (hb:b.length≤16777216) (ha:p≤b.length) (hq:q.length≤p) {xs:List Nat} {e:Nat} (h:mI b n p xs e):
  Calls Tryz.prog 282 #[vP g 0,vI n] w (fun r w'=>r= .returned (.tuple #[])∧∃NA nc,(q++xs).length≤nc∧Mem W w' (.blk g #[.slice A b.length c,vI e,.slice NA (q++xs).length nc,sv] 300:: .row (.slice NA (q++xs).length nc) (q++xs).length ((q++xs).map aR) 41 1::fs)):=
 (qvk W w g p A NA c nc b q sv fs n hnn hnc HW hin hbc hl hb ha hq).mono fun r w' h1 => by
  rcases h1 with ⟨x2,e2,NA,nc,h2,h3,h4,h5⟩|⟨h2,_⟩
  ·obtain ⟨rfl,rfl⟩:=mI.one h h2
   exact ⟨h3,NA,nc,h4,h5⟩
  ·rw [h.1] at h2;exact absurd rfl h2
theorem PU (W w:World) (g p:Nat) (A NA:Option Addr) (c nc:Nat) (b q:List Nat) (sv:Value) (fs:List Fact) (n:Nat) (hnn:n≤1000000) (hnc:q.length≤nc) (HW:Mem W w (.blk g #[.slice A b.length c,vI p,.slice NA q.length nc,sv] 300:: .row (.slice NA q.length nc) q.length (q.map aR) 41 1::fs)) (hin:Rd W W.heap.size 1 A b.length (b.map B8)) (hbc:b.length≤c) (hl:∀z∈b,z<256) (hb:b.length≤16777216) (ha:p≤b.length) (hq:q.length≤p) (h:(aY n (b.drop p)).2.2≠0):
  Calls Tryz.prog 282 #[vP g 0,vI n] w (l7 W fs (uM fV 344)):=
 (qvk W w g p A NA c nc b q sv fs n hnn hnc HW hin hbc hl hb ha hq).mono fun r w' h1 => by
  rcases h1 with ⟨x2,e2,NA,nc,h2,h3,h4,h5⟩|⟨_,h2⟩
  ·rw [h2.1] at h;exact absurd rfl h
  ·exact h2
theorem zep (W w:World) (g p:Nat) (iv nv:Value) (SA:Option Addr) (sc:Nat) (l:List jA) (nm:ByteArray) (fs:List Fact) (HW:Mem W w (.blk g #[iv,vI p,nv,.slice SA l.length sc] 300:: .row (.slice SA l.length sc) l.length (l.flatMap gM) 435 3::fs)) (hll:l.length≤1000):
    Calls Tryz.prog 279 #[vP g 0,.string nm] w (fun r w'=>r= .returned (.tuple #[])∧∃SA sc,(l++[(⟨nm,ng l,p⟩:jA)]).length≤sc∧Mem W w' (.blk g #[iv,vI p,nv,.slice SA (l++[(⟨nm,ng l,p⟩:jA)]).length sc] 300:: .row (.slice SA (l++[(⟨nm,ng l,p⟩:jA)]).length sc) (l++[(⟨nm,ng l,p⟩:jA)]).length ((l++[(⟨nm,ng l,p⟩:jA)]).flatMap gM) 435 3::fs)):=by
 refine (jw Tryz.func279 38) ?_
 intro a Z E
 replace E:=HW
 refine Jb Z E ((JP∘Jp 1∘Jj∘JQ∘JP∘Jp 1∘Jn∘Jg 3 O0∘Jl∘Jp 1∘eZ∘Jr∘Jp 2∘aQ∘Jj) (Ju (fun dR=>?_) fun dR=>?_))
 ·
  intro a Z E
  have iR:=of_decide_eq_true dR
  refine Jb Z E ((JT∘JR∘Jp 1∘Jn∘Jg 3 O0∘Jp 1∘yO 1) ?_)
  repeat (first|clear Z|clear E)
  intro a Z E
  obtain ⟨gSA,rfl⟩:=Dq (E.own (i:=1) rfl) (Nat.lt_of_le_of_lt (Nat.zero_le _) (show l.length-1<l.length from by omega))
  refine Jb Z E ((Jy (h:=by exact Yl.uV gSA (l.length-1) 3 rfl rfl rfl)∘Jf 2∘Jy (v:=vI ((l.getD (l.length-1) jA.zero).to)) (h:=by exact Yl.qj rfl rfl kr (fun _ h=>h.KV q6f (i:=1) rfl (k:=(l.length-1)) (off:=2) (x:=(l.getD (l.length-1) jA.zero)) ((getD_at jA.zero om)) rfl))∘Jo (vI (ng l)) (by exact rfl)∘Jp 1∘aF∘Jj∘Vs (.t (.f .n)) [16]) fun wd4=>(Vp [0,1,5,6,7]∘Vn 2∘Vf 3 3∘Vc 4 O0∘Vn 8∘Vf 9 1∘Vc 10 O0∘Vy 11 (v:= .agg #[.string nm,vI (ng l),vI p]) (h:=by exact Yl.build (vs:=[(0,.string nm),(1,vI (ng l)),(2,vI p)]) rfl kr kr)) fun a Z E HS=>?_)
  refine s_on Z 12 rfl (lT Z E Uk [(0,.agg #[.string nm,vI (ng l),vI p])] #[.string nm,vI (ng l),vI p] ?_)
  clear Z E;intro a Uo g34 Z E
  refine au (E.pt 3 [1]) (fun HS=>?_)
  refine s_on Z 13 rfl (qz Z E (i:=2) rfl Uk rfl rfl rfl (news:=([(⟨nm,ng l,p⟩:jA)].flatMap gM)) (E.aN (i:=0) (n:=1) (size:=3) rfl rfl) (q1h _) om om rfl de ?_)
  clear Z E;intro a PL F6 F7 Z E yx
  refine au (E.pt 3 [1]) (fun HS=>?_)
  refine Vb Z E HS ((Vn 14∘Vf 15 3) fun a Z E HS=>?_)
  refine s_on Z 16 rfl (lS Z E 1 ?_)
  clear E;intro PV E
  refine lG kr ?_
  refine qg kr ?_
  have mg:l.length+1=(l++[(⟨nm,ng l,p⟩:jA)]).length:=q0 rfl
  replace E:=E.aI (i:=2) (ys:=(l++[(⟨nm,ng l,p⟩:jA)]).flatMap gM) rfl mg (List.flatMap_append.symm)
  rw [mg] at yx
  replace Z:=Z.sp 35 (.slice F6 ((l++[(⟨nm,ng l,p⟩:jA)]).length) F7) rfl (by rw [mg])
  replace E:=E.dZ (i:=1) (ds:= #[iv,vI p,nv,.slice F6 ((l++[(⟨nm,ng l,p⟩:jA)]).length) F7]) rfl (by rw [mg];try rfl)
  exact nA rfl Z ⟨rfl,F6,F7,yx,E.pt 3 [1,2]⟩
 intro a Z E
 have iR:=of_decide_eq_false dR
 replace Z:=Z.sp 4 (vI (ng l)) rfl (by rw [q6x (l:=l) om];rfl)
 refine Jb Z E ((JF∘aG∘Vs (.t (.f .n)) [16]) fun wd4=>(Vp [0,1,5,6,7]∘Vn 2∘Vf 3 3∘Vc 4 O0∘Vn 8∘Vf 9 1∘Vc 10 O0∘Vy 11 (v:= .agg #[.string nm,vI (ng l),vI p]) (h:=by exact Yl.build (vs:=[(0,.string nm),(1,vI (ng l)),(2,vI p)]) rfl kr kr)) fun a Z E HS=>?_)
 refine s_on Z 12 rfl (lT Z E Uk [(0,.agg #[.string nm,vI (ng l),vI p])] #[.string nm,vI (ng l),vI p] ?_)
 clear Z E;intro a Uo g34 Z E
 refine au (E.pt 3 [1]) (fun HS=>?_)
 refine s_on Z 13 rfl (qz Z E (i:=2) rfl Uk rfl rfl rfl (news:=([(⟨nm,ng l,p⟩:jA)].flatMap gM)) (E.aN (i:=0) (n:=1) (size:=3) rfl rfl) (q1h _) om om rfl de ?_)
 clear Z E;intro a PL F6 F7 Z E yx
 refine au (E.pt 3 [1]) (fun HS=>?_)
 refine Vb Z E HS ((Vn 14∘Vf 15 3) fun a Z E HS=>?_)
 refine s_on Z 16 rfl (lS Z E 1 ?_)
 clear E;intro PV E
 refine lG kr ?_
 refine qg kr ?_
 have mg:l.length+1=(l++[(⟨nm,ng l,p⟩:jA)]).length:=q0 rfl
 replace E:=E.aI (i:=2) (ys:=(l++[(⟨nm,ng l,p⟩:jA)]).flatMap gM) rfl mg (List.flatMap_append.symm)
 rw [mg] at yx
 replace Z:=Z.sp 35 (.slice F6 ((l++[(⟨nm,ng l,p⟩:jA)]).length) F7) rfl (by rw [mg])
 replace E:=E.dZ (i:=1) (ds:= #[iv,vI p,nv,.slice F6 ((l++[(⟨nm,ng l,p⟩:jA)]).length) F7]) rfl (by rw [mg];try rfl)
 exact nA rfl Z ⟨rfl,F6,F7,yx,E.pt 3 [1,2]⟩
theorem Em (W w:World) (g p:Nat) (iv nv:Value) (SA:Option Addr) (sc:Nat) (l:List jA) (nm:ByteArray) (fs:List Fact) (HW:Mem W w (.blk g #[iv,vI p,nv,.slice SA l.length sc] 300:: .row (.slice SA l.length sc) l.length (l.flatMap gM) 435 3::fs)) (hll:l.length≤1000) {l2:List jA} (h:l++[(⟨nm,ng l,p⟩:jA)]=l2):
  Calls Tryz.prog 279 #[vP g 0,.string nm] w (fun r w'=>r= .returned (.tuple #[])∧∃SA sc,l2.length≤sc∧Mem W w' (.blk g #[iv,vI p,nv,.slice SA l2.length sc] 300:: .row (.slice SA l2.length sc) l2.length (l2.flatMap gM) 435 3::fs)):=by
 subst h
 exact zep W w g p iv nv SA sc l nm fs HW hll
def Uq (W:World) (g:Nat) (A:Option Addr) (c:Nat) (b:List Nat) (fs:List Fact) (r:Ending) (w':World):Prop:=
 (∃p NA nc SA sc,yY b= .ok p∧r= .returned (vI 0)∧p.nums.length≤nc∧p.secs.length≤sc∧Mem W w' (.blk g #[.slice A b.length c,vI ((b.length+4:Nat):Int),.slice NA p.nums.length nc,.slice SA p.secs.length sc] 300:: .row (.slice NA p.nums.length nc) p.nums.length (p.nums.map aR) 41 1:: .row (.slice SA p.secs.length sc) p.secs.length (p.secs.flatMap gM) 435 3::fs))∨(∃k:Nat,yY b= .error k∧r= .returned (vI k)∧Mem W w' fs)
section
variable {W w:World} {g g2 c k i n:Nat} {A:Option Addr} {b:List Nat} {fs ks:List Fact} {σ:List (Nat×Value)} {a:Act}
theorem xk (Z:Fr a n [{target:= .fn (.func 278) [Value.pointer (some ⟨g2,0,none⟩)].toArray,args:= #[]}] σ) (h2:σ.lookup 2=some (vP g2 0)) (E:Mem W w ks) (hi:ks[i]?=some (.blk g2 #[vI 0] fV)) (hp:yY b= .error k) (j:List Nat) (hj:j.Nodup) (he:picks (ks.set i (.blk g2 #[vI k] fV)) j=fs):
  Leaves Tryz.prog Tryz.f240 a.tmps (Uq W g A c b fs) a.defers (.panicking (uM fV k)) w:=by
 refine qxe (v:=vI k) Z kr (q15 k 0 w E hi rfl) rfl fun w' hm=>⟨?_,.inr ⟨k,hp,rfl,hm.picks j hj he⟩⟩
 have hl:=(List.getElem?_eq_some_iff.1 hi).1
 exact nY.cell1 (i:=i) Z hm h2 (List.getElem?_set_self hl) kr rfl
theorem q7h (Z:Fr a n [{target:= .fn (.func 278) [Value.pointer (some ⟨g2,0,none⟩)].toArray,args:= #[]}] σ) (h2:σ.lookup 2=some (vP g2 0)) (E:Mem W w ks) (hi:ks[i]?=some (.blk g2 #[vI 0] fV)) (hk:∀w',Mem W w' (ks.set i (.blk g2 #[vI 0] fV))→Uq W g A c b fs (.returned (vI 0)) w'):
  Leaves Tryz.prog Tryz.f240 a.tmps (Uq W g A c b fs) a.defers .returning w:=by
 refine q10 (v:=vI 0) Z kr (qxf 0 w E hi rfl) rfl fun w' hm=>⟨?_,hk w' hm⟩
 have hl:=(List.getElem?_eq_some_iff.1 hi).1
 exact nY.cell1 (i:=i) Z hm h2 (List.getElem?_set_self hl) kr rfl
end
theorem qvm (nx cp cr gp:Nat) (gs cl cu:List Nat) (tk:Nat) (ts sp:List Nat) (e1 e2 e3 e4 e5 e6 e7:Nat):(⟨nx,cp,cr,gp,gs,cl,cu,tk,ts,sp,e1,e2,e3,e4,e5,e6,e7⟩:Pr).nums=((((((((((([]:List Nat)++[nx])++[cp])++[cr])++[gp])++gs)++cl)++cu)++[tk])++ts)++sp):=by simp [Pr.nums]
theorem qvn (W w : World) (g : Nat) (A : Option Addr) (c : Nat) (b : List Nat) (HW : Mem W w [.blk g #[.slice A b.length c, vI 0, vN, vN] 300]) (hin : Rd W W.heap.size 1 A b.length (b.map B8)) (hbc : b.length ≤ c) (hl : ∀ z ∈ b, z < 256) (hb : b.length ≤ 16777216) (hb3 : 3 ≤ b.length) :
    Calls Tryz.prog 240 #[vP g 0] w (Uq W g A c b []):=by
 refine qp6 (vs:=[vP g 0]) Tryz.func240 rfl rfl kr (σ0:=[(0,vP g 0)]) rfl ?_
 intro a Z
 have E:=Mem.start w
 replace E:=(HW.nil 435 3).nil 41 1
 have hc0:([]:List Nat).length≤0:=Nat.le_refl _
 have hp:yY b=yY b:=rfl
 have hq0:([]:List Nat).length≤3:=Nat.zero_le _
 refine Jb Z E ((JP∘JA #[vI 0]) fun w2 g2=>(Jr∘Jy (h:=by exact Yl.makeFunc (fst:=[]) (caps:=[vP g2 0]) rfl rfl rfl)) fun a Z E=>?_)
 refine fo Z 1 rfl rfl ?_
 refine zbe Z (f:=278) (caps:=[vP g2 0]) rfl rfl rfl ?_
 clear Z;intro a Z
 refine Jb Z E ((wK∘Jr∘Jp 1∘Jn∘Jf 1∘JW xR gQ) fun tK=>(Dr∘Jr∘Jp 1∘JL (h:=by exact fun E=>Em (l2:=[qe]) W _ g 3 _ _ none 0 ([]:List jA) _ _ (E.pk [3,2,0,1]) (Nat.le_of_ble_eq_true rfl) rfl)) ?_)
 rintro E _ ru ⟨rfl,PW,k10,hk10,eX⟩
 refine ⟨_,rfl,_,eX,?_⟩
 refine (yN∘Jq) fun a Z E=>?_
 replace E:Mem W _ [.blk g #[.slice A b.length c,vI 3,.slice none (([]:List Nat).length) 0,.slice PW ([qe].length) k10] 300,.row (.slice PW ([qe].length) k10) ([qe].length) ([qe].flatMap gM) 435 3,.blk g2 #[vI 0] 27,.row (.slice none (([]:List Nat).length) 0) (([]:List Nat).length) (([]:List Nat).map aR) 41 1]:=E
 refine Jb Z E ((JG∘JQ) fun a Z E=>?_)
 rcases LH b 3 with qK|⟨nx,e1,qK⟩
 ·
  refine Jb Z E ((JR∘Jp 1) fun a Z E=>?_)
  refine fo Z 1 rfl rfl ?_
  exact rR Z [vP g 0] rfl (Um W _ g 3 A none c 0 b ([]:List Nat) (.slice PW ([qe].length) k10) _ (E.pk [0,3,1,2]) hin hbc hl hb hb3 hq0 qK) fun w2 E=>xk Z rfl E (i:=1) rfl (hp.trans (TN qK)) [] de rfl
 ·
  have hp:=hp.trans qK.go1
  have tL:=qK.in hb3
  have xq:=tq (x:=nx) hq0 tL.1
  refine Jb Z E ((JR∘Jp 1∘JL (h:=by exact fun E=>Ul W _ g 3 A none c 0 b ([]:List Nat) (.slice PW ([qe].length) k10) _ (E.pk [0,3,1,2]) hin hbc hl hb hb3 hq0 qK)) ?_)
  rintro E _ Ld ⟨rfl,Bn,c12,I7,eX⟩
  refine ⟨_,rfl,_,eX,?_⟩
  refine (yN∘Jr∘Jp 1∘JL (h:=by exact fun E=>Em (l2:=[qe,⟨qa 0,3,e1⟩]) W _ g e1 _ _ PW k10 ([qe]) _ _ (E.pk [0,2,1,3]) (Nat.le_of_ble_eq_true rfl) rfl)) ?_
  rintro E _ Fj ⟨rfl,Bo,k14,I8,eX⟩
  refine ⟨_,rfl,_,eX,?_⟩
  refine (yN∘Jq) fun a Z E=>?_
  replace E:Mem W _ [.blk g #[.slice A b.length c,vI e1,.slice Bn ((([]:List Nat)++[nx]).length) c12,.slice Bo ([qe,⟨qa 0,3,e1⟩].length) k14] 300,.row (.slice Bo ([qe,⟨qa 0,3,e1⟩].length) k14) ([qe,⟨qa 0,3,e1⟩].length) ([qe,⟨qa 0,3,e1⟩].flatMap gM) 435 3,.row (.slice Bn ((([]:List Nat)++[nx]).length) c12) ((([]:List Nat)++[nx]).length) ((([]:List Nat)++[nx]).map aR) 41 1,.blk g2 #[vI 0] 27]:=E
  refine Jb Z E ((JG∘JQ) fun a Z E=>?_)
  rcases TQ b e1 1 64 with mh|⟨cp,a1,mh,tN⟩|⟨cp,a1,mh,tN⟩
  ·
   refine Jb Z E ((JR∘Jp 1) fun a Z E=>?_)
   refine fo Z 1 rfl rfl ?_
   exact rR Z [vP g 0,vQ 1,vQ 64] rfl (Y4 W _ g e1 A Bn c c12 b (([]:List Nat)++[nx]) (.slice Bo ([qe,⟨qa 0,3,e1⟩].length) k14) _ 1 64 de (E.pk [0,2,1,3]) hin hbc hl hb tL.2 xq mh) fun w2 E=>xk Z rfl E (i:=1) rfl (hp.trans (TP mh)) [] de rfl
  ·
   refine Jb Z E ((JR∘Jp 1) fun a Z E=>?_)
   refine fo Z 1 rfl rfl ?_
   exact rR Z [vP g 0,vQ 1,vQ 64] rfl (Y3 W _ g e1 A Bn c c12 b (([]:List Nat)++[nx]) (.slice Bo ([qe,⟨qa 0,3,e1⟩].length) k14) _ 1 64 de (E.pk [0,2,1,3]) hin hbc hl hb tL.2 xq mh tN) fun w2 E=>xk Z rfl E (i:=1) rfl (hp.trans (mh.bad tN)) [] de rfl
  ·
   have hp:=hp.trans (mh.goC tN)
   have xu:=mh.in tL.2
   have Bp:=tq (x:=cp) xq xu.1
   refine Jb Z E ((JR∘Jp 1∘JL (h:=by exact fun E=>Un W _ g e1 A Bn c c12 b (([]:List Nat)++[nx]) (.slice Bo ([qe,⟨qa 0,3,e1⟩].length) k14) _ 1 64 de (E.pk [0,2,1,3]) hin hbc hl hb tL.2 xq mh tN)) ?_)
   rintro E _ w16 ⟨rfl,jg,c16,hc16,eX⟩
   refine ⟨_,rfl,_,eX,?_⟩
   refine (Jp 1∘aT∘Jj∘JQ) fun a Z E=>?_
   rcases LH b a1 with qL|⟨cr,a2,qL⟩
   ·
    refine Jb Z E ((JR∘Jp 1) fun a Z E=>?_)
    refine fo Z 1 rfl rfl ?_
    exact rR Z [vP g 0] rfl (Um W _ g a1 A jg c c16 b ((([]:List Nat)++[nx])++[cp]) (.slice Bo ([qe,⟨qa 0,3,e1⟩].length) k14) _ (E.pk [0,1,2,3]) hin hbc hl hb xu.2 Bp qL) fun w2 E=>xk Z rfl E (i:=1) rfl (hp.trans (TN qL)) [] de rfl
   ·
    have hp:=hp.trans qL.go1
    have tO:=qL.in xu.2
    have xw:=tq (x:=cr) Bp tO.1
    refine Jb Z E ((JR∘Jp 1∘JL (h:=by exact fun E=>Ul W _ g a1 A jg c c16 b ((([]:List Nat)++[nx])++[cp]) (.slice Bo ([qe,⟨qa 0,3,e1⟩].length) k14) _ (E.pk [0,1,2,3]) hin hbc hl hb xu.2 Bp qL)) ?_)
    rintro E _ K5 ⟨rfl,PX,c18,hc18,eX⟩
    refine ⟨_,rfl,_,eX,?_⟩
    refine (yN∘Jj∘JQ) fun a Z E=>?_
    rcases TQ b a2 1 256 with mo|⟨gp,e2,mo,tQ⟩|⟨gp,e2,mo,tQ⟩
    ·
     refine Jb Z E ((JR∘Jp 1) fun a Z E=>?_)
     refine fo Z 1 rfl rfl ?_
     exact rR Z [vP g 0,vQ 1,vQ 256] rfl (Y4 W _ g a2 A PX c c18 b (((([]:List Nat)++[nx])++[cp])++[cr]) (.slice Bo ([qe,⟨qa 0,3,e1⟩].length) k14) _ 1 256 de (E.pk [0,1,2,3]) hin hbc hl hb tO.2 xw mo) fun w2 E=>xk Z rfl E (i:=1) rfl (hp.trans (TP mo)) [] de rfl
    ·
     refine Jb Z E ((JR∘Jp 1) fun a Z E=>?_)
     refine fo Z 1 rfl rfl ?_
     exact rR Z [vP g 0,vQ 1,vQ 256] rfl (Y3 W _ g a2 A PX c c18 b (((([]:List Nat)++[nx])++[cp])++[cr]) (.slice Bo ([qe,⟨qa 0,3,e1⟩].length) k14) _ 1 256 de (E.pk [0,1,2,3]) hin hbc hl hb tO.2 xw mo tQ) fun w2 E=>xk Z rfl E (i:=1) rfl (hp.trans (mo.bad tQ)) [] de rfl
    ·
     have hp:=hp.trans (mo.goC tQ)
     have xA:=mo.in tO.2
     have Bq:=tq (x:=gp) xw xA.1
     refine Jb Z E ((JR∘Jp 1∘JL (h:=by exact fun E=>Un W _ g a2 A PX c c18 b (((([]:List Nat)++[nx])++[cp])++[cr]) (.slice Bo ([qe,⟨qa 0,3,e1⟩].length) k14) _ 1 256 de (E.pk [0,1,2,3]) hin hbc hl hb tO.2 xw mo tQ)) ?_)
     rintro E _ nZ ⟨rfl,LZ,c20,yw,eX⟩
     refine ⟨_,rfl,_,eX,?_⟩
     refine (Jp 1∘aT∘Jq) fun a Z E=>?_
     have h3:3*cp*(gp-1)≤192*255:=Nat.mul_le_mul om om
     refine Jb Z E ((JG∘JP∘Jp 1∘JL (h:=by exact fun E=>Em (l2:=[qe,⟨qa 0,3,e1⟩,⟨qa 1,e1,e2⟩]) W _ g e2 _ _ Bo k14 ([qe,⟨qa 0,3,e1⟩]) _ _ (E.pk [0,2,1,3]) (Nat.le_of_ble_eq_true rfl) rfl)) ?_)
     rintro E _ Fg ⟨rfl,PY,k22,aqS,eX⟩
     refine ⟨_,rfl,_,eX,?_⟩
     refine (yN∘Jq) fun a Z E=>?_
     replace E:Mem W _ [.blk g #[.slice A b.length c,vI e2,.slice LZ (((((([]:List Nat)++[nx])++[cp])++[cr])++[gp]).length) c20,.slice PY ([qe,⟨qa 0,3,e1⟩,⟨qa 1,e1,e2⟩].length) k22] 300,.row (.slice PY ([qe,⟨qa 0,3,e1⟩,⟨qa 1,e1,e2⟩].length) k22) ([qe,⟨qa 0,3,e1⟩,⟨qa 1,e1,e2⟩].length) ([qe,⟨qa 0,3,e1⟩,⟨qa 1,e1,e2⟩].flatMap gM) 435 3,.row (.slice LZ (((((([]:List Nat)++[nx])++[cp])++[cr])++[gp]).length) c20) (((((([]:List Nat)++[nx])++[cp])++[cr])++[gp]).length) (((((([]:List Nat)++[nx])++[cp])++[cr])++[gp]).map aR) 41 1,.blk g2 #[vI 0] 27]:=E
     refine Jb Z E ((JG∘JQ) fun a Z E=>?_)
     rcases LJ b (2*(gp-1)) e2 with qM|⟨gs,e3,qM⟩
     ·
      refine Jb Z E ((JR∘Jp 2∘yO 1∘Jp 1∘Jo (vI (2*(gp-1):Nat)) (by exact wJ om om)) fun a Z E=>?_)
      refine fo Z 4 rfl rfl ?_
      exact rR Z [vP g 0,vI (2*(gp-1):Nat)] rfl (PU W _ g e2 A LZ c c20 b ((((([]:List Nat)++[nx])++[cp])++[cr])++[gp]) (.slice PY ([qe,⟨qa 0,3,e1⟩,⟨qa 1,e1,e2⟩].length) k22) _ (2*(gp-1)) om yw (E.pk [0,2,1,3]) hin hbc hl hb xA.2 Bq qM) fun w2 E=>xk Z rfl E (i:=1) rfl (hp.trans (LG qM)) [] de rfl
     ·
      have hp:=hp.trans qM.goK
      have tT:=qM.in xA.2
      have Br:=tu (xs:=gs) Bq tT.1 tT.2.1
      refine Jb Z E ((JR∘Jp 2∘yO 1∘Jp 1∘Jo (vI (2*(gp-1):Nat)) (by exact wJ om om)∘JL (h:=by exact fun E=>PS W _ g e2 A LZ c c20 b ((((([]:List Nat)++[nx])++[cp])++[cr])++[gp]) (.slice PY ([qe,⟨qa 0,3,e1⟩,⟨qa 1,e1,e2⟩].length) k22) _ (2*(gp-1)) om yw (E.pk [0,2,1,3]) hin hbc hl hb xA.2 Bq qM)) ?_)
      rintro E _ LW ⟨rfl,yA,uP,hc27,eX⟩
      refine ⟨_,rfl,_,eX,?_⟩
      refine (E9∘Jr∘Jp 1∘JL (h:=by exact fun E=>Em (l2:=[qe,⟨qa 0,3,e1⟩,⟨qa 1,e1,e2⟩,⟨qa 2,e2,e3⟩]) W _ g e3 _ _ PY k22 ([qe,⟨qa 0,3,e1⟩,⟨qa 1,e1,e2⟩]) _ _ (E.pk [0,2,1,3]) (Nat.le_of_ble_eq_true rfl) rfl)) ?_
      rintro E _ Dz ⟨rfl,PZ,P5,aqT,eX⟩
      refine ⟨_,rfl,_,eX,?_⟩
      refine (yN∘Jq) fun a Z E=>?_
      replace E:Mem W _ [.blk g #[.slice A b.length c,vI e3,.slice yA ((((((([]:List Nat)++[nx])++[cp])++[cr])++[gp])++gs).length) uP,.slice PZ ([qe,⟨qa 0,3,e1⟩,⟨qa 1,e1,e2⟩,⟨qa 2,e2,e3⟩].length) P5] 300,.row (.slice PZ ([qe,⟨qa 0,3,e1⟩,⟨qa 1,e1,e2⟩,⟨qa 2,e2,e3⟩].length) P5) ([qe,⟨qa 0,3,e1⟩,⟨qa 1,e1,e2⟩,⟨qa 2,e2,e3⟩].length) ([qe,⟨qa 0,3,e1⟩,⟨qa 1,e1,e2⟩,⟨qa 2,e2,e3⟩].flatMap gM) 435 3,.row (.slice yA ((((((([]:List Nat)++[nx])++[cp])++[cr])++[gp])++gs).length) uP) ((((((([]:List Nat)++[nx])++[cp])++[cr])++[gp])++gs).length) ((((((([]:List Nat)++[nx])++[cp])++[cr])++[gp])++gs).map aR) 41 1,.blk g2 #[vI 0] 27]:=E
      refine Jb Z E ((JG∘JQ) fun a Z E=>?_)
      rcases LJ b cp e3 with qN|⟨cl,e4,qN⟩
      ·
       refine Jb Z E ((JR∘Jp 2) fun a Z E=>?_)
       refine fo Z 2 rfl rfl ?_
       exact rR Z [vP g 0,vI cp] rfl (PU W _ g e3 A yA c uP b (((((([]:List Nat)++[nx])++[cp])++[cr])++[gp])++gs) (.slice PZ ([qe,⟨qa 0,3,e1⟩,⟨qa 1,e1,e2⟩,⟨qa 2,e2,e3⟩].length) P5) _ cp om hc27 (E.pk [0,2,1,3]) hin hbc hl hb tT.2.2 Br qN) fun w2 E=>xk Z rfl E (i:=1) rfl (hp.trans (LG qN)) [] de rfl
      ·
       have hp:=hp.trans qN.goK
       have tV:=qN.in tT.2.2
       have Bt:=tu (xs:=cl) Br tV.1 tV.2.1
       refine Jb Z E ((JR∘Jp 2∘JL (h:=by exact fun E=>PS W _ g e3 A yA c uP b (((((([]:List Nat)++[nx])++[cp])++[cr])++[gp])++gs) (.slice PZ ([qe,⟨qa 0,3,e1⟩,⟨qa 1,e1,e2⟩,⟨qa 2,e2,e3⟩].length) P5) _ cp om hc27 (E.pk [0,2,1,3]) hin hbc hl hb tT.2.2 Br qN)) ?_)
       rintro E _ w32 ⟨rfl,pR,c32,hc32,eX⟩
       refine ⟨_,rfl,_,eX,?_⟩
       refine (Dr∘Jr∘Jp 1∘JL (h:=by exact fun E=>Em (l2:=[qe,⟨qa 0,3,e1⟩,⟨qa 1,e1,e2⟩,⟨qa 2,e2,e3⟩,⟨qa 3,e3,e4⟩]) W _ g e4 _ _ PZ P5 ([qe,⟨qa 0,3,e1⟩,⟨qa 1,e1,e2⟩,⟨qa 2,e2,e3⟩]) _ _ (E.pk [0,2,1,3]) (Nat.le_of_ble_eq_true rfl) rfl)) ?_
       rintro E _ Uo ⟨rfl,P6,P7,yB,eX⟩
       refine ⟨_,rfl,_,eX,?_⟩
       refine (yN∘Jq) fun a Z E=>?_
       replace E:Mem W _ [.blk g #[.slice A b.length c,vI e4,.slice pR (((((((([]:List Nat)++[nx])++[cp])++[cr])++[gp])++gs)++cl).length) c32,.slice P6 ([qe,⟨qa 0,3,e1⟩,⟨qa 1,e1,e2⟩,⟨qa 2,e2,e3⟩,⟨qa 3,e3,e4⟩].length) P7] 300,.row (.slice P6 ([qe,⟨qa 0,3,e1⟩,⟨qa 1,e1,e2⟩,⟨qa 2,e2,e3⟩,⟨qa 3,e3,e4⟩].length) P7) ([qe,⟨qa 0,3,e1⟩,⟨qa 1,e1,e2⟩,⟨qa 2,e2,e3⟩,⟨qa 3,e3,e4⟩].length) ([qe,⟨qa 0,3,e1⟩,⟨qa 1,e1,e2⟩,⟨qa 2,e2,e3⟩,⟨qa 3,e3,e4⟩].flatMap gM) 435 3,.row (.slice pR (((((((([]:List Nat)++[nx])++[cp])++[cr])++[gp])++gs)++cl).length) c32) (((((((([]:List Nat)++[nx])++[cp])++[cr])++[gp])++gs)++cl).length) (((((((([]:List Nat)++[nx])++[cp])++[cr])++[gp])++gs)++cl).map aR) 41 1,.blk g2 #[vI 0] 27]:=E
       refine Jb Z E ((JG∘JQ) fun a Z E=>?_)
       rcases LJ b cp e4 with qO|⟨cu,e5,qO⟩
       ·
        refine Jb Z E ((JR∘Jp 2) fun a Z E=>?_)
        refine fo Z 2 rfl rfl ?_
        exact rR Z [vP g 0,vI cp] rfl (PU W _ g e4 A pR c c32 b ((((((([]:List Nat)++[nx])++[cp])++[cr])++[gp])++gs)++cl) (.slice P6 ([qe,⟨qa 0,3,e1⟩,⟨qa 1,e1,e2⟩,⟨qa 2,e2,e3⟩,⟨qa 3,e3,e4⟩].length) P7) _ cp om hc32 (E.pk [0,2,1,3]) hin hbc hl hb tV.2.2 Bt qO) fun w2 E=>xk Z rfl E (i:=1) rfl (hp.trans (LG qO)) [] de rfl
       ·
        have hp:=hp.trans qO.goK
        have oN:=qO.in tV.2.2
        have tX:=tu (xs:=cu) Bt oN.1 oN.2.1
        refine Jb Z E ((JR∘Jp 2∘JL (h:=by exact fun E=>PS W _ g e4 A pR c c32 b ((((((([]:List Nat)++[nx])++[cp])++[cr])++[gp])++gs)++cl) (.slice P6 ([qe,⟨qa 0,3,e1⟩,⟨qa 1,e1,e2⟩,⟨qa 2,e2,e3⟩,⟨qa 3,e3,e4⟩].length) P7) _ cp om hc32 (E.pk [0,2,1,3]) hin hbc hl hb tV.2.2 Bt qO)) ?_)
        rintro E _ CS ⟨rfl,lJ,c37,jF,eX⟩
        refine ⟨_,rfl,_,eX,?_⟩
        refine (Dr∘Jr∘Jp 1∘JL (h:=by exact fun E=>Em (l2:=[qe,⟨qa 0,3,e1⟩,⟨qa 1,e1,e2⟩,⟨qa 2,e2,e3⟩,⟨qa 3,e3,e4⟩,⟨qa 4,e4,e5⟩]) W _ g e5 _ _ P6 P7 ([qe,⟨qa 0,3,e1⟩,⟨qa 1,e1,e2⟩,⟨qa 2,e2,e3⟩,⟨qa 3,e3,e4⟩]) _ _ (E.pk [0,2,1,3]) (Nat.le_of_ble_eq_true rfl) rfl)) ?_
        rintro E _ w39 ⟨rfl,En,Eo,aqU,eX⟩
        refine ⟨_,rfl,_,eX,?_⟩
        refine (yN∘Jq) fun a Z E=>?_
        replace E:Mem W _ [.blk g #[.slice A b.length c,vI e5,.slice lJ ((((((((([]:List Nat)++[nx])++[cp])++[cr])++[gp])++gs)++cl)++cu).length) c37,.slice En ([qe,⟨qa 0,3,e1⟩,⟨qa 1,e1,e2⟩,⟨qa 2,e2,e3⟩,⟨qa 3,e3,e4⟩,⟨qa 4,e4,e5⟩].length) Eo] 300,.row (.slice En ([qe,⟨qa 0,3,e1⟩,⟨qa 1,e1,e2⟩,⟨qa 2,e2,e3⟩,⟨qa 3,e3,e4⟩,⟨qa 4,e4,e5⟩].length) Eo) ([qe,⟨qa 0,3,e1⟩,⟨qa 1,e1,e2⟩,⟨qa 2,e2,e3⟩,⟨qa 3,e3,e4⟩,⟨qa 4,e4,e5⟩].length) ([qe,⟨qa 0,3,e1⟩,⟨qa 1,e1,e2⟩,⟨qa 2,e2,e3⟩,⟨qa 3,e3,e4⟩,⟨qa 4,e4,e5⟩].flatMap gM) 435 3,.row (.slice lJ ((((((((([]:List Nat)++[nx])++[cp])++[cr])++[gp])++gs)++cl)++cu).length) c37) ((((((((([]:List Nat)++[nx])++[cp])++[cr])++[gp])++gs)++cl)++cu).length) ((((((((([]:List Nat)++[nx])++[cp])++[cr])++[gp])++gs)++cl)++cu).map aR) 41 1,.blk g2 #[vI 0] 27]:=E
        refine Jb Z E ((JG∘JQ) fun a Z E=>?_)
        rcases TQ b e5 0 65535 with kG|⟨tk,a3,kG,qP⟩|⟨tk,a3,kG,qP⟩
        ·
         refine Jb Z E ((JR∘Jp 2) fun a Z E=>?_)
         refine fo Z 2 rfl rfl ?_
         exact rR Z [vP g 0,vQ 0,vQ 65535] rfl (Y4 W _ g e5 A lJ c c37 b (((((((([]:List Nat)++[nx])++[cp])++[cr])++[gp])++gs)++cl)++cu) (.slice En ([qe,⟨qa 0,3,e1⟩,⟨qa 1,e1,e2⟩,⟨qa 2,e2,e3⟩,⟨qa 3,e3,e4⟩,⟨qa 4,e4,e5⟩].length) Eo) _ 0 65535 de (E.pk [0,2,1,3]) hin hbc hl hb oN.2.2 tX kG) fun w2 E=>xk Z rfl E (i:=1) rfl (hp.trans (TP kG)) [] de rfl
        ·
         refine Jb Z E ((JR∘Jp 2) fun a Z E=>?_)
         refine fo Z 2 rfl rfl ?_
         exact rR Z [vP g 0,vQ 0,vQ 65535] rfl (Y3 W _ g e5 A lJ c c37 b (((((((([]:List Nat)++[nx])++[cp])++[cr])++[gp])++gs)++cl)++cu) (.slice En ([qe,⟨qa 0,3,e1⟩,⟨qa 1,e1,e2⟩,⟨qa 2,e2,e3⟩,⟨qa 3,e3,e4⟩,⟨qa 4,e4,e5⟩].length) Eo) _ 0 65535 de (E.pk [0,2,1,3]) hin hbc hl hb oN.2.2 tX kG qP) fun w2 E=>xk Z rfl E (i:=1) rfl (hp.trans (kG.bad qP)) [] de rfl
        ·
         have hp:=hp.trans (kG.goC qP)
         have xB:=kG.in oN.2.2
         have Bu:=tq (x:=tk) tX xB.1
         rcases LJ b (8*tk) a3 with qQ|⟨ts,e6,qQ⟩
         ·
          refine Jb Z E ((JR∘Jp 2∘JL (h:=by exact fun E=>Un W _ g e5 A lJ c c37 b (((((((([]:List Nat)++[nx])++[cp])++[cr])++[gp])++gs)++cl)++cu) (.slice En ([qe,⟨qa 0,3,e1⟩,⟨qa 1,e1,e2⟩,⟨qa 2,e2,e3⟩,⟨qa 3,e3,e4⟩,⟨qa 4,e4,e5⟩].length) Eo) _ 0 65535 de (E.pk [0,2,1,3]) hin hbc hl hb oN.2.2 tX kG qP)) ?_)
          rintro E _ NV ⟨rfl,Y6,Y7,I9,eX⟩
          refine ⟨_,rfl,_,eX,?_⟩
          refine (Jp 1∘Jo (vI (8*tk:Nat)) (by exact wJ om om)) fun a Z E=>?_
          refine fo Z 4 rfl rfl ?_
          exact rR Z [vP g 0,vI (8*tk:Nat)] rfl (PU W _ g a3 A Y6 c Y7 b ((((((((([]:List Nat)++[nx])++[cp])++[cr])++[gp])++gs)++cl)++cu)++[tk]) (.slice En ([qe,⟨qa 0,3,e1⟩,⟨qa 1,e1,e2⟩,⟨qa 2,e2,e3⟩,⟨qa 3,e3,e4⟩,⟨qa 4,e4,e5⟩].length) Eo) _ (8*tk) om I9 (E.pk [0,1,2,3]) hin hbc hl hb xB.2 Bu qQ) fun w2 E=>xk Z rfl E (i:=1) rfl (hp.trans (LG qQ)) [] de rfl
         ·
          have hp:=hp.trans qQ.goK
          have tY:=qQ.in xB.2
          have Bv:=tu (xs:=ts) Bu tY.1 tY.2.1
          refine Jb Z E ((JR∘Jp 2∘JL (h:=by exact fun E=>Un W _ g e5 A lJ c c37 b (((((((([]:List Nat)++[nx])++[cp])++[cr])++[gp])++gs)++cl)++cu) (.slice En ([qe,⟨qa 0,3,e1⟩,⟨qa 1,e1,e2⟩,⟨qa 2,e2,e3⟩,⟨qa 3,e3,e4⟩,⟨qa 4,e4,e5⟩].length) Eo) _ 0 65535 de (E.pk [0,2,1,3]) hin hbc hl hb oN.2.2 tX kG qP)) ?_)
          rintro E _ NV ⟨rfl,Y6,Y7,I9,eX⟩
          refine ⟨_,rfl,_,eX,?_⟩
          refine (Jp 1∘Jo (vI (8*tk:Nat)) (by exact wJ om om)∘JL (h:=by exact fun E=>PS W _ g a3 A Y6 c Y7 b ((((((((([]:List Nat)++[nx])++[cp])++[cr])++[gp])++gs)++cl)++cu)++[tk]) (.slice En ([qe,⟨qa 0,3,e1⟩,⟨qa 1,e1,e2⟩,⟨qa 2,e2,e3⟩,⟨qa 3,e3,e4⟩,⟨qa 4,e4,e5⟩].length) Eo) _ (8*tk) om I9 (E.pk [0,1,2,3]) hin hbc hl hb xB.2 Bu qQ)) ?_
          rintro E _ Nv ⟨rfl,wQ,wR,sS,eX⟩
          refine ⟨_,rfl,_,eX,?_⟩
          refine (E9∘Jr∘Jp 1∘JL (h:=by exact fun E=>Em (l2:=[qe,⟨qa 0,3,e1⟩,⟨qa 1,e1,e2⟩,⟨qa 2,e2,e3⟩,⟨qa 3,e3,e4⟩,⟨qa 4,e4,e5⟩,⟨qa 5,e5,e6⟩]) W _ g e6 _ _ En Eo ([qe,⟨qa 0,3,e1⟩,⟨qa 1,e1,e2⟩,⟨qa 2,e2,e3⟩,⟨qa 3,e3,e4⟩,⟨qa 4,e4,e5⟩]) _ _ (E.pk [0,2,1,3]) (Nat.le_of_ble_eq_true rfl) rfl)) ?_
          rintro E _ K7 ⟨rfl,P8,P9,aqV,eX⟩
          refine ⟨_,rfl,_,eX,?_⟩
          refine (yN∘Jq) fun a Z E=>?_
          replace E:Mem W _ [.blk g #[.slice A b.length c,vI e6,.slice wQ ((((((((((([]:List Nat)++[nx])++[cp])++[cr])++[gp])++gs)++cl)++cu)++[tk])++ts).length) wR,.slice P8 ([qe,⟨qa 0,3,e1⟩,⟨qa 1,e1,e2⟩,⟨qa 2,e2,e3⟩,⟨qa 3,e3,e4⟩,⟨qa 4,e4,e5⟩,⟨qa 5,e5,e6⟩].length) P9] 300,.row (.slice P8 ([qe,⟨qa 0,3,e1⟩,⟨qa 1,e1,e2⟩,⟨qa 2,e2,e3⟩,⟨qa 3,e3,e4⟩,⟨qa 4,e4,e5⟩,⟨qa 5,e5,e6⟩].length) P9) ([qe,⟨qa 0,3,e1⟩,⟨qa 1,e1,e2⟩,⟨qa 2,e2,e3⟩,⟨qa 3,e3,e4⟩,⟨qa 4,e4,e5⟩,⟨qa 5,e5,e6⟩].length) ([qe,⟨qa 0,3,e1⟩,⟨qa 1,e1,e2⟩,⟨qa 2,e2,e3⟩,⟨qa 3,e3,e4⟩,⟨qa 4,e4,e5⟩,⟨qa 5,e5,e6⟩].flatMap gM) 435 3,.row (.slice wQ ((((((((((([]:List Nat)++[nx])++[cp])++[cr])++[gp])++gs)++cl)++cu)++[tk])++ts).length) wR) ((((((((((([]:List Nat)++[nx])++[cp])++[cr])++[gp])++gs)++cl)++cu)++[tk])++ts).length) ((((((((((([]:List Nat)++[nx])++[cp])++[cr])++[gp])++gs)++cl)++cu)++[tk])++ts).map aR) 41 1,.blk g2 #[vI 0] 27]:=E
          refine Jb Z E ((JG∘JQ) fun a Z E=>?_)
          rcases LJ b (cp+3*cp*(gp-1)) e6 with qR|⟨sp,e7,qR⟩
          ·
           refine Jb Z E ((JR∘Jp 4∘Jo (vI (3*cp:Nat)) (by exact wJ om om)∘Jp 1∘yO 1∘Jp 1∘Jo (vI (3*cp*(gp-1):Nat)) (by exact qp9 (m:=3*cp) (n:=gp-1) (by have:=h3;omega))∘Ja) fun a Z E=>?_)
           refine fo Z 8 rfl rfl ?_
           exact rR Z [vP g 0,vI (cp+(3*cp*(gp-1)):Nat)] rfl (PU W _ g e6 A wQ c wR b (((((((((([]:List Nat)++[nx])++[cp])++[cr])++[gp])++gs)++cl)++cu)++[tk])++ts) (.slice P8 ([qe,⟨qa 0,3,e1⟩,⟨qa 1,e1,e2⟩,⟨qa 2,e2,e3⟩,⟨qa 3,e3,e4⟩,⟨qa 4,e4,e5⟩,⟨qa 5,e5,e6⟩].length) P9) _ (cp+(3*cp*(gp-1))) om sS (E.pk [0,2,1,3]) hin hbc hl hb tY.2.2 Bv qR) fun w2 E=>xk Z rfl E (i:=1) rfl (hp.trans (LG qR)) [] de rfl
          ·
           have hp:=hp.trans qR.goK
           have F8:=qR.in tY.2.2
           have af9:=tu (xs:=sp) Bv F8.1 F8.2.1
           refine Jb Z E ((JR∘Jp 4∘Jo (vI (3*cp:Nat)) (by exact wJ om om)∘Jp 1∘yO 1∘Jp 1∘Jo (vI (3*cp*(gp-1):Nat)) (by exact qp9 (m:=3*cp) (n:=gp-1) (by have:=h3;omega))∘Ja∘JL (h:=by exact fun E=>PS W _ g e6 A wQ c wR b (((((((((([]:List Nat)++[nx])++[cp])++[cr])++[gp])++gs)++cl)++cu)++[tk])++ts) (.slice P8 ([qe,⟨qa 0,3,e1⟩,⟨qa 1,e1,e2⟩,⟨qa 2,e2,e3⟩,⟨qa 3,e3,e4⟩,⟨qa 4,e4,e5⟩,⟨qa 5,e5,e6⟩].length) P9) _ (cp+(3*cp*(gp-1))) om sS (E.pk [0,2,1,3]) hin hbc hl hb tY.2.2 Bv qR)) ?_)
           rintro E _ FI ⟨rfl,mM,mO,iF,eX⟩
           refine ⟨_,rfl,_,eX,?_⟩
           refine (lH∘Jr∘Jp 1∘JL (h:=by exact fun E=>Em (l2:=[qe,⟨qa 0,3,e1⟩,⟨qa 1,e1,e2⟩,⟨qa 2,e2,e3⟩,⟨qa 3,e3,e4⟩,⟨qa 4,e4,e5⟩,⟨qa 5,e5,e6⟩,⟨qa 6,e6,e7⟩]) W _ g e7 _ _ P8 P9 ([qe,⟨qa 0,3,e1⟩,⟨qa 1,e1,e2⟩,⟨qa 2,e2,e3⟩,⟨qa 3,e3,e4⟩,⟨qa 4,e4,e5⟩,⟨qa 5,e5,e6⟩]) _ _ (E.pk [0,2,1,3]) (Nat.le_of_ble_eq_true rfl) rfl)) ?_
           rintro E _ w57 ⟨rfl,Qa,Qb,aqX,eX⟩
           refine ⟨_,rfl,_,eX,?_⟩
           refine (E9∘Jq) fun a Z E=>?_
           replace E:Mem W _ [.blk g #[.slice A b.length c,vI e7,.slice mM (((((((((((([]:List Nat)++[nx])++[cp])++[cr])++[gp])++gs)++cl)++cu)++[tk])++ts)++sp).length) mO,.slice Qa ([qe,⟨qa 0,3,e1⟩,⟨qa 1,e1,e2⟩,⟨qa 2,e2,e3⟩,⟨qa 3,e3,e4⟩,⟨qa 4,e4,e5⟩,⟨qa 5,e5,e6⟩,⟨qa 6,e6,e7⟩].length) Qb] 300,.row (.slice Qa ([qe,⟨qa 0,3,e1⟩,⟨qa 1,e1,e2⟩,⟨qa 2,e2,e3⟩,⟨qa 3,e3,e4⟩,⟨qa 4,e4,e5⟩,⟨qa 5,e5,e6⟩,⟨qa 6,e6,e7⟩].length) Qb) ([qe,⟨qa 0,3,e1⟩,⟨qa 1,e1,e2⟩,⟨qa 2,e2,e3⟩,⟨qa 3,e3,e4⟩,⟨qa 4,e4,e5⟩,⟨qa 5,e5,e6⟩,⟨qa 6,e6,e7⟩].length) ([qe,⟨qa 0,3,e1⟩,⟨qa 1,e1,e2⟩,⟨qa 2,e2,e3⟩,⟨qa 3,e3,e4⟩,⟨qa 4,e4,e5⟩,⟨qa 5,e5,e6⟩,⟨qa 6,e6,e7⟩].flatMap gM) 435 3,.row (.slice mM (((((((((((([]:List Nat)++[nx])++[cp])++[cr])++[gp])++gs)++cl)++cu)++[tk])++ts)++sp).length) mO) (((((((((((([]:List Nat)++[nx])++[cp])++[cr])++[gp])++gs)++cl)++cu)++[tk])++ts)++sp).length) (((((((((((([]:List Nat)++[nx])++[cp])++[cr])++[gp])++gs)++cl)++cu)++[tk])++ts)++sp).map aR) 41 1,.blk g2 #[vI 0] 27]:=E
           refine Jb Z E ((JG∘JQ) fun a Z E=>?_)
           refine wp_seq ?_
           refine zbd ?_
           refine zdb E [.blk g #[.slice A b.length c,vI e7,.slice mM (((((((((((([]:List Nat)++[nx])++[cp])++[cr])++[gp])++gs)++cl)++cu)++[tk])++ts)++sp).length) mO,.slice Qa ([qe,⟨qa 0,3,e1⟩,⟨qa 1,e1,e2⟩,⟨qa 2,e2,e3⟩,⟨qa 3,e3,e4⟩,⟨qa 4,e4,e5⟩,⟨qa 5,e5,e6⟩,⟨qa 6,e6,e7⟩].length) Qb] 300,.row (.slice Qa ([qe,⟨qa 0,3,e1⟩,⟨qa 1,e1,e2⟩,⟨qa 2,e2,e3⟩,⟨qa 3,e3,e4⟩,⟨qa 4,e4,e5⟩,⟨qa 5,e5,e6⟩,⟨qa 6,e6,e7⟩].length) Qb) ([qe,⟨qa 0,3,e1⟩,⟨qa 1,e1,e2⟩,⟨qa 2,e2,e3⟩,⟨qa 3,e3,e4⟩,⟨qa 4,e4,e5⟩,⟨qa 5,e5,e6⟩,⟨qa 6,e6,e7⟩].length) ([qe,⟨qa 0,3,e1⟩,⟨qa 1,e1,e2⟩,⟨qa 2,e2,e3⟩,⟨qa 3,e3,e4⟩,⟨qa 4,e4,e5⟩,⟨qa 5,e5,e6⟩,⟨qa 6,e6,e7⟩].flatMap gM) 435 3,.row (.slice mM (((((((((((([]:List Nat)++[nx])++[cp])++[cr])++[gp])++gs)++cl)++cu)++[tk])++ts)++sp).length) mO) (((((((((((([]:List Nat)++[nx])++[cp])++[cr])++[gp])++gs)++cl)++cu)++[tk])++ts)++sp).length) (((((((((((([]:List Nat)++[nx])++[cp])++[cr])++[gp])++gs)++cl)++cu)++[tk])++ts)++sp).map aR) 41 1,.blk g2 #[vI 0] 27] [0,1,2,3] [] fun E HS=>?_
           refine ap Z (fun _=>HS) [0,4] (bf 10 [0,4]) [(62,vP g 0),(58,vP g 0)] fun a Z=>?_
           refine MW Z HS 1 fun a Z=>?_
           refine ap Z (fun _=>HS) [2] (bf 10 [0,1,2,4]) [(60,vP g 1)] fun a Z=>?_
           refine iJ Z HS 3 0 fun a Z=>?_
           refine MW Z HS 5 fun a Z=>?_
           refine ap Z (fun _=>HS) [6] (bt 10 [7,8,9]) [(64,vP g 0)] fun a Z=>?_
           refine iJ Z HS 7 0 fun a Z=>?_
           refine MV Z HS 8 fun a Z=>?_
           refine ap Z (fun _=>HS) [9] (bt 10 []) [(67,.bool ((e7:Int) !=(b.length:Int)))] fun a Z=>?_
           refine qg kr ?_
           refine Jb Z E (Ju (fun Jd=>?_) fun Jd=>?_)
           ·
            intro a Z E
            have yC:=bne_iff_ne.1 Jd
            have hne:e7≠b.length:=by omega
            refine Jb Z E ((JT∘JR) fun a Z E=>?_)
            refine fo Z 0 rfl rfl ?_
            exact rR Z [vI 346] rfl (TR 346 _ E) fun w2 E=>xk Z rfl E (i:=3) rfl (hp.trans (if_pos hne)) [] de rfl
           intro a Z E
           have yC:=bne_eq_false_iff_eq.1 Jd
           revert E;revert a;repeat (first|clear Z|clear E)
           intro a Z E
           obtain rfl:e7=b.length:=by omega
           have hp:=hp.trans (if_neg (fun h=>h rfl))
           obtain ⟨qn,Y8⟩:∃qn,((((((((((([]:List Nat)++[nx])++[cp])++[cr])++[gp])++gs)++cl)++cu)++[tk])++ts)++sp)=qn:=⟨_,rfl⟩
           rw [Y8] at E iF
           refine Jb Z E ((JF∘aG∘JP∘Jp 1∘Jn∘Jg 1 O0∘bn 4∘Jn∘Jf 1∘JW bg gQ) fun aga=>(lH∘Jr∘Jp 1∘JL (h:=by exact fun E=>Em (l2:=[qe,⟨qa 0,3,e1⟩,⟨qa 1,e1,e2⟩,⟨qa 2,e2,e3⟩,⟨qa 3,e3,e4⟩,⟨qa 4,e4,e5⟩,⟨qa 5,e5,e6⟩,⟨qa 6,e6,b.length⟩,⟨⟨#[115,117,109]⟩,b.length,b.length+4⟩]) W _ g (b.length+4:Nat) _ _ Qa Qb ([qe,⟨qa 0,3,e1⟩,⟨qa 1,e1,e2⟩,⟨qa 2,e2,e3⟩,⟨qa 3,e3,e4⟩,⟨qa 4,e4,e5⟩,⟨qa 5,e5,e6⟩,⟨qa 6,e6,b.length⟩]) _ _ (E.pk [0,1,2,3]) (Nat.le_of_ble_eq_true rfl) rfl)) ?_)
           rintro E _ w77 ⟨rfl,Y9,Za,Zb,eX⟩
           refine ⟨_,rfl,_,eX,?_⟩
           refine (yN∘Jq) fun a Z E=>?_
           replace E:Mem W _ [.blk g #[.slice A b.length c,vI (b.length+4:Nat),.slice mM qn.length mO,.slice Y9 ([qe,⟨qa 0,3,e1⟩,⟨qa 1,e1,e2⟩,⟨qa 2,e2,e3⟩,⟨qa 3,e3,e4⟩,⟨qa 4,e4,e5⟩,⟨qa 5,e5,e6⟩,⟨qa 6,e6,b.length⟩,⟨⟨#[115,117,109]⟩,b.length,b.length+4⟩].length) Za] 300,.row (.slice Y9 ([qe,⟨qa 0,3,e1⟩,⟨qa 1,e1,e2⟩,⟨qa 2,e2,e3⟩,⟨qa 3,e3,e4⟩,⟨qa 4,e4,e5⟩,⟨qa 5,e5,e6⟩,⟨qa 6,e6,b.length⟩,⟨⟨#[115,117,109]⟩,b.length,b.length+4⟩].length) Za) ([qe,⟨qa 0,3,e1⟩,⟨qa 1,e1,e2⟩,⟨qa 2,e2,e3⟩,⟨qa 3,e3,e4⟩,⟨qa 4,e4,e5⟩,⟨qa 5,e5,e6⟩,⟨qa 6,e6,b.length⟩,⟨⟨#[115,117,109]⟩,b.length,b.length+4⟩].length) ([qe,⟨qa 0,3,e1⟩,⟨qa 1,e1,e2⟩,⟨qa 2,e2,e3⟩,⟨qa 3,e3,e4⟩,⟨qa 4,e4,e5⟩,⟨qa 5,e5,e6⟩,⟨qa 6,e6,b.length⟩,⟨⟨#[115,117,109]⟩,b.length,b.length+4⟩].flatMap gM) 435 3,.row (.slice mM qn.length mO) qn.length (qn.map aR) 41 1,.blk g2 #[vI 0] 27]:=E
           refine Jb Z E ((JG∘JP∘JW xR bg) fun agb=>(aF∘Jj∘JZ) fun a Z E=>?_)
           exact q7h Z rfl E (i:=3) rfl fun w3 E=> .inl ⟨(⟨nx,cp,cr,gp,gs,cl,cu,tk,ts,sp,e1,e2,e3,e4,e5,e6,b.length⟩:Pr),mM,mO,Y9,Za,hp,rfl,by subst Y8;rw [qvm];exact iF,Zb,by subst Y8;rw [qvm];exact E.pk [0,2,1]⟩
theorem zbz (W w:World) (g:Nat) (A:Option Addr) (c:Nat) (b:List Nat) (HW:Mem W w [.blk g #[.slice A b.length c,vI 0,vN,vN] 300]) (hin:Rd W W.heap.size 1 A b.length (b.map B8)) (hbc:b.length≤c) (hl:∀z∈b,z<256) (hb:b.length≤16777216) (hb3:3≤b.length) {p:Pr} (h:yY b= .ok p):Calls Tryz.prog 240 #[vP g 0] w (fun r w'=>r= .returned (vI 0)∧∃NA nc SA sc,p.nums.length≤nc∧p.secs.length≤sc∧Mem W w' [.blk g #[.slice A b.length c,vI ((b.length+4:Nat):Int),.slice NA p.nums.length nc,.slice SA p.secs.length sc] 300,.row (.slice NA p.nums.length nc) p.nums.length (p.nums.map aR) 41 1,.row (.slice SA p.secs.length sc) p.secs.length (p.secs.flatMap gM) 435 3]):=
 (qvn W w g A c b HW hin hbc hl hb hb3).mono fun r w' h1 => by
  rcases h1 with ⟨p2,NA,nc,SA,sc,h2,h3,h4,h5,h6⟩|⟨k,h2,_⟩
  ·obtain rfl:p2=p:=by rw [h] at h2;injection h2 with h2;exact h2.symm
   exact ⟨h3,NA,nc,SA,sc,h4,h5,h6⟩
  ·rw [h] at h2;cases h2
theorem zb0 (W w:World) (g:Nat) (A:Option Addr) (c:Nat) (b:List Nat) (HW:Mem W w [.blk g #[.slice A b.length c,vI 0,vN,vN] 300]) (hin:Rd W W.heap.size 1 A b.length (b.map B8)) (hbc:b.length≤c) (hl:∀z∈b,z<256) (hb:b.length≤16777216) (hb3:3≤b.length) {k:Nat} (h:yY b= .error k):Calls Tryz.prog 240 #[vP g 0] w (fun r w'=>r= .returned (vI k)∧Mem W w' []):=
 (qvn W w g A c b HW hin hbc hl hb hb3).mono fun r w' h1 => by
  rcases h1 with ⟨p2,NA,nc,SA,sc,h2,_⟩|⟨k2,h2,h3,h4⟩
  ·rw [h] at h2;cases h2
  ·obtain rfl:k2=k:=by rw [h] at h2;injection h2 with h2;exact h2.symm
   exact ⟨h3,h4⟩
def F9 (w:World) (l:List Nat) (r:Ending) (w':World):Prop:=(∃p,fu l= .ok p∧∃g iv av NA nc SA sc,r= .returned (.tuple #[vP g 0,vI 0])∧p.nums.length≤nc∧p.secs.length≤sc∧Mem w w' [.blk g #[iv,av,.slice NA p.nums.length nc,.slice SA p.secs.length sc] 300,.row (.slice NA p.nums.length nc) p.nums.length (p.nums.map aR) 41 1,.row (.slice SA p.secs.length sc) p.secs.length (p.secs.flatMap gM) 435 3])∨(∃k:Nat,fu l= .error k∧Is w (.tuple #[.pointer none,vI k]) r w')
theorem Jk {w w':World} {l:List Nat} {r:Ending} {k:Nat} (n:Int) (h:fu l= .error k) (hk:n=k) (hr:r= .returned (.tuple #[.pointer none,vI n])) (hb:Below w.heap.size w w'):F9 w l r w':= .inr ⟨k,h,by rw [hr,hk],hb⟩
theorem qvo (A:Option Addr) (c:Nat) (l:List Nat) (B:Nat) (w:World) (hL:aO B w) (hB:B≤w.heap.size) (hr:Rd w w.heap.size 1 A l.length (l.map B8)) (hc:l.length≤c) (hn:l.length≤100000000) (hl:∀z∈l,z<256):
    Calls Tryz.prog 169 #[.slice A l.length c] w (F9 w l):=by
 refine (bZ Tryz.func169 47) ?_
 refine (JP∘Jp 2∘Jj∘JQ∘JB∘JP∘Jp 1∘Jl∘Jp 2∘bQ∘Jj) (Ji (fun hd6=>?_) fun hd6=>?_)
 ·
  exact (JT∘JP∘Jp 2∘Jj∘JZ∘bW) fun E=>Jk _ (q14 om) rfl rfl E.below
 refine (JF∘JP∘Jp 1∘Jl∘Jp 2∘bQ∘Jj) (Ji (fun fM=>?_) fun fM=>?_)
 ·
  exact (JT∘JP∘Jp 2∘Jj∘JZ∘bW) fun E=>Jk _ (q6y om om) rfl rfl E.below
 refine (JF∘JP∘Jp 1∘JI (h:=by exact fun E=>WC A l.length c l B _ (hL.mem E hB) (E.le hB) (E.old hr) hc rfl om hl)) fun w16 hbw=>(Jp 2∘bQ∘Jj) (Ju (fun fZ=>?_) fun fZ=>?_)
 ·
  intro a Z E
  have yD:zq l=false:=by simpa using fZ
  exact Jb Z E ((JT∘JP∘Jp 2∘Jj∘JZ∘bW) fun E=>Jk _ (zbh om om yD) rfl rfl E.below)
 intro a Z E
 have yD:zq l=true:=by simpa using fZ
 refine Jb Z E ((JF∘JP∘Jp 1) ?_)
 repeat (first|clear Z|clear E)
 intro a Z E
 obtain ⟨gA,oA,rfl,_⟩:=hr.qd (Nat.lt_of_le_of_lt (Nat.zero_le _) (show 0<l.length from by omega)) de
 refine Jb Z E ((Jy (v:=vP gA oA) (h:=by exact Yl.indexAddr (ad:=⟨gA,oA,none⟩) (y:=0) (sz:=1) rfl rfl rfl om kr)∘Jy (h:=by exact Yl.o1 hr 0 0 (by first|omega|(simp;omega)) rfl rfl)∘Jp 2) (Jh (fun oF=>?_) fun oF=>?_))
 ·
  exact (Jp 6∘aF∘Jj∘JT∘JP∘Jp 2∘Jj∘JZ∘bW) fun E=>Jk _ (qqa om om yD om) rfl rfl E.below
 refine (Jp 1∘Jy (v:=vP gA (oA+1)) (h:=by exact Yl.indexAddr (ad:=⟨gA,oA,none⟩) (y:=1) (sz:=1) rfl rfl rfl om kr)∘Jy (h:=by exact Yl.o1 hr 1 0 (by first|omega|(simp;omega)) rfl rfl)∘Jp 3∘aF∘Jj) (Jh (fun kQ=>?_) fun kQ=>?_)
 ·
  exact (JT∘JP∘Jp 2∘Jj∘JZ∘bW) fun E=>Jk _ (qqa om om yD om) rfl rfl E.below
 refine (JF∘JP∘Jp 1∘Jy (v:=vP gA (oA+2)) (h:=by exact Yl.indexAddr (ad:=⟨gA,oA,none⟩) (y:=2) (sz:=1) rfl rfl rfl om kr)∘Jy (h:=by exact Yl.o1 hr 2 0 (by first|omega|(simp;omega)) rfl rfl)∘Jp 2∘eZ∘Jj) (Jh (fun hd29=>?_) fun hd29=>?_)
 ·
  exact (JT∘JP∘Jp 2∘Jj∘JZ∘bW) fun E=>Jk _ (qsm om om yD om om) rfl rfl E.below
 refine (JF∘aG∘JQ) fun a Z E=>?_
 obtain ⟨b,hbd⟩:∃b,l.take (l.length-4)=b:=⟨_,rfl⟩
 have hbl:b.length=l.length-4:=by rw [←hbd,List.length_take];omega
 have hrb:Rd w w.heap.size 1 (some ⟨gA,oA,none⟩) b.length (b.map B8):=by rw [hbl,←hbd];exact hr.G8 om
 have hlb:∀z∈b,z<256:=fun z hz=>hl z (List.mem_of_mem_take (hbd▸hz))
 have hop:=zbi om om yD om om
 rw [hbd] at hop
 skip
 ·
  refine Jb Z E ((JR∘Jp 2∘Jl∘yO 4∘Jy (v:= .slice (some ⟨gA,oA,none⟩) (l.length-4) c) (h:=by exact Yl.zG aL (j:=l.length-4) rfl rfl rfl om)∘Jo (.slice (some ⟨gA,oA,none⟩) b.length c) (by rw [hbl])∘Jy (v:= .agg #[.slice (some ⟨gA,oA,none⟩) b.length c,vI 0,vN,vN]) (h:=by exact Yl.build (vs:=[(0,.slice (some ⟨gA,oA,none⟩) b.length c)]) rfl kr kr)∘JE) fun Wm g40=>(Jp 1∘aF∘Jj∘JQ∘JQ) fun a Z E=>?_)
  rcases hpr:yY b with k|p
  ·
   have hke:=q13 hpr
   refine Jb Z E ((JR∘Jp 1∘JO (h:=by exact fun E=>zb0 w _ g40 (some ⟨gA,oA,none⟩) c b (E.pk [0]) hrb om hlb om om hpr)) fun NV=>(Jp 1∘aT∘Jr∘Jp 2∘aQ∘Jj) (Ju (fun lq=>?_) fun lq=>?_))
   ·
    intro a Z E
    have Im:=bne_iff_ne.1 lq
    exact Jb Z E ((JT∘JP∘Jp 3∘Jj∘JZ∘bW) fun E=>Jk _ (hop.trans hpr) rfl rfl E.below)
   intro a Z E
   have Im:=bne_eq_false_iff_eq.1 lq
   exfalso;omega
  ·
   refine Jb Z E ((JR∘Jp 1∘JL (h:=by exact fun E=>zbz w _ g40 (some ⟨gA,oA,none⟩) c b (E.pk [0]) hrb om hlb om om hpr)) ?_)
   rintro E _ NV ⟨rfl,NA,nc,SA,sc,hnc,hsc,eX⟩
   refine ⟨_,rfl,_,eX,?_⟩
   exact (Jp 1∘aT∘Jr∘Jv 2 [(44,.bool false)]∘Jj∘JF∘aG∘JP∘Jp 3∘Jj∘JZ∘bW) fun E=>by exact .inl ⟨p,hop.trans hpr,_,_,_,NA,nc,SA,sc,rfl,hnc,hsc,E⟩
theorem zb1 (A:Option Addr) (c:Nat) (l:List Nat) (B:Nat) (w:World) (hL:aO B w) (hB:B≤w.heap.size) (hr:Rd w w.heap.size 1 A l.length (l.map B8)) (hc:l.length≤c) (hn:l.length≤100000000) (hl:∀z∈l,z<256) {p:Pr} (h:fu l= .ok p):Calls Tryz.prog 169 #[.slice A l.length c] w (fun r w'=>∃g iv av NA nc SA sc,r= .returned (.tuple #[vP g 0,vI 0])∧p.nums.length≤nc∧p.secs.length≤sc∧Mem w w' [.blk g #[iv,av,.slice NA p.nums.length nc,.slice SA p.secs.length sc] 300,.row (.slice NA p.nums.length nc) p.nums.length (p.nums.map aR) 41 1,.row (.slice SA p.secs.length sc) p.secs.length (p.secs.flatMap gM) 435 3]):=
 (qvo A c l B w hL hB hr hc hn hl).mono fun r w' h1 => by
  rcases h1 with ⟨p2,h2,h3⟩|⟨k,h2,_⟩
  ·obtain rfl:p2=p:=by rw [h] at h2;injection h2 with h2;exact h2.symm
   exact h3
  ·rw [h] at h2;cases h2
theorem zb2 (A:Option Addr) (c:Nat) (l:List Nat) (B:Nat) (w:World) (hL:aO B w) (hB:B≤w.heap.size) (hr:Rd w w.heap.size 1 A l.length (l.map B8)) (hc:l.length≤c) (hn:l.length≤100000000) (hl:∀z∈l,z<256) {k:Nat} (h:fu l= .error k):Calls Tryz.prog 169 #[.slice A l.length c] w (Is w (.tuple #[.pointer none,vI k])):=
 (qvo A c l B w hL hB hr hc hn hl).mono fun r w' h1 => by
  rcases h1 with ⟨p2,h2,_⟩|⟨k2,h2,h3⟩
  ·rw [h] at h2;cases h2
  ·obtain rfl:k2=k:=by rw [h] at h2;injection h2 with h2;exact h2.symm
   exact h3
def Pf (W:World) (g k:Nat) (NA:Option Addr) (nc:Nat) (q:List Nat) (o:Bool) (fs:List Fact) (v:Value) (r:Ending) (w':World):Prop:=r= .returned v∧Mem W w' (.blk g #[.slice (dH NA nc k) (q.length-k) (nc-k),.bool o] 302:: .row (.slice NA q.length nc) q.length (q.map aR) 41 1::fs)
theorem ql9 {W w':World} {g k:Nat} {NA:Option Addr} {nc:Nat} {q:List Nat} {o b:Bool} {fs:List Fact} {v:Value} {r:Ending} (hr:r= .returned v) (ho:b=o) (E:Mem W w' (.blk g #[.slice (dH NA nc k) (q.length-k) (nc-k),.bool b] 302:: .row (.slice NA q.length nc) q.length (q.map aR) 41 1::fs)):Pf W g k NA nc q o fs v r w':=by subst ho;exact ⟨hr,E⟩
theorem q7a (x m:Nat):decide ((x:Int)≤(m:Int))=dle x m:=decide_eq_decide.2 Int.ofNat_le
theorem qvf (m:Nat) (W w:World) (g k:Nat) (NA:Option Addr) (nc:Nat) (q:List Nat) (o:Bool) (fs:List Fact) (HW:Mem W w (.blk g #[.slice (dH NA nc k) (q.length-k) (nc-k),.bool o] 302:: .row (.slice NA q.length nc) q.length (q.map aR) 41 1::fs)) (hqc:q.length≤nc) (hk:k<q.length):
    Calls Tryz.prog 242 #[vP g 0,vQ m] w (Pf W g (k+1) NA nc q (o&&dle (q.getD k 0) m) fs (vQ (q.getD k 0:Int))):=by
 refine (jw Tryz.func242 33) ?_
 intro a Z E
 replace E:=HW
 obtain ⟨gS,oS,hA,_⟩:=Rd.qd (Yh (E.rd (i:=1) rfl) hqc k om) om de
 refine Jb Z E ((JP∘Jp 1∘Jr∘Jp 1∘Jn∘Jf 0∘Jc O0∘Jo (.slice (some ⟨gS,oS,none⟩) (q.length-k) (nc-k)) (by rw [hA];try rfl)∘Jy (v:=vP gS oS) (h:=by exact Yl.indexAddr (ad:=⟨gS,oS,none⟩) (y:=0) (sz:=1) rfl rfl rfl om kr)∘Jy (v:=vQ (q.getD k 0)) (h:=by exact Yl.qj rfl rfl kr (fun _ h=>zd7 (h.rd (i:=1) rfl) hqc hk hA))∘Jp 1∘aF∘Jr∘Jp 2∘Jn∘Jg 0 O0∘Jy (v:= .slice (if nc-k=1 then dH NA nc k else (dH NA nc k:Option Addr).map (·.add (1*1))) ((q.length-k)-1) ((nc-k)-1)) (h:=by exact Yl.sliceFrom qt (j:=1) rfl rfl rfl om)∘Jo (.slice (dH NA nc (k+1)) (q.length- (k+1)) (nc- (k+1))) (by exact rfl)∘Jn∘Jf 0∘JW bg bg) fun apP=>(lH∘Jr∘Jp 2∘Jn∘Jg 1 O0∘Jp 1) (Ju (fun je=>?_) fun je=>?_))
 ·
  exact (Jp 4∘Jn∘Jf 1∘JW bg gQ) fun Pg=>(lH∘Jr∘Jp 2∘aF∘Jj∘JZ∘aH) fun E=>ql9 rfl (by rw [je,Bool.true_and];exact q7a _ _) E
 exact (Jp 4∘Jn∘Jf 1∘JW bg gQ) fun Pg=>(lH∘Jr∘Jp 2∘aF∘Jj∘JZ∘aH) fun E=>ql9 rfl (by rw [je];rfl) E
theorem Ec (m:Nat) (W w:World) (g k:Nat) (NA:Option Addr) (nc:Nat) (q:List Nat) (o:Bool) (fs:List Fact) (HW:Mem W w (.blk g #[.slice (dH NA nc k) (q.length-k) (nc-k),.bool o] 302:: .row (.slice NA q.length nc) q.length (q.map aR) 41 1::fs)) (hqc:q.length≤nc) (hk:k<q.length) {x k2:Nat} {o2:Bool} (hx:q.getD k 0=x) (h2:k+1=k2) (ho:(o&&dle x m)=o2):Calls Tryz.prog 242 #[vP g 0,vQ m] w (Pf W g k2 NA nc q o2 fs (vQ x)):=by
 subst hx;subst h2;subst ho
 exact qvf m W w g k NA nc q o fs HW hqc hk
theorem q2o (W w:World) (g k:Nat) (NA:Option Addr) (nc:Nat) (q:List Nat) (o:Bool) (fs:List Fact) (HW:Mem W w (.blk g #[.slice (dH NA nc k) (q.length-k) (nc-k),.bool o] 302:: .row (.slice NA q.length nc) q.length (q.map aR) 41 1::fs)) (hqc:q.length≤nc) (hk:k<q.length):
    Calls Tryz.prog 241 #[vP g 0] w (Pf W g (k+1) NA nc q (o&&dle (q.getD k 0) aC) fs (vI (aV (q.getD k 0)))):=by
 refine (bZ Tryz.func241 6) ?_
 intro a Z E
 replace E:=HW
 exact Jb Z E ((JP∘Jp 1∘Jr∘Jp 1∘JO (h:=by exact fun E=>qvf aC W _ g k NA nc q o fs E hqc hk)) fun w4=>(Jv 1 [(5,vI (IntKind.i64.wrap (q.getD k 0:Int)))]∘Jo (vI (aV (q.getD k 0))) (by exact rfl)∘Jp 1∘bQ∘Jj∘JZ∘aH) fun E=>by exact ⟨rfl,E⟩)
theorem y9 (W w:World) (g k:Nat) (NA:Option Addr) (nc:Nat) (q:List Nat) (o:Bool) (fs:List Fact) (HW:Mem W w (.blk g #[.slice (dH NA nc k) (q.length-k) (nc-k),.bool o] 302:: .row (.slice NA q.length nc) q.length (q.map aR) 41 1::fs)) (hqc:q.length≤nc) (hk:k<q.length) {x k2:Nat} {o2:Bool} {v:Int} (hx:q.getD k 0=x) (h2:k+1=k2) (ho:(o&&dle x aC)=o2) (hv:aV x=v):Calls Tryz.prog 241 #[vP g 0] w (Pf W g k2 NA nc q o2 fs (vI v)):=by
 subst hx;subst h2;subst ho;subst hv
 exact q2o W w g k NA nc q o fs HW hqc hk
theorem Mem.zfm {W w:World} {f r1 r2 r3 r4 r5:Fact} {fs rs:List Fact} (h:Mem W w (f::r1::r2::r3::r4::r5::(fs++rs))):Mem W w (f::(fs++([r1,r2,r3,r4,r5]++rs))):=h.perm ((List.perm_append_comm_assoc [r1,r2,r3,r4,r5] fs rs).cons f)
theorem zbx (x:Nat):((x:Int)==(1:Int))=decide (x=1):=by
 rw [Bool.eq_iff_iff,beq_iff_eq,decide_eq_true_eq]
 omega
theorem q7b {p:Pr} {j:Nat} (h:0<j):p.sF (j+1)=((p.sF j&&dle (p.gs.getD (2*(j-1)) 0) aC)&&dle (p.gs.getD (2*(j-1)+1) 0) aC):=if_neg om
theorem q2r {p:Pr} {j:Nat} (h:j=0):p.sF (j+1)=p.sF j:=by subst h;rfl
theorem Po {p:Pr} {y x:Nat} (h:y=0):p.so y (x+1)=p.so y x+1:=by subst h;rw [D7,D7]
theorem Pp {p:Pr} {y x:Nat} (h:0<y):p.so y (x+1)=p.so y x+3:=by rw [yh h,yh h];omega
theorem Pq {p:Pr} {b:Bool} {y x:Nat} (h:y=0):p.nD b y (x+1)=(p.nD b y x&&dle (p.sn y x 0) 18446744073709551615):=if_pos h
theorem Pt {p:Pr} {b:Bool} {y x:Nat} (h:0<y):p.nD b y (x+1)=(((p.nD b y x&&dle (p.sn y x 0) 18446744073709551615)&&dle (p.sn y x 1) 4294967295)&&dle (p.sn y x 2) 18446744073709551615):=if_neg om
def q7c (W:World) (g:Nat) (p:Pr) (fs:List Fact) (r:Ending) (w':World):Prop:=∃(z:bH) (A:Option Addr) (n c:Nat),r= .returned (.agg z.cells)∧bM p.uN z∧fK z.st∧Mem W w' (.blk g #[.slice A n c,.bool p.okB] 302::(fs++kE z.st))
theorem qxh (W w:World) (g:Nat) (NA:Option Addr) (nc:Nat) (p:Pr) (h:p.Fit) (fs:List Fact) (HW:Mem W w (.blk g #[.slice NA p.nums.length nc,.bool true] 302:: .row (.slice NA p.nums.length nc) p.nums.length (p.nums.map aR) 41 1::fs)) (hnc:p.nums.length≤nc):
    Calls Tryz.prog 170 #[vP g 0] w (q7c W g p fs):=by
 obtain ⟨hnl,hsl⟩:=q62 h
 have n0:=q61 p
 have eC:p.oC=4+2*(p.gp-1):=rfl
 have eT:p.oT=p.oC+2*p.cp:=rfl
 have eS:p.oS=p.oT+1+8*p.tk:=rfl
 have c1:=h.cp1;have c2:=h.cp2;have c3:=h.gp1;have c4:=h.OO;have c5:=h.tk
 refine (bZ Tryz.func170 191) ?_
 intro a Z E
 replace E:=HW
 refine Jb Z E ((JP∘JA #[vI 0,vI 0,vQ 0,vN,vN,vN,vN,vN]) fun w2 g2=>(Jr∘Jp 1∘JO (h:=by exact fun E=>y9 W _ g 0 NA nc p.nums true _ (E.pt 3 [1,2,0]) hnc om (x:=p.nx) (k2:=1) (o2:=true&&dle p.nx aC) (n0.1) (rfl) (rfl) (rfl))) fun wP=>(Jy (v:= .agg #[vI (aV p.nx),vI 0,vQ 0,vN,vN,vN,vN,vN]) (h:=by exact Yl.build (vs:=[(0,vI (aV p.nx))]) rfl kr kr)∘JA #[vI 0,vI 0,vQ 0,vN,vN,vN,vN,vN]) fun w3 g3=>(JV zr bg) fun DC=>(bQ∘Jr∘Jf 1∘Jp 1∘aQ∘Jr∘Jp 3∘JO (h:=by exact fun E=>y9 W _ g 1 NA nc p.nums (true&&dle p.nx aC) _ (E.pt 4 [1,2,0,3]) hnc om (x:=p.cp) (k2:=2) (o2:=(true&&dle p.nx aC)&&dle p.cp aC) (n0.2.1) (rfl) (rfl) (Yi om))) fun FJ=>(Jp 1∘JO (h:=by exact fun E=>Ec 18446744073709551615 W _ g 2 NA nc p.nums ((true&&dle p.nx aC)&&dle p.cp aC) _ (E.pt 4 [0,1,2,3]) hnc om (x:=p.cr) (k2:=3) (o2:=((true&&dle p.nx aC)&&dle p.cp aC)&&dle p.cr 18446744073709551615) (n0.2.2.1) (rfl) (rfl))) fun Pw=>(Jn∘Jf 0∘Jf 0∘JW gH gQ) fun ap3=>(Jn∘Jf 0∘Jf 1∘JW gH gH) fun afK=>(lH∘Jj∘JQ∘JP∘Jp 1∘JO (h:=by exact fun E=>y9 W _ g 3 NA nc p.nums (((true&&dle p.nx aC)&&dle p.cp aC)&&dle p.cr 18446744073709551615) _ (E.pt 4 [0,1,2,3]) hnc om (x:=p.gp) (k2:=4+2*(0-1)) (o2:=p.sF 0) (n0.2.2.2) (rfl) (rfl) (Yi om))) fun Dz=>(Jp 1∘Jq) fun a Z E=>?_)
 replace E:=E.nil 198 2
 refine Jb Z E ((JG∘JB) fun a Z E=>?_)
 refine qc (fun mS aS wS=>∃(j:Nat) (G:List Gr) (Ag:Option Addr) (cg:Nat),(j≤p.gp)∧(G=bK j p.gG)∧(G.length=j)∧(G.length≤cg)∧mS=p.gp-j∧Fr aS 191 [] [(30,vI j),(29,vI p.gp),(4,vP g3 1),(3,vP g3 0),(2,vP g2 0),(0,vP g 0)]∧Mem W wS (.row (.slice Ag G.length cg) G.length (G.flatMap gZ) 198 2:: .blk g #[.slice (dH NA nc (4+2*(j-1))) (p.nums.length- (4+2*(j-1))) (nc- (4+2*(j-1))),.bool (p.sF j)] 302:: .row (.slice NA p.nums.length nc) p.nums.length (p.nums.map aR) 41 1:: .blk g3 #[vI (aV p.nx),vI p.cp,vQ p.cr,.slice Ag G.length cg,vN,vN,vN,vN] 50:: .blk g2 #[vI 0,vI 0,vQ 0,vN,vN,vN,vN,vN] 50::fs)) (m:=p.gp-0) ⟨0,[],none,0,Nat.zero_le _,rfl,rfl,Nat.le_refl _,rfl,Z.sub kr,E.pt 5 [0,1,2,3,4]⟩ ?_
 clear Z E;rintro mS a w_ ⟨j,G,Ag,cg,hj,hG,hGl,hGc,rfl,Z,E⟩
 refine Jb Z E ((JP∘Jp 1∘Jj∘JQ) (Ji (fun hd31=>?_) fun hd31=>?_))
 ·
  refine (JT∘aG∘JQ∘JB∘JP∘Jp 2∘aQ∘Jr∘Jy (v:= .agg #[vI 0,vI 1]) (h:=by exact Yl.build (vs:=[(1,vI 1)]) rfl kr kr)∘JA #[vI 0,vI 0]) fun w6 g6=>(JV nC bg) fun ap5=>(aQ∘Jj∘JQ∘JP∘Jp 2∘aQ∘Jj) (Ju (fun vZ=>?_) fun vZ=>?_)
  ·
   intro a Z E
   have lV:=of_decide_eq_true vZ
   have hgr:p.gG j=⟨aV (p.gs.getD (2*(j-1)) 0),aV (p.gs.getD (2*(j-1)+1) 0)⟩:=if_neg om
   refine Jb Z E ((JT∘JR∘Jp 1∘JO (h:=by exact fun E=>y9 W _ g (4+2*(j-1)) NA nc p.nums (p.sF j) _ (E.pt 6 [2,3,0,1,4,5]) hnc om (x:=p.gs.getD (2*(j-1)) 0) (k2:=4+(2*(j-1)+1)) (o2:=p.sF j&&dle (p.gs.getD (2*(j-1)) 0) aC) (q16 h (j:=2*(j-1)) om) (rfl) (rfl) (rfl))) fun CS=>(Jp 1∘JO (h:=by exact fun E=>y9 W _ g (4+(2*(j-1)+1)) NA nc p.nums (p.sF j&&dle (p.gs.getD (2*(j-1)) 0) aC) _ (E.pt 6 [0,1,2,3,4,5]) hnc om (x:=p.gs.getD (2*(j-1)+1) 0) (k2:=4+2*(j+1-1)) (o2:=(p.sF j&&dle (p.gs.getD (2*(j-1)) 0) aC)&&dle (p.gs.getD (2*(j-1)+1) 0) aC) (q16 h (j:=2*(j-1)+1) om) om (rfl) (rfl))) fun w39=>(Jf 0∘JW gH bg) fun YE=>(Jf 1∘JW gH gQ) fun YF=>(lH∘Jq) fun a Z E=>?_)
   replace E:Mem W _ (.blk g #[.slice (dH NA nc (4+2*(j+1-1))) (p.nums.length- (4+2*(j+1-1))) (nc- (4+2*(j+1-1))),.bool ((p.sF j&&dle (p.gs.getD (2*(j-1)) 0) aC)&&dle (p.gs.getD (2*(j-1)+1) 0) aC)] 302:: .row (.slice NA p.nums.length nc) p.nums.length (p.nums.map aR) 41 1:: .blk g6 #[vI (aV (p.gs.getD (2*(j-1)) 0)),vI (aV (p.gs.getD (2*(j-1)+1) 0))] 198:: .row (.slice Ag G.length cg) G.length (G.flatMap gZ) 198 2:: .blk g3 #[vI (aV p.nx),vI p.cp,vQ p.cr,.slice Ag G.length cg,vN,vN,vN,vN] 50:: .blk g2 #[vI 0,vI 0,vQ 0,vN,vN,vN,vN,vN] 50::fs):=E
   refine Jb Z E ((JG∘Vs (.t (.t (.t (.f .n)))) [12]) fun Px=>(Vp [0,1]∘Vn 2∘Vf 3 0∘Vf 4 2∘Vc 5 O3∘Vy 6 (v:= .agg #[vI (aV (p.gs.getD (2*(j-1)) 0)),vI (aV (p.gs.getD (2*(j-1)+1) 0))]) (h:=by exact Yl.qf rfl rfl nC rfl (fun _ h=>qb (h.blk (i:=2) rfl)))) fun a Z E HS=>?_)
   refine s_on Z 7 rfl (lT Z E oz [(0,.agg #[vI (aV (p.gs.getD (2*(j-1)) 0)),vI (aV (p.gs.getD (2*(j-1)+1) 0))])] #[vI (aV (p.gs.getD (2*(j-1)) 0)),vI (aV (p.gs.getD (2*(j-1)+1) 0))] ?_)
   clear Z E;intro a TB g49 Z E
   refine au (E.pt 7 [1,2,3,5,6]) (fun HS=>?_)
   refine s_on Z 8 rfl (qz Z E (i:=4) rfl oz rfl rfl rfl (news:=([(⟨aV (p.gs.getD (2*(j-1)) 0),aV (p.gs.getD (2*(j-1)+1) 0)⟩:Gr)].flatMap gZ)) (E.aN (i:=0) (n:=1) (size:=2) rfl rfl) (XT _) om om rfl de ?_)
   clear Z E;intro a WL IX IY Z E AU
   refine au (E.pt 7 [1,2,3,5,6]) (fun HS=>?_)
   refine Vb Z E HS ((Vn 9∘Vf 10 0∘Vf 11 2) fun a Z E HS=>?_)
   refine s_on Z 12 rfl (lS Z E 5 ?_)
   clear E;intro IZ E
   refine lG kr ?_
   refine qg kr ?_
   have l9:G.length+1=(G++[p.gG j]).length:=q0 rfl
   replace E:=E.aI (i:=4) (ys:=(G++[p.gG j]).flatMap gZ) rfl l9 (by rw [hgr];exact List.flatMap_append.symm)
   rw [l9] at AU
   replace Z:=Z.sp 50 (.slice IX ((G++[p.gG j]).length) IY) rfl (by rw [l9])
   replace E:=E.dZ (i:=5) (ds:= #[vI (aV p.nx),vI p.cp,vQ p.cr,.slice IX ((G++[p.gG j]).length) IY,vN,vN,vN,vN]) rfl (by rw [l9];try rfl)
   refine Jb Z E ((JG∘JR∘bn 1∘Jp 1∘aQ∘Jq) fun a Z E=>?_)
   replace E:=E.dZ (i:=1) (ds:= #[.slice (dH NA nc (4+2*(j+1-1))) (p.nums.length- (4+2*(j+1-1))) (nc- (4+2*(j+1-1))),.bool (p.sF (j+1))]) rfl (by rw [q7b om])
   exact ⟨_,om,j+1,(G++[p.gG j]),IX,IY,by omega,by rw [hG,D5],by rw [List.length_append,hGl];rfl,AU,rfl,Z.sub kr,E.pt 7 [4,1,2,5,6]⟩
  intro a Z E
  have lV:=of_decide_eq_false vZ
  have hgr:p.gG j=⟨0,1⟩:=if_pos om
  refine Jb Z E ((JF∘aG∘Vs (.t (.f .n)) [12]) fun Px=>(Vp [0,1]∘Vn 2∘Vf 3 0∘Vf 4 2∘Vc 5 O3∘Vy 6 (v:= .agg #[vI 0,vI 1]) (h:=by exact Yl.qf rfl rfl nC rfl (fun _ h=>qb (h.blk (i:=0) rfl)))) fun a Z E HS=>?_)
  refine s_on Z 7 rfl (lT Z E oz [(0,.agg #[vI 0,vI 1])] #[vI 0,vI 1] ?_)
  clear Z E;intro a TB g49 Z E
  refine au (E.pt 7 [1,3,4,5,6]) (fun HS=>?_)
  refine s_on Z 8 rfl (qz Z E (i:=2) rfl oz rfl rfl rfl (news:=([(⟨0,1⟩:Gr)].flatMap gZ)) (E.aN (i:=0) (n:=1) (size:=2) rfl rfl) (XT _) om om rfl de ?_)
  clear Z E;intro a WL IX IY Z E AU
  refine au (E.pt 7 [1,3,4,5,6]) (fun HS=>?_)
  refine Vb Z E HS ((Vn 9∘Vf 10 0∘Vf 11 2) fun a Z E HS=>?_)
  refine s_on Z 12 rfl (lS Z E 5 ?_)
  clear E;intro IZ E
  refine lG kr ?_
  refine qg kr ?_
  have l9:G.length+1=(G++[p.gG j]).length:=q0 rfl
  replace E:=E.aI (i:=2) (ys:=(G++[p.gG j]).flatMap gZ) rfl l9 (by rw [hgr];exact List.flatMap_append.symm)
  rw [l9] at AU
  replace Z:=Z.sp 50 (.slice IX ((G++[p.gG j]).length) IY) rfl (by rw [l9])
  replace E:=E.dZ (i:=5) (ds:= #[vI (aV p.nx),vI p.cp,vQ p.cr,.slice IX ((G++[p.gG j]).length) IY,vN,vN,vN,vN]) rfl (by rw [l9];try rfl)
  refine Jb Z E ((JG∘JR∘bn 1∘Jp 1∘aQ∘Jq) fun a Z E=>?_)
  replace E:=E.dZ (i:=3) (ds:= #[.slice (dH NA nc (4+2*(j+1-1))) (p.nums.length- (4+2*(j+1-1))) (nc- (4+2*(j+1-1))),.bool (p.sF (j+1))]) rfl (by rw [q2r om,show 4+2*(j+1-1)=4+2*(j-1) by omega])
  exact ⟨_,om,j+1,(G++[p.gG j]),IX,IY,by omega,by rw [hG,D5],by rw [List.length_append,hGl];rfl,AU,rfl,Z.sub kr,E.pt 7 [2,3,4,5,6]⟩
 refine (JF∘JX∘JG∘JQ∘JP∘Jp 1∘Jn∘Jf 0∘Jg 0 O3∘Jp 1∘Jq) fun a Z E=>?_
 replace E:=E.nil 3 1
 replace E:=E.dZ (i:=2) (ds:= #[.slice (dH NA nc (p.oC+0)) (p.nums.length- (p.oC+0)) (nc- (p.oC+0)),.bool (p.D6 0)]) rfl (by rw [show j=p.gp by omega];rfl)
 refine Jb Z E ((JG∘JB) fun a Z E=>?_)
 refine qc (fun mS aS wS=>∃(k:Nat) (C:List Int) (Al:Option Addr) (cl:Nat),(k≤p.cp)∧(C=bK k fun i=>aV (p.cl.getD i 0))∧(C.length=k)∧(C.length≤cl)∧mS=p.cp-k∧Fr aS 191 [] [(60,vI k),(59,vI p.cp),(31,.bool false),(30,vI j),(29,vI p.gp),(4,vP g3 1),(3,vP g3 0),(2,vP g2 0),(0,vP g 0)]∧Mem W wS (.row (.slice Al C.length cl) C.length (C.map bC) 3 1:: .row (.slice Ag G.length cg) G.length (G.flatMap gZ) 198 2:: .blk g #[.slice (dH NA nc (p.oC+k)) (p.nums.length- (p.oC+k)) (nc- (p.oC+k)),.bool (p.D6 k)] 302:: .row (.slice NA p.nums.length nc) p.nums.length (p.nums.map aR) 41 1:: .blk g3 #[vI (aV p.nx),vI p.cp,vQ p.cr,.slice Ag G.length cg,.slice Al C.length cl,vN,vN,vN] 50:: .blk g2 #[vI 0,vI 0,vQ 0,vN,vN,vN,vN,vN] 50::fs)) (m:=p.cp-0) ⟨0,[],none,0,Nat.zero_le _,rfl,rfl,Nat.le_refl _,rfl,Z.sub kr,E.pt 6 [0,1,2,3,4,5]⟩ ?_
 clear Z E;rintro mS a w_ ⟨k,C,Al,cl,hk,hC,hCl,hCc,rfl,Z,E⟩
 refine Jb Z E ((JP∘Jp 1∘Jj∘JQ) (Ji (fun Ac=>?_) fun Ac=>?_))
 ·
  refine (JT∘aG∘JQ∘JB∘Vs (.f (.t (.f .n))) [11]) fun IU=>(Vp [0,1,5]∘Vn 2∘Vf 3 3∘Vc 4 O2) fun a Z E HS=>?_
  refine s_on Z 6 rfl ?_
  refine MX Z [vP g 0] (y9 W _ g (p.oC+k) NA nc p.nums (p.D6 k) _ (E.pt 6 [2,3,0,1,4,5]) hnc om (x:=p.cl.getD k 0) (k2:=p.oC+(k+1)) (o2:=p.D6 (k+1)) (zbk h om) (rfl) (rfl) (rfl)) fun YG E a Z=>?_
  refine au (E.pt 6 [3,1,4,5]) (fun HS=>?_)
  refine s_on Z 7 rfl (lT Z E yL [(0,vI (aV (p.cl.getD k 0)))] #[vI (aV (p.cl.getD k 0))] ?_)
  clear Z E;intro a XA g69 Z E
  refine au (E.pt 7 [4,2,5,6]) (fun HS=>?_)
  refine s_on Z 8 rfl (qz Z E (i:=3) rfl yL rfl rfl rfl (news:=([aV (p.cl.getD k 0)].map bC)) (E.aN (i:=0) (n:=1) (size:=1) rfl rfl) (XV _) om om rfl de ?_)
  clear Z E;intro a TD LX c70 Z E Ed
  refine au (E.pt 7 [4,2,5,6]) (fun HS=>?_)
  refine Vb Z E HS ((Vn 9∘Vf 10 3) fun a Z E HS=>?_)
  refine s_on Z 11 rfl (lS Z E 5 ?_)
  clear E;intro I4 E
  refine lG kr ?_
  refine qg kr ?_
  have nJ:C.length+1=(C++[aV (p.cl.getD k 0)]).length:=q0 rfl
  replace E:=E.aI (i:=3) (ys:=(C++[aV (p.cl.getD k 0)]).map bC) rfl nJ (by exact List.map_append.symm)
  rw [nJ] at Ed
  replace Z:=Z.sp 70 (.slice LX ((C++[aV (p.cl.getD k 0)]).length) c70) rfl (by rw [nJ])
  replace E:=E.dZ (i:=5) (ds:= #[vI (aV p.nx),vI p.cp,vQ p.cr,.slice Ag G.length cg,.slice LX ((C++[aV (p.cl.getD k 0)]).length) c70,vN,vN,vN]) rfl (by rw [nJ];try rfl)
  refine Jb Z E ((JG∘JR∘bn 1∘Jp 1∘aQ∘Jq) fun a Z E=>?_)
  exact ⟨_,om,k+1,(C++[aV (p.cl.getD k 0)]),LX,c70,by omega,by rw [hC,D5],by rw [List.length_append,hCl];rfl,Ed,rfl,Z.sub kr,E.pt 7 [3,4,1,2,5,6]⟩
 refine (JF∘JX∘JG∘JQ∘JP∘Jp 1∘Jn∘Jf 0∘Jg 0 O4∘Jp 1∘Jq) fun a Z E=>?_
 replace E:=E.nil 3 1
 replace E:=E.dZ (i:=3) (ds:= #[.slice (dH NA nc (p.oC+p.cp+0)) (p.nums.length- (p.oC+p.cp+0)) (nc- (p.oC+p.cp+0)),.bool (p.Am 0)]) rfl (by rw [show k=p.cp by omega];rfl)
 refine Jb Z E ((JG∘JB) fun a Z E=>?_)
 refine qc (fun mS aS wS=>∃(u:Nat) (U:List Int) (Au:Option Addr) (cu:Nat),(u≤p.cp)∧(U=bK u fun i=>aV (p.cu.getD i 0))∧(U.length=u)∧(U.length≤cu)∧mS=p.cp-u∧Fr aS 191 [] [(79,vI u),(78,vI p.cp),(61,.bool false),(60,vI k),(59,vI p.cp),(31,.bool false),(30,vI j),(29,vI p.gp),(4,vP g3 1),(3,vP g3 0),(2,vP g2 0),(0,vP g 0)]∧Mem W wS (.row (.slice Au U.length cu) U.length (U.map bC) 3 1:: .row (.slice Al C.length cl) C.length (C.map bC) 3 1:: .row (.slice Ag G.length cg) G.length (G.flatMap gZ) 198 2:: .blk g #[.slice (dH NA nc (p.oC+p.cp+u)) (p.nums.length- (p.oC+p.cp+u)) (nc- (p.oC+p.cp+u)),.bool (p.Am u)] 302:: .row (.slice NA p.nums.length nc) p.nums.length (p.nums.map aR) 41 1:: .blk g3 #[vI (aV p.nx),vI p.cp,vQ p.cr,.slice Ag G.length cg,.slice Al C.length cl,.slice Au U.length cu,vN,vN] 50:: .blk g2 #[vI 0,vI 0,vQ 0,vN,vN,vN,vN,vN] 50::fs)) (m:=p.cp-0) ⟨0,[],none,0,Nat.zero_le _,rfl,rfl,Nat.le_refl _,rfl,Z.sub kr,E.pt 7 [0,1,2,3,4,5,6]⟩ ?_
 clear Z E;rintro mS a w_ ⟨u,U,Au,cu,hu,hU,hUl,hUc,rfl,Z,E⟩
 refine Jb Z E ((JP∘Jp 1∘Jj∘JQ) (Ji (fun YH=>?_) fun YH=>?_))
 ·
  refine (JT∘aG∘JQ∘JB∘Vs (.f (.t (.t (.f .n)))) [11]) fun aqb=>(Vp [0,1,5]∘Vn 2∘Vf 3 4∘Vc 4 O3) fun a Z E HS=>?_
  refine s_on Z 6 rfl ?_
  refine MX Z [vP g 0] (y9 W _ g (p.oC+p.cp+u) NA nc p.nums (p.Am u) _ (E.pt 7 [3,4,0,1,2,5,6]) hnc om (x:=p.cu.getD u 0) (k2:=p.oC+p.cp+(u+1)) (o2:=p.Am (u+1)) (zbl h om) (rfl) (rfl) (rfl)) fun w87 E a Z=>?_
  refine au (E.pt 7 [3,4,1,5,6]) (fun HS=>?_)
  refine s_on Z 7 rfl (lT Z E yL [(0,vI (aV (p.cu.getD u 0)))] #[vI (aV (p.cu.getD u 0))] ?_)
  clear Z E;intro a w88 YI Z E
  refine au (E.pt 8 [4,5,2,6,7]) (fun HS=>?_)
  refine s_on Z 8 rfl (qz Z E (i:=3) rfl yL rfl rfl rfl (news:=([aV (p.cu.getD u 0)].map bC)) (E.aN (i:=0) (n:=1) (size:=1) rfl rfl) (XV _) om om rfl de ?_)
  clear Z E;intro a w89 Ui Uj Z E I5
  refine au (E.pt 8 [4,5,2,6,7]) (fun HS=>?_)
  refine Vb Z E HS ((Vn 9∘Vf 10 4) fun a Z E HS=>?_)
  refine s_on Z 11 rfl (lS Z E 6 ?_)
  clear E;intro YJ E
  refine lG kr ?_
  refine qg kr ?_
  have wY:U.length+1=(U++[aV (p.cu.getD u 0)]).length:=q0 rfl
  replace E:=E.aI (i:=3) (ys:=(U++[aV (p.cu.getD u 0)]).map bC) rfl wY (by exact List.map_append.symm)
  rw [wY] at I5
  replace Z:=Z.sp 89 (.slice Ui ((U++[aV (p.cu.getD u 0)]).length) Uj) rfl (by rw [wY])
  replace E:=E.dZ (i:=6) (ds:= #[vI (aV p.nx),vI p.cp,vQ p.cr,.slice Ag G.length cg,.slice Al C.length cl,.slice Ui ((U++[aV (p.cu.getD u 0)]).length) Uj,vN,vN]) rfl (by rw [wY];try rfl)
  refine Jb Z E ((JG∘JR∘bn 1∘Jp 1∘aQ∘Jq) fun a Z E=>?_)
  exact ⟨_,om,u+1,(U++[aV (p.cu.getD u 0)]),Ui,Uj,by omega,by rw [hU,D5],by rw [List.length_append,hUl];rfl,I5,rfl,Z.sub kr,E.pt 8 [3,4,5,1,2,6,7]⟩
 refine (JF∘JX∘JG∘JP∘Jp 1∘Jq) fun a Z E=>?_
 replace E:=E.dZ (i:=3) (ds:= #[.slice (dH NA nc p.oT) (p.nums.length-p.oT) (nc-p.oT),.bool (p.Am p.cp)]) rfl (by rw [show u=p.cp by omega,show p.oC+p.cp+p.cp=p.oT by omega])
 refine Jb Z E ((JG∘JQ∘JP∘Jp 1∘JO (h:=by exact fun E=>y9 W _ g p.oT NA nc p.nums (p.Am p.cp) _ (E.pt 7 [3,4,0,1,2,5,6]) hnc om (x:=p.tk) (k2:=p.oT+1+8*0) (o2:=p.jL 0) (zbm h) (rfl) (rfl) (Yi om))) fun w94=>(Jp 1∘Jq) fun a Z E=>?_)
 replace E:=E.nil 232 8
 refine Jb Z E ((JG∘JB) fun a Z E=>?_)
 refine qc (fun mS aS wS=>∃(i:Nat) (T:List Tk) (At:Option Addr) (ct:Nat),(i≤p.tk)∧(T=bK i p.yg)∧(T.length=i)∧(T.length≤ct)∧mS=p.tk-i∧Fr aS 191 [] [(95,vI i),(94,vI p.tk),(7,vI (p.wV i)),(80,.bool false),(79,vI u),(78,vI p.cp),(61,.bool false),(60,vI k),(59,vI p.cp),(31,.bool false),(30,vI j),(29,vI p.gp),(4,vP g3 1),(3,vP g3 0),(2,vP g2 0),(0,vP g 0)]∧Mem W wS (.row (.slice At T.length ct) T.length (T.flatMap lW) 232 8:: .blk g #[.slice (dH NA nc (p.oT+1+8*i)) (p.nums.length- (p.oT+1+8*i)) (nc- (p.oT+1+8*i)),.bool (p.jL i)] 302:: .row (.slice NA p.nums.length nc) p.nums.length (p.nums.map aR) 41 1:: .row (.slice Au U.length cu) U.length (U.map bC) 3 1:: .row (.slice Al C.length cl) C.length (C.map bC) 3 1:: .row (.slice Ag G.length cg) G.length (G.flatMap gZ) 198 2:: .blk g3 #[vI (aV p.nx),vI p.cp,vQ p.cr,.slice Ag G.length cg,.slice Al C.length cl,.slice Au U.length cu,.slice At T.length ct,vN] 50:: .blk g2 #[vI 0,vI 0,vQ 0,vN,vN,vN,vN,vN] 50::fs)) (m:=p.tk-0) ⟨0,[],none,0,Nat.zero_le _,rfl,rfl,Nat.le_refl _,rfl,Z.sub kr,E.pt 8 [0,1,2,3,4,5,6,7]⟩ ?_
 clear Z E;rintro mS a w_ ⟨i,T,At,ct,hi,hT,hTl,hTc,rfl,Z,E⟩
 refine Jb Z E ((JP∘Jp 1∘Jj∘JQ) (Ji (fun hd96=>?_) fun hd96=>?_))
 ·
  refine (JT∘aG∘JQ∘JB∘JP∘Jp 2∘JO (h:=by exact fun E=>y9 W _ g (p.oT+1+8*i) NA nc p.nums (p.jL i) _ (E.pt 8 [1,2,0,3,4,5,6,7]) hnc om (x:=p.tn i 0) (k2:=p.oT+1+(8*i+1)) (o2:=p.jL i&&dle (p.tn i 0) aC) (FN h (j:=8*i) om) (rfl) (rfl) (rfl))) fun w99=>(Jp 1∘Jo (vI (p.mJ i)) (by exact rfl)∘Jp 1∘eZ∘Jr∘Jp 2∘JO (h:=by exact fun E=>y9 W _ g (p.oT+1+(8*i+1)) NA nc p.nums (p.jL i&&dle (p.tn i 0) aC) _ (E.pt 8 [0,1,2,3,4,5,6,7]) hnc om (x:=p.tn i 1) (k2:=p.oT+1+(8*i+2)) (o2:=(p.jL i&&dle (p.tn i 0) aC)&&dle (p.tn i 1) aC) (FN h (j:=8*i+1) om) (rfl) (rfl) (rfl))) fun YK=>(Jp 1∘JO (h:=by exact fun E=>y9 W _ g (p.oT+1+(8*i+2)) NA nc p.nums ((p.jL i&&dle (p.tn i 0) aC)&&dle (p.tn i 1) aC) _ (E.pt 8 [0,1,2,3,4,5,6,7]) hnc om (x:=p.tn i 2) (k2:=p.oT+1+(8*i+3)) (o2:=((p.jL i&&dle (p.tn i 0) aC)&&dle (p.tn i 1) aC)&&dle (p.tn i 2) aC) (FN h (j:=8*i+2) om) (rfl) (rfl) (rfl))) fun aqe=>(Jp 1∘JO (h:=by exact fun E=>y9 W _ g (p.oT+1+(8*i+3)) NA nc p.nums (((p.jL i&&dle (p.tn i 0) aC)&&dle (p.tn i 1) aC)&&dle (p.tn i 2) aC) _ (E.pt 8 [0,1,2,3,4,5,6,7]) hnc om (x:=p.tn i 3) (k2:=p.oT+1+(8*i+4)) (o2:=(((p.jL i&&dle (p.tn i 0) aC)&&dle (p.tn i 1) aC)&&dle (p.tn i 2) aC)&&dle (p.tn i 3) aC) (FN h (j:=8*i+3) om) (rfl) (rfl) (rfl))) fun Py=>(Jp 1∘JO (h:=by exact fun E=>Ec 18446744073709551615 W _ g (p.oT+1+(8*i+4)) NA nc p.nums ((((p.jL i&&dle (p.tn i 0) aC)&&dle (p.tn i 1) aC)&&dle (p.tn i 2) aC)&&dle (p.tn i 3) aC) _ (E.pt 8 [0,1,2,3,4,5,6,7]) hnc om (x:=p.tn i 4) (k2:=p.oT+1+(8*i+5)) (o2:=((((p.jL i&&dle (p.tn i 0) aC)&&dle (p.tn i 1) aC)&&dle (p.tn i 2) aC)&&dle (p.tn i 3) aC)&&dle (p.tn i 4) 18446744073709551615) (FN h (j:=8*i+4) om) (rfl) (rfl))) fun aqf=>(Jy (v:= .agg #[vI (p.mJ i),vI (aV (p.tn i 1)),vI (aV (p.tn i 2)),vI (aV (p.tn i 3)),vQ (p.tn i 4),.bool false,vQ 0,vW 0]) (h:=by exact Yl.build (vs:=[(0,vI (p.mJ i)),(1,vI (aV (p.tn i 1))),(2,vI (aV (p.tn i 2))),(3,vI (aV (p.tn i 3))),(4,vQ (p.tn i 4))]) rfl kr kr)∘JA #[vI 0,vI 0,vI 0,vI 0,vQ 0,.bool false,vQ 0,vW 0]) fun w8 g8=>(JV eU bg) fun YL=>(aF∘Jq) fun a Z E=>?_
  replace E:Mem W _ (.blk g8 #[vI (p.mJ i),vI (aV (p.tn i 1)),vI (aV (p.tn i 2)),vI (aV (p.tn i 3)),vQ (p.tn i 4),.bool false,vQ 0,vW 0] 232:: .blk g #[.slice (dH NA nc (p.oT+1+(8*i+5))) (p.nums.length- (p.oT+1+(8*i+5))) (nc- (p.oT+1+(8*i+5))),.bool (((((p.jL i&&dle (p.tn i 0) aC)&&dle (p.tn i 1) aC)&&dle (p.tn i 2) aC)&&dle (p.tn i 3) aC)&&dle (p.tn i 4) 18446744073709551615)] 302:: .row (.slice NA p.nums.length nc) p.nums.length (p.nums.map aR) 41 1:: .row (.slice At T.length ct) T.length (T.flatMap lW) 232 8:: .row (.slice Au U.length cu) U.length (U.map bC) 3 1:: .row (.slice Al C.length cl) C.length (C.map bC) 3 1:: .row (.slice Ag G.length cg) G.length (G.flatMap gZ) 198 2:: .blk g3 #[vI (aV p.nx),vI p.cp,vQ p.cr,.slice Ag G.length cg,.slice Al C.length cl,.slice Au U.length cu,.slice At T.length ct,vN] 50:: .blk g2 #[vI 0,vI 0,vQ 0,vN,vN,vN,vN,vN] 50::fs):=E
  refine Jb Z E ((JG∘JP∘Jp 1∘JO (h:=by exact fun E=>Ec 1 W _ g (p.oT+1+(8*i+5)) NA nc p.nums (((((p.jL i&&dle (p.tn i 0) aC)&&dle (p.tn i 1) aC)&&dle (p.tn i 2) aC)&&dle (p.tn i 3) aC)&&dle (p.tn i 4) 18446744073709551615) _ (E.pt 9 [1,2,0,3,4,5,6,7,8]) hnc om (x:=p.tn i 5) (k2:=p.oT+1+(8*i+6)) (o2:=(((((p.jL i&&dle (p.tn i 0) aC)&&dle (p.tn i 1) aC)&&dle (p.tn i 2) aC)&&dle (p.tn i 3) aC)&&dle (p.tn i 4) 18446744073709551615)&&dle (p.tn i 5) 1) (FN h (j:=8*i+5) om) (rfl) (rfl))) fun aqg=>(Jp 1∘Jo (.bool (decide (p.tn i 5=1))) (by exact congrArg Value.bool (zbx _))∘Jp 1∘JO (h:=by exact fun E=>Ec 18446744073709551615 W _ g (p.oT+1+(8*i+6)) NA nc p.nums ((((((p.jL i&&dle (p.tn i 0) aC)&&dle (p.tn i 1) aC)&&dle (p.tn i 2) aC)&&dle (p.tn i 3) aC)&&dle (p.tn i 4) 18446744073709551615)&&dle (p.tn i 5) 1) _ (E.pt 9 [0,1,2,3,4,5,6,7,8]) hnc om (x:=p.tn i 6) (k2:=p.oT+1+(8*i+7)) (o2:=((((((p.jL i&&dle (p.tn i 0) aC)&&dle (p.tn i 1) aC)&&dle (p.tn i 2) aC)&&dle (p.tn i 3) aC)&&dle (p.tn i 4) 18446744073709551615)&&dle (p.tn i 5) 1)&&dle (p.tn i 6) 18446744073709551615) (FN h (j:=8*i+6) om) (rfl) (rfl))) fun aqh=>(Jp 1∘JO (h:=by exact fun E=>Ec 4294967295 W _ g (p.oT+1+(8*i+7)) NA nc p.nums (((((((p.jL i&&dle (p.tn i 0) aC)&&dle (p.tn i 1) aC)&&dle (p.tn i 2) aC)&&dle (p.tn i 3) aC)&&dle (p.tn i 4) 18446744073709551615)&&dle (p.tn i 5) 1)&&dle (p.tn i 6) 18446744073709551615) _ (E.pt 9 [0,1,2,3,4,5,6,7,8]) hnc om (x:=p.tn i 7) (k2:=p.oT+1+8*(i+1)) (o2:=(((((((p.jL i&&dle (p.tn i 0) aC)&&dle (p.tn i 1) aC)&&dle (p.tn i 2) aC)&&dle (p.tn i 3) aC)&&dle (p.tn i 4) 18446744073709551615)&&dle (p.tn i 5) 1)&&dle (p.tn i 6) 18446744073709551615)&&dle (p.tn i 7) 4294967295) (FN h (j:=8*i+7) om) om (rfl))) fun YM=>(Jv 1 [(118,vW (IntKind.u32.wrap (p.tn i 7:Int)))]∘Jo (vW ((p.tn i 7)%4294967296:Nat)) (by exact qy5 (p.tn i 7))∘Jf 5∘JW gH Hf) fun afQ=>(Jf 6∘JW gH SE) fun YN=>(Jf 7∘JW gH MZ) fun YO=>(lH∘Jq) fun a Z E=>?_)
  replace E:Mem W _ (.blk g #[.slice (dH NA nc (p.oT+1+8*(i+1))) (p.nums.length- (p.oT+1+8*(i+1))) (nc- (p.oT+1+8*(i+1))),.bool ((((((((p.jL i&&dle (p.tn i 0) aC)&&dle (p.tn i 1) aC)&&dle (p.tn i 2) aC)&&dle (p.tn i 3) aC)&&dle (p.tn i 4) 18446744073709551615)&&dle (p.tn i 5) 1)&&dle (p.tn i 6) 18446744073709551615)&&dle (p.tn i 7) 4294967295)] 302:: .row (.slice NA p.nums.length nc) p.nums.length (p.nums.map aR) 41 1:: .blk g8 #[vI (p.mJ i),vI (aV (p.tn i 1)),vI (aV (p.tn i 2)),vI (aV (p.tn i 3)),vQ (p.tn i 4),.bool (decide (p.tn i 5=1)),vQ (p.tn i 6),vW ((p.tn i 7)%4294967296:Nat)] 232:: .row (.slice At T.length ct) T.length (T.flatMap lW) 232 8:: .row (.slice Au U.length cu) U.length (U.map bC) 3 1:: .row (.slice Al C.length cl) C.length (C.map bC) 3 1:: .row (.slice Ag G.length cg) G.length (G.flatMap gZ) 198 2:: .blk g3 #[vI (aV p.nx),vI p.cp,vQ p.cr,.slice Ag G.length cg,.slice Al C.length cl,.slice Au U.length cu,.slice At T.length ct,vN] 50:: .blk g2 #[vI 0,vI 0,vQ 0,vN,vN,vN,vN,vN] 50::fs):=E
  refine wp_seq ?_
  refine Jb Z E ((Vs (.t (.t (.t (.f .n)))) [10]) fun aqi=>(Vp [0,1]∘Vn 2∘Vf 3 5∘Vc 4 O6∘Vy 5 (v:= .agg #[vI (p.mJ i),vI (aV (p.tn i 1)),vI (aV (p.tn i 2)),vI (aV (p.tn i 3)),vQ (p.tn i 4),.bool (decide (p.tn i 5=1)),vQ (p.tn i 6),vW ((p.tn i 7)%4294967296:Nat)]) (h:=by exact Yl.qf rfl rfl eU rfl (fun _ h=>qb (h.blk (i:=2) rfl)))) fun a Z E HS=>?_)
  refine s_on Z 6 rfl (lT Z E qC [(0,.agg #[vI (p.mJ i),vI (aV (p.tn i 1)),vI (aV (p.tn i 2)),vI (aV (p.tn i 3)),vQ (p.tn i 4),.bool (decide (p.tn i 5=1)),vQ (p.tn i 6),vW ((p.tn i 7)%4294967296:Nat)])] #[vI (p.mJ i),vI (aV (p.tn i 1)),vI (aV (p.tn i 2)),vI (aV (p.tn i 3)),vQ (p.tn i 4),.bool (decide (p.tn i 5=1)),vQ (p.tn i 6),vW ((p.tn i 7)%4294967296:Nat)] ?_)
  clear Z E;intro a aqj aqk Z E
  refine au (E.pt 10 [1,2,3,5,6,7,8,9]) (fun HS=>?_)
  refine s_on Z 7 rfl (qz Z E (i:=4) rfl qC rfl rfl rfl (news:=([p.yg i].flatMap lW)) (E.aN (i:=0) (n:=1) (size:=8) rfl rfl) (Og _) om om rfl de ?_)
  clear Z E;intro a aql Ee Ef Z E AV
  refine au (E.pt 10 [1,2,3,5,6,7,8,9]) (fun HS=>?_)
  refine Vb Z E HS ((Vn 8∘Vf 9 5) fun a Z E HS=>?_)
  refine s_on Z 10 rfl (lS Z E 8 ?_)
  clear E;intro YP E
  refine lG kr ?_
  refine qg kr ?_
  have rV:T.length+1=(T++[p.yg i]).length:=q0 rfl
  replace E:=E.aI (i:=4) (ys:=(T++[p.yg i]).flatMap lW) rfl rV (by exact List.flatMap_append.symm)
  rw [rV] at AV
  replace Z:=Z.sp 129 (.slice Ee ((T++[p.yg i]).length) Ef) rfl (by rw [rV])
  replace E:=E.dZ (i:=8) (ds:= #[vI (aV p.nx),vI p.cp,vQ p.cr,.slice Ag G.length cg,.slice Al C.length cl,.slice Au U.length cu,.slice Ee ((T++[p.yg i]).length) Ef,vN]) rfl (by rw [rV];try rfl)
  refine Jb Z E ((JP∘Jp 2∘Jn∘Jg 1 O1∘Jp 1) (Ju (fun AX=>?_) fun AX=>?_))
  ·
   refine (Jp 3∘Jn∘Jf 1∘JW gQ gQ) fun I6=>(lH∘Jj∘JR∘Jp 1∘Jy (v:=vI (if (65535:Int)<(p.mJ i:Int) then 65535 else p.mJ i)) (h:=by exact Yl.min rfl rfl rfl)∘Jo (vI (p.wV (i+1))) (by exact rfl)∘Jp 1∘aF∘Jj∘JR∘bn 1∘Jp 1∘aQ∘Jq) fun a Z E=>?_
   replace E:=E.dZ (i:=1) (ds:= #[.slice (dH NA nc (p.oT+1+8*(i+1))) (p.nums.length- (p.oT+1+8*(i+1))) (nc- (p.oT+1+8*(i+1))),.bool (p.jL (i+1))]) rfl (by rw [show p.jL (i+1)=(((((((((p.jL i&&dle (p.tn i 0) aC)&&dle (p.tn i 1) aC)&&dle (p.tn i 2) aC)&&dle (p.tn i 3) aC)&&dle (p.tn i 4) 18446744073709551615)&&dle (p.tn i 5) 1)&&dle (p.tn i 6) 18446744073709551615)&&dle (p.tn i 7) 4294967295)&&decide (p.mJ i≤65535)) from rfl,AX];rfl)
   exact ⟨_,om,i+1,(T++[p.yg i]),Ee,Ef,by omega,by rw [hT,D5],by rw [List.length_append,hTl];rfl,AV,rfl,Z.sub kr,E.pt 10 [4,1,2,5,6,7,8,9]⟩
  refine (Jp 3∘Jn∘Jf 1∘JW gQ gQ) fun I6=>(lH∘Jj∘JR∘Jp 1∘Jy (v:=vI (if (65535:Int)<(p.mJ i:Int) then 65535 else p.mJ i)) (h:=by exact Yl.min rfl rfl rfl)∘Jo (vI (p.wV (i+1))) (by exact rfl)∘Jp 1∘aF∘Jj∘JR∘bn 1∘Jp 1∘aQ∘Jq) fun a Z E=>?_
  replace E:=E.dZ (i:=1) (ds:= #[.slice (dH NA nc (p.oT+1+8*(i+1))) (p.nums.length- (p.oT+1+8*(i+1))) (nc- (p.oT+1+8*(i+1))),.bool (p.jL (i+1))]) rfl (by rw [show p.jL (i+1)=(((((((((p.jL i&&dle (p.tn i 0) aC)&&dle (p.tn i 1) aC)&&dle (p.tn i 2) aC)&&dle (p.tn i 3) aC)&&dle (p.tn i 4) 18446744073709551615)&&dle (p.tn i 5) 1)&&dle (p.tn i 6) 18446744073709551615)&&dle (p.tn i 7) 4294967295)&&decide (p.mJ i≤65535)) from rfl,AX];rfl)
  exact ⟨_,om,i+1,(T++[p.yg i]),Ee,Ef,by omega,by rw [hT,D5],by rw [List.length_append,hTl];rfl,AV,rfl,Z.sub kr,E.pt 10 [4,1,2,5,6,7,8,9]⟩
 refine (JF∘JX∘JG∘JQ∘JP∘Jp 1∘Jn∘Jf 0∘Jg 2 O6∘Jl∘Jp 1∘Jq) fun a Z E=>?_
 replace E:=E.dZ (i:=1) (ds:= #[.slice (dH NA nc (p.oS+p.so 0 0)) (p.nums.length- (p.oS+p.so 0 0)) (nc- (p.oS+p.so 0 0)),.bool (p.oI 0)]) rfl (by rw [show i=p.tk by omega];rfl)
 replace E:=E.nil 176 1
 replace E:=E.wL 200 3
 replace E:Mem W _ (.row (vN) 0 [] 176 1:: .row (.slice At T.length ct) T.length (T.flatMap lW) 232 8:: .blk g #[.slice (dH NA nc (p.oS+p.so 0 0)) (p.nums.length- (p.oS+p.so 0 0)) (nc- (p.oS+p.so 0 0)),.bool (p.oI 0)] 302:: .row (.slice NA p.nums.length nc) p.nums.length (p.nums.map aR) 41 1:: .row (.slice Au U.length cu) U.length (U.map bC) 3 1:: .row (.slice Al C.length cl) C.length (C.map bC) 3 1:: .row (.slice Ag G.length cg) G.length (G.flatMap gZ) 198 2:: .blk g3 #[vI (aV p.nx),vI p.cp,vQ p.cr,.slice Ag G.length cg,.slice Al C.length cl,.slice Au U.length cu,.slice At T.length ct,vN] 50:: .blk g2 #[vI 0,vI 0,vQ 0,vN,vN,vN,vN,vN] 50::(fs++(fq 200 []))):=E
 refine Jb Z E ((JG∘JB) fun a Z E=>?_)
 refine qc (fun mS aS wS=>∃(y:Nat) (z:List Rw) (As:Option Addr) (cs:Nat),(y≤G.length)∧(z.length=y)∧(z.map Rw.l=bK y p.row)∧(∀q∈z,q.l.length≤q.c)∧(z.length≤cs)∧mS=G.length-y∧Fr aS 191 [] [(152,vI y),(151,vI G.length),(96,.bool false),(95,vI i),(94,vI p.tk),(7,vI (p.wV i)),(80,.bool false),(79,vI u),(78,vI p.cp),(61,.bool false),(60,vI k),(59,vI p.cp),(31,.bool false),(30,vI j),(29,vI p.gp),(4,vP g3 1),(3,vP g3 0),(2,vP g2 0),(0,vP g 0)]∧Mem W wS (.row (.slice As z.length cs) z.length (z.map Rw.val) 176 1:: .row (.slice At T.length ct) T.length (T.flatMap lW) 232 8:: .blk g #[.slice (dH NA nc (p.oS+p.so y 0)) (p.nums.length- (p.oS+p.so y 0)) (nc- (p.oS+p.so y 0)),.bool (p.oI y)] 302:: .row (.slice NA p.nums.length nc) p.nums.length (p.nums.map aR) 41 1:: .row (.slice Au U.length cu) U.length (U.map bC) 3 1:: .row (.slice Al C.length cl) C.length (C.map bC) 3 1:: .row (.slice Ag G.length cg) G.length (G.flatMap gZ) 198 2:: .blk g3 #[vI (aV p.nx),vI p.cp,vQ p.cr,.slice Ag G.length cg,.slice Al C.length cl,.slice Au U.length cu,.slice At T.length ct,.slice As z.length cs] 50:: .blk g2 #[vI 0,vI 0,vQ 0,vN,vN,vN,vN,vN] 50::(fs++(fq 200 z)))) (m:=G.length-0) ⟨0,[],none,0,Nat.zero_le _,rfl,rfl,(fun q h=>by cases h),Nat.le_refl _,rfl,Z.sub kr,E.pt 9 [0,1,2,3,4,5,6,7,8]⟩ ?_
 clear Z E;rintro mS a w_ ⟨y,z,As,cs,hy,hzl,hz,hzc,hcs,rfl,Z,E⟩
 refine Jb Z E ((JP∘Jp 1∘Jj∘JQ) (Ju (fun AY=>?_) fun AY=>?_))
 ·
  intro a Z E
  have hd153:=of_decide_eq_true AY
  have hyg:y<p.gp:=by omega
  refine Jb Z E ((JT∘aG∘JQ∘JB∘JP∘Jp 2∘aQ∘Jr∘Jp 1∘Jq) fun a Z E=>?_)
  replace E:=E.nil 200 3
  refine Jb Z E ((JG∘JQ∘JP∘Jp 1∘Jn∘Jf 0∘Jg 0 O8∘Jp 1∘Jj∘JB) fun a Z E=>?_)
  refine qc (fun mS aS wS=>∃(x:Nat) (R:List Sp) (Ar:Option Addr) (cr:Nat),(x≤p.cp)∧(R=bK x (p.vM y))∧(R.length=x)∧(R.length≤cr)∧mS=p.cp-x∧Fr aS 191 [] [(160,vI x),(159,vI p.cp),(10,.slice Ar R.length cr),(9,vI y),(153,.bool true),(152,vI y),(151,vI G.length),(96,.bool false),(95,vI i),(94,vI p.tk),(7,vI (p.wV i)),(80,.bool false),(79,vI u),(78,vI p.cp),(61,.bool false),(60,vI k),(59,vI p.cp),(31,.bool false),(30,vI j),(29,vI p.gp),(4,vP g3 1),(3,vP g3 0),(2,vP g2 0),(0,vP g 0)]∧Mem W wS (.row (.slice Ar R.length cr) R.length (R.flatMap jy) 200 3:: .row (.slice As z.length cs) z.length (z.map Rw.val) 176 1:: .row (.slice At T.length ct) T.length (T.flatMap lW) 232 8:: .blk g #[.slice (dH NA nc (p.oS+p.so y x)) (p.nums.length- (p.oS+p.so y x)) (nc- (p.oS+p.so y x)),.bool (p.nD (p.oI y) y x)] 302:: .row (.slice NA p.nums.length nc) p.nums.length (p.nums.map aR) 41 1:: .row (.slice Au U.length cu) U.length (U.map bC) 3 1:: .row (.slice Al C.length cl) C.length (C.map bC) 3 1:: .row (.slice Ag G.length cg) G.length (G.flatMap gZ) 198 2:: .blk g3 #[vI (aV p.nx),vI p.cp,vQ p.cr,.slice Ag G.length cg,.slice Al C.length cl,.slice Au U.length cu,.slice At T.length ct,.slice As z.length cs] 50:: .blk g2 #[vI 0,vI 0,vQ 0,vN,vN,vN,vN,vN] 50::(fs++(fq 200 z)))) (m:=p.cp-0) ⟨0,[],none,0,Nat.zero_le _,rfl,rfl,Nat.le_refl _,rfl,Z.sub kr,E.pt 10 [0,1,2,3,4,5,6,7,8,9]⟩ ?_
  clear Z E;rintro mS a w_ ⟨x,R,Ar,cr,hx,hR,hRl,hRc,rfl,Z,E⟩
  refine Jb Z E ((JP∘Jp 1∘Jj∘JQ) (Ju (fun AZ=>?_) fun AZ=>?_))
  ·
   intro a Z E
   have Pz:=of_decide_eq_true AZ
   have hxc:x<p.cp:=by omega
   have hin:=OP h hyg hxc
   refine Jb Z E ((JT∘aG∘JQ∘JB∘JP∘JA #[vQ 0,vW 0,vQ 0]) fun wN g11=>(Jj∘JQ∘JP∘Jp 2∘aQ∘Jj) (Ju (fun Ba=>?_) fun Ba=>?_))
   ·
    intro a Z E
    have PD:=of_decide_eq_true Ba
    rw [if_neg om] at hin
    have hsp:p.vM y x=⟨p.sn y x 0,p.sn y x 1%4294967296,p.sn y x 2⟩:=if_neg om
    refine Jb Z E ((JT∘JR∘Jp 1∘JO (h:=by exact fun E=>Ec 18446744073709551615 W _ g (p.oS+p.so y x) NA nc p.nums (p.nD (p.oI y) y x) _ (E.pt 11 [4,5,0,1,2,3,6,7,8,9,10]) hnc om (x:=p.sn y x 0) (k2:=p.oS+(p.so y x+1)) (o2:=p.nD (p.oI y) y x&&dle (p.sn y x 0) 18446744073709551615) (TT h (p.so y x)) (rfl) (rfl))) fun Eh=>(Jp 1∘JO (h:=by exact fun E=>Ec 4294967295 W _ g (p.oS+(p.so y x+1)) NA nc p.nums (p.nD (p.oI y) y x&&dle (p.sn y x 0) 18446744073709551615) _ (E.pt 11 [0,1,2,3,4,5,6,7,8,9,10]) hnc om (x:=p.sn y x 1) (k2:=p.oS+(p.so y x+2)) (o2:=(p.nD (p.oI y) y x&&dle (p.sn y x 0) 18446744073709551615)&&dle (p.sn y x 1) 4294967295) (TT h (p.so y x+1)) (rfl) (rfl))) fun aqn=>(Jv 1 [(168,vW (IntKind.u32.wrap (p.sn y x 1:Int)))]∘Jo (vW ((p.sn y x 1)%4294967296:Nat)) (by exact qy5 (p.sn y x 1))∘Jf 0∘JW gH bg) fun afR=>(Jf 1∘JW gH gQ) fun afS=>(lH∘Jq) fun a Z E=>?_)
    replace E:Mem W _ (.blk g #[.slice (dH NA nc (p.oS+(p.so y x+2))) (p.nums.length- (p.oS+(p.so y x+2))) (nc- (p.oS+(p.so y x+2))),.bool ((p.nD (p.oI y) y x&&dle (p.sn y x 0) 18446744073709551615)&&dle (p.sn y x 1) 4294967295)] 302:: .row (.slice NA p.nums.length nc) p.nums.length (p.nums.map aR) 41 1:: .blk g11 #[vQ (p.sn y x 0),vW ((p.sn y x 1)%4294967296:Nat),vQ 0] 200:: .row (.slice Ar R.length cr) R.length (R.flatMap jy) 200 3:: .row (.slice As z.length cs) z.length (z.map Rw.val) 176 1:: .row (.slice At T.length ct) T.length (T.flatMap lW) 232 8:: .row (.slice Au U.length cu) U.length (U.map bC) 3 1:: .row (.slice Al C.length cl) C.length (C.map bC) 3 1:: .row (.slice Ag G.length cg) G.length (G.flatMap gZ) 198 2:: .blk g3 #[vI (aV p.nx),vI p.cp,vQ p.cr,.slice Ag G.length cg,.slice Al C.length cl,.slice Au U.length cu,.slice At T.length ct,.slice As z.length cs] 50:: .blk g2 #[vI 0,vI 0,vQ 0,vN,vN,vN,vN,vN] 50::(fs++(fq 200 z))):=E
    refine Jb Z E ((JG∘JP∘Jp 1∘JO (h:=by exact fun E=>Ec 18446744073709551615 W _ g (p.oS+(p.so y x+2)) NA nc p.nums ((p.nD (p.oI y) y x&&dle (p.sn y x 0) 18446744073709551615)&&dle (p.sn y x 1) 4294967295) _ (E.pt 11 [0,1,2,3,4,5,6,7,8,9,10]) hnc om (x:=p.sn y x 2) (k2:=p.oS+p.so y (x+1)) (o2:=p.nD (p.oI y) y (x+1)) (TT h (p.so y x+2)) (by rw [Pp om];rfl) ((Pt om).symm))) fun YQ=>(Jf 2∘JW gH gH) fun PE=>(KY∘Jq) fun a Z E=>?_)
    replace E:Mem W _ (.blk g #[.slice (dH NA nc (p.oS+p.so y (x+1))) (p.nums.length- (p.oS+p.so y (x+1))) (nc- (p.oS+p.so y (x+1))),.bool (p.nD (p.oI y) y (x+1))] 302:: .row (.slice NA p.nums.length nc) p.nums.length (p.nums.map aR) 41 1:: .blk g11 #[vQ (p.sn y x 0),vW ((p.sn y x 1)%4294967296:Nat),vQ (p.sn y x 2)] 200:: .row (.slice Ar R.length cr) R.length (R.flatMap jy) 200 3:: .row (.slice As z.length cs) z.length (z.map Rw.val) 176 1:: .row (.slice At T.length ct) T.length (T.flatMap lW) 232 8:: .row (.slice Au U.length cu) U.length (U.map bC) 3 1:: .row (.slice Al C.length cl) C.length (C.map bC) 3 1:: .row (.slice Ag G.length cg) G.length (G.flatMap gZ) 198 2:: .blk g3 #[vI (aV p.nx),vI p.cp,vQ p.cr,.slice Ag G.length cg,.slice Al C.length cl,.slice Au U.length cu,.slice At T.length ct,.slice As z.length cs] 50:: .blk g2 #[vI 0,vI 0,vQ 0,vN,vN,vN,vN,vN] 50::(fs++(fq 200 z))):=E
    refine Jb Z E ((JG∘JR∘Jp 1∘Jy (v:= .agg #[vQ (p.sn y x 0),vW ((p.sn y x 1)%4294967296:Nat),vQ (p.sn y x 2)]) (h:=by exact Yl.qf rfl rfl kD rfl (fun _ h=>qb (h.blk (i:=2) rfl)))∘JU qD #[vQ (p.sn y x 0),vW ((p.sn y x 1)%4294967296:Nat),vQ (p.sn y x 2)]) fun YR YS=>(JD ([(⟨p.sn y x 0,p.sn y x 1%4294967296,p.sn y x 2⟩:Sp)].flatMap jy) 4 (fun _ _=>sO) qD (hr:=by exact fun E=>E.aN (i:=0) (n:=1) (size:=3) rfl rfl) (h1:=by exact XU _)) fun YT Bb Bc tC=>(Jp 1∘eZ∘Jq) fun a Z E=>?_)
    have kZ:R.length+1=(R++[p.vM y x]).length:=q0 rfl
    replace E:=E.aI (i:=4) (ys:=(R++[p.vM y x]).flatMap jy) rfl kZ (by rw [hsp];exact List.flatMap_append.symm)
    rw [kZ] at tC
    replace Z:=Z.sp 10 (.slice Bb ((R++[p.vM y x]).length) Bc) rfl (by rw [kZ])
    refine Jb Z E ((JG∘JR∘bn 1∘Jp 1∘aQ∘Jq) fun a Z E=>?_)
    exact ⟨_,om,x+1,(R++[p.vM y x]),Bb,Bc,by omega,by rw [hR,D5],by rw [List.length_append,hRl];rfl,tC,rfl,Z.sub kr,E.pt 12 [4,5,6,1,2,7,8,9,10,11]⟩
   intro a Z E
   have PD:=of_decide_eq_false Ba
   rw [if_pos om] at hin
   have hsp:p.vM y x=⟨0,0,p.sn y x 0⟩:=if_pos om
   refine Jb Z E ((JF∘aG∘JP∘Jp 1∘JO (h:=by exact fun E=>Ec 18446744073709551615 W _ g (p.oS+p.so y x) NA nc p.nums (p.nD (p.oI y) y x) _ (E.pt 11 [4,5,0,1,2,3,6,7,8,9,10]) hnc om (x:=p.sn y x 0) (k2:=p.oS+p.so y (x+1)) (o2:=p.nD (p.oI y) y (x+1)) (TT h (p.so y x)) (by rw [Po om];rfl) ((Pq om).symm))) fun YQ=>(Jf 2∘JW gH gH) fun PE=>(Dr∘Jq) fun a Z E=>?_)
   replace E:Mem W _ (.blk g #[.slice (dH NA nc (p.oS+p.so y (x+1))) (p.nums.length- (p.oS+p.so y (x+1))) (nc- (p.oS+p.so y (x+1))),.bool (p.nD (p.oI y) y (x+1))] 302:: .row (.slice NA p.nums.length nc) p.nums.length (p.nums.map aR) 41 1:: .blk g11 #[vQ 0,vW 0,vQ (p.sn y x 0)] 200:: .row (.slice Ar R.length cr) R.length (R.flatMap jy) 200 3:: .row (.slice As z.length cs) z.length (z.map Rw.val) 176 1:: .row (.slice At T.length ct) T.length (T.flatMap lW) 232 8:: .row (.slice Au U.length cu) U.length (U.map bC) 3 1:: .row (.slice Al C.length cl) C.length (C.map bC) 3 1:: .row (.slice Ag G.length cg) G.length (G.flatMap gZ) 198 2:: .blk g3 #[vI (aV p.nx),vI p.cp,vQ p.cr,.slice Ag G.length cg,.slice Al C.length cl,.slice Au U.length cu,.slice At T.length ct,.slice As z.length cs] 50:: .blk g2 #[vI 0,vI 0,vQ 0,vN,vN,vN,vN,vN] 50::(fs++(fq 200 z))):=E
   refine Jb Z E ((JG∘JR∘Jp 1∘Jy (v:= .agg #[vQ 0,vW 0,vQ (p.sn y x 0)]) (h:=by exact Yl.qf rfl rfl kD rfl (fun _ h=>qb (h.blk (i:=2) rfl)))∘JU qD #[vQ 0,vW 0,vQ (p.sn y x 0)]) fun YR YS=>(JD ([(⟨0,0,p.sn y x 0⟩:Sp)].flatMap jy) 4 (fun _ _=>sO) qD (hr:=by exact fun E=>E.aN (i:=0) (n:=1) (size:=3) rfl rfl) (h1:=by exact XU _)) fun YT Bb Bc tC=>(Jp 1∘eZ∘Jq) fun a Z E=>?_)
   have kZ:R.length+1=(R++[p.vM y x]).length:=q0 rfl
   replace E:=E.aI (i:=4) (ys:=(R++[p.vM y x]).flatMap jy) rfl kZ (by rw [hsp];exact List.flatMap_append.symm)
   rw [kZ] at tC
   replace Z:=Z.sp 10 (.slice Bb ((R++[p.vM y x]).length) Bc) rfl (by rw [kZ])
   refine Jb Z E ((JG∘JR∘bn 1∘Jp 1∘aQ∘Jq) fun a Z E=>?_)
   exact ⟨_,om,x+1,(R++[p.vM y x]),Bb,Bc,by omega,by rw [hR,D5],by rw [List.length_append,hRl];rfl,tC,rfl,Z.sub kr,E.pt 12 [4,5,6,1,2,7,8,9,10,11]⟩
  intro a Z E
  have Pz:=of_decide_eq_false AZ
  refine Jb Z E ((JF∘JX∘JG∘JR∘Jp 2∘Jn∘Jg 6 O8∘Jp 1∘JU sW #[.slice Ar R.length cr]) fun aqo aqp=>(JD ([(⟨Ar,cr,R⟩:Rw)].map Rw.val) 2 (fun _ _=>gH) sW (hr:=by exact fun E=>E.aN (i:=0) (n:=1) (size:=1) rfl rfl) (h1:=by exact q81 _)) fun aqr tF tH F3=>(Jn∘Jf 6∘JW O9' MZ) fun YU=>(lH∘Jq) fun a Z E=>?_)
  have wm:z.length+1=(z++[(⟨Ar,cr,R⟩:Rw)]).length:=q0 rfl
  replace E:=E.aI (i:=2) (ys:=(z++[(⟨Ar,cr,R⟩:Rw)]).map Rw.val) rfl wm (by exact List.map_append.symm)
  rw [wm] at F3
  replace E:=E.dZ (i:=9) (ds:= #[vI (aV p.nx),vI p.cp,vQ p.cr,.slice Ag G.length cg,.slice Al C.length cl,.slice Au U.length cu,.slice At T.length ct,.slice tF ((z++[(⟨Ar,cr,R⟩:Rw)]).length) tH]) rfl (by rw [wm];try rfl)
  replace E:=E.pt (fs':=(.row (.slice Ar R.length cr) R.length (R.flatMap jy) 200 3:: .row (.slice tF ((z++[(⟨Ar,cr,R⟩:Rw)]).length) tH) ((z++[(⟨Ar,cr,R⟩:Rw)]).length) ((z++[(⟨Ar,cr,R⟩:Rw)]).map Rw.val) 176 1:: .row (.slice At T.length ct) T.length (T.flatMap lW) 232 8:: .blk g #[.slice (dH NA nc (p.oS+p.so y x)) (p.nums.length- (p.oS+p.so y x)) (nc- (p.oS+p.so y x)),.bool (p.nD (p.oI y) y x)] 302:: .row (.slice NA p.nums.length nc) p.nums.length (p.nums.map aR) 41 1:: .row (.slice Au U.length cu) U.length (U.map bC) 3 1:: .row (.slice Al C.length cl) C.length (C.map bC) 3 1:: .row (.slice Ag G.length cg) G.length (G.flatMap gZ) 198 2:: .blk g3 #[vI (aV p.nx),vI p.cp,vQ p.cr,.slice Ag G.length cg,.slice Al C.length cl,.slice Au U.length cu,.slice At T.length ct,.slice tF ((z++[(⟨Ar,cr,R⟩:Rw)]).length) tH] 50:: .blk g2 #[vI 0,vI 0,vQ 0,vN,vN,vN,vN,vN] 50::(fs++(fq 200 z)))) 11 [1,2,3,4,5,6,7,8,9,10]
  replace E:=Mem.Oe (fs:=(.row (.slice tF ((z++[(⟨Ar,cr,R⟩:Rw)]).length) tH) ((z++[(⟨Ar,cr,R⟩:Rw)]).length) ((z++[(⟨Ar,cr,R⟩:Rw)]).map Rw.val) 176 1:: .row (.slice At T.length ct) T.length (T.flatMap lW) 232 8:: .blk g #[.slice (dH NA nc (p.oS+p.so y x)) (p.nums.length- (p.oS+p.so y x)) (nc- (p.oS+p.so y x)),.bool (p.nD (p.oI y) y x)] 302:: .row (.slice NA p.nums.length nc) p.nums.length (p.nums.map aR) 41 1:: .row (.slice Au U.length cu) U.length (U.map bC) 3 1:: .row (.slice Al C.length cl) C.length (C.map bC) 3 1:: .row (.slice Ag G.length cg) G.length (G.flatMap gZ) 198 2:: .blk g3 #[vI (aV p.nx),vI p.cp,vQ p.cr,.slice Ag G.length cg,.slice Al C.length cl,.slice Au U.length cu,.slice At T.length ct,.slice tF ((z++[(⟨Ar,cr,R⟩:Rw)]).length) tH] 50:: .blk g2 #[vI 0,vI 0,vQ 0,vN,vN,vN,vN,vN] 50::fs)) E
  replace E:Mem W _ (.row (.slice tF ((z++[(⟨Ar,cr,R⟩:Rw)]).length) tH) ((z++[(⟨Ar,cr,R⟩:Rw)]).length) ((z++[(⟨Ar,cr,R⟩:Rw)]).map Rw.val) 176 1:: .row (.slice At T.length ct) T.length (T.flatMap lW) 232 8:: .blk g #[.slice (dH NA nc (p.oS+p.so y x)) (p.nums.length- (p.oS+p.so y x)) (nc- (p.oS+p.so y x)),.bool (p.nD (p.oI y) y x)] 302:: .row (.slice NA p.nums.length nc) p.nums.length (p.nums.map aR) 41 1:: .row (.slice Au U.length cu) U.length (U.map bC) 3 1:: .row (.slice Al C.length cl) C.length (C.map bC) 3 1:: .row (.slice Ag G.length cg) G.length (G.flatMap gZ) 198 2:: .blk g3 #[vI (aV p.nx),vI p.cp,vQ p.cr,.slice Ag G.length cg,.slice Al C.length cl,.slice Au U.length cu,.slice At T.length ct,.slice tF ((z++[(⟨Ar,cr,R⟩:Rw)]).length) tH] 50:: .blk g2 #[vI 0,vI 0,vQ 0,vN,vN,vN,vN,vN] 50::(fs++(fq 200 (z++[(⟨Ar,cr,R⟩:Rw)])))):=E
  refine Jb Z E ((JG∘JR∘bn 1∘Jp 1∘eZ∘Jq) fun a Z E=>?_)
  replace E:=E.dZ (i:=2) (ds:= #[.slice (dH NA nc (p.oS+p.so (y+1) 0)) (p.nums.length- (p.oS+p.so (y+1) 0)) (nc- (p.oS+p.so (y+1) 0)),.bool (p.oI (y+1))]) rfl (by rw [TU,show x=p.cp by omega];rfl)
  exact ⟨_,om,y+1,(z++[(⟨Ar,cr,R⟩:Rw)]),tF,tH,by omega,by rw [List.length_append,hzl];rfl,by rw [List.map_append,hz,D5,hR,show x=p.cp by omega];rfl,fun q h=>(List.mem_append.1 h).elim (hzc q) (fun h=>by rw [List.mem_singleton] at h;subst h;exact hRc),F3,rfl,Z.sub kr,E.pt 9 [0,1,2,3,4,5,6,7,8]⟩
 intro a Z E
 have hd153:=of_decide_eq_false AY
 have e0:y=p.gp:=by omega
 have e1:bK p.gp p.gG=G:=by rw [hG,show j=p.gp by omega]
 have e2:p.cl.map aV=C:=by rw [hC,show k=p.cp by omega];exact (qqb h.cl aV).symm
 have e3:p.cu.map aV=U:=by rw [hU,show u=p.cp by omega];exact (qqb h.cu aV).symm
 have e4:bK p.tk p.yg=T:=by rw [hT,show i=p.tk by omega]
 have e5:(bK p.gp fun g=>(⟨none,0,p.row g⟩:Rw)).map Rw.l=z.map Rw.l:=by rw [hz,e0];exact q60 _ _ _
 refine Jb Z E ((JF∘JX∘JG∘JP∘Jy (v:= .agg #[vI (aV p.nx),vI p.cp,vQ p.cr,.slice Ag G.length cg,.slice Al C.length cl,.slice Au U.length cu,.slice At T.length ct,.slice As z.length cs]) (h:=by exact Yl.qf rfl rfl zr rfl (fun _ h=>qb (h.blk (i:=7) rfl)))∘JV zr O8') fun afT=>(wK∘Jq) fun a Z E=>?_)
 replace E:=E.dZ (i:=2) (ds:= #[.slice (dH NA nc (p.oS+p.so p.gp 0)) (p.nums.length- (p.oS+p.so p.gp 0)) (nc- (p.oS+p.so p.gp 0)),.bool p.okB]) rfl (by rw [e0];try rfl)
 refine Jb Z E ((JG∘JZ) fun a Z E=>?_)
 exact nN rfl Z (.cellS (i:=8) Z E rfl rfl zr rfl) (⟨(⟨aV p.nx,⟨(p.cp:Int),p.cr,Ag,cg,G,Al,cl,C,Au,cu,U,At,ct,T,As,cs,z⟩⟩:bH),_,_,_,rfl,qH rfl ⟨⟨rfl,rfl,e1⟩,e2,e3,e4,e5⟩,⟨hGc,hCc,hUc,hTc,hcs,hzc⟩,Mem.zfm (E.pt 9 [2,6,5,4,1,0])⟩)
theorem q2x (A:Option Addr) (c:Nat) (l:List Nat) (B:Nat) (w:World) (hL:aO B w) (hB:B≤w.heap.size) (hr:Rd w w.heap.size 1 A l.length (l.map B8)) (hc:l.length≤c) (hn:l.length≤100000000) (hl:∀z∈l,z<256):
    Calls Tryz.prog 112 #[.slice A l.length c] w (Uc w (rU l) (nE l)):=by
 refine (bZ Tryz.func112 37) ?_
 refine (JP∘JA #[vI 0,vI 0,vQ 0,vN,vN,vN,vN,vN]) fun w2 g2=>(Jp 1∘Jj∘JQ) fun a Z E=>?_
 rcases hop:fu l with k|p
 ·
  have hke:=Yf hop
  refine Jb Z E ((JR∘Jp 1∘JI (h:=by exact fun E=>zb2 A c l B _ (hL.mem E hB) (E.le hB) (E.old hr) hc hn hl hop)) fun ru hbw=>(Jp 1∘Jx∘Jx∘Jp 2∘Jj∘JQ∘JP∘Jp 2∘aQ∘Jj) (Ju (fun fZ=>?_) fun fZ=>?_))
  ·
   intro a Z E
   have kV:=bne_iff_ne.1 fZ
   refine Jb Z E ((JT∘JP∘Jy (v:= .agg #[vI 0,vI 0,vQ 0,vN,vN,vN,vN,vN]) (h:=by exact Yl.build (vs:=[]) rfl kr kr)∘Jp 1∘JV zr bg) fun DJ=>(Jp 1∘aT∘Jj∘JZ) fun a Z E=>?_)
   exact jc rfl Z (.cellS (i:=0) Z E rfl rfl zr rfl) (.tmp Z rfl) (Yr (AA hop) rfl (E.pk []))
  intro a Z E
  have kV:=bne_eq_false_iff_eq.1 fZ
  exfalso;omega
 ·
  have hfit:=(Yp hl hop).2.2.1
  refine Jb Z E ((JR∘Jp 1∘JL (h:=by exact fun E=>zb1 A c l B _ (hL.mem E hB) (E.le hB) (E.old hr) hc hn hl hop)) ?_)
  rintro E _ ru ⟨g10,iv,av,NA,nc,SA,sc,rfl,hnc,hsc,hm⟩
  refine ⟨_,rfl,_,E.join hm,?_⟩
  refine (Jp 1∘Jx∘Jx∘Jp 2∘Jj∘JQ∘JP∘Jv 2 [(14,.bool false)]∘Jj∘JF∘aG∘JP∘Jp 1∘Jn∘Jg 2 O0∘Jy (v:= .agg #[.slice NA p.nums.length nc,.bool true]) (h:=by exact Yl.build (vs:=[(0,.slice NA p.nums.length nc),(1,.bool true)]) rfl kr kr)∘JE) fun Fg g22=>(Jp 1∘jq∘Jr∘Jp 1∘JL (h:=by exact fun E=>qxh _ _ g22 NA nc p hfit [.blk g2 #[vI 0,vI 0,vQ 0,vN,vN,vN,vN,vN] 50] (E.pk [0,2,4]) hnc)) ?_
  rintro E _ S9 ⟨z,SA2,n2,c2,rfl,hz,hcap,eX⟩
  refine ⟨_,rfl,_,eX,?_⟩
  refine (JA #[vI 0,vI 0,vQ 0,vN,vN,vN,vN,vN]) fun w7 g7=>(JV zr bg (h1:=by exact Xt z)) fun zN=>(aT∘Jj∘JQ∘JP∘Jp 1∘Jn∘Jg 1 O1∘Jp 2) (Ju (fun jI=>?_) fun jI=>?_)
  ·
   refine (Jp 4∘aF∘Jj∘JT∘JP∘Jy (v:= .agg #[vI 0,vI 0,vQ 0,vN,vN,vN,vN,vN]) (h:=by exact Yl.build (vs:=[]) rfl kr kr)∘JV zr gH) fun Jm=>(Jp 1∘aQ∘Jj∘JZ) fun a Z E=>?_
   exact jc rfl Z (.cellS (i:=2) Z E rfl rfl zr rfl) (.tmp Z rfl) (Yr (Ub hop (fun h=>by rw [h.1] at jI;cases jI)) rfl (E.pk []))
  refine (Jy (v:= .agg z.cells) (h:=by exact Yl.qf rfl rfl zr rfl (fun _ h=>qb (h.blk (i:=0) rfl)))∘JI (h:=by exact fun E=>Y1 z (Yt hz (q9e hfit)) (Oh (CX hz) (Yo hfit _ (.inl rfl))) hcap _ (E.stX 3 rfl))) fun w32 hbw=>(Jp 2∘aF∘Jj) (Jh (fun hd34=>?_) fun hd34=>?_)
  ·
   refine (JT∘JP∘Jy (v:= .agg #[vI 0,vI 0,vQ 0,vN,vN,vN,vN,vN]) (h:=by exact Yl.build (vs:=[]) rfl kr kr)∘JV zr gH) fun Jm=>(Jp 1∘aQ∘Jj∘JZ) fun a Z E=>?_
   exact jc rfl Z (.cellS (i:=2) Z E rfl rfl zr rfl) (.tmp Z rfl) (Yr (Ub hop (fun h=>by have h2:=h.2;rw [←TM hz] at h2;omega)) rfl (E.pk []))
  refine (JF∘aG∘JP∘Jy (v:= .agg z.cells) (h:=by exact Yl.qf rfl rfl zr rfl (fun _ h=>qb (h.blk (i:=0) rfl)))∘JV zr gH (h1:=by exact Xt z)) fun NG=>(Jp 1∘aQ∘Jj∘JZ) fun a Z E=>?_
  exact jc rfl Z (.cellS (i:=2) Z E rfl rfl zr rfl) (.tmp Z rfl) (q2e (Yq hop ⟨by simpa using jI,by rw [←TM hz];omega⟩) rfl hz hcap (E.uW (List.sublist_append_right ([.blk g7 z.cells 50,.blk g22 #[.slice SA2 n2 c2,.bool p.okB] 302,.blk g2 z.cells 50]:List Fact) _)))
section
variable {l:List Nat}
theorem Qc (hl:∀z∈l,z<256) (h:rU l=0):(nE l).st.aD.Ok∧aX (nE l).st∧1≤(nE l).next∧(nE l).next≤281474976710657:=by
 have hc:=(N8 (zek hl h).1).1
 refine ⟨?_,?_,by omega,by omega⟩
 all_goals
  cases ho:fu l with
  |error k=>
   rw [(AA ho).1] at h
   have:=Yf ho
   omega
  | ok p =>
   have hfit:=(Yp hl ho).2.2.1
   by_cases h2:p.okB=true∧bJ p.uN=0
   ·rw [(Yq ho h2).2]
    first|exact q9e hfit|exact Yo hfit _ (.inl rfl)
   ·rw [(Ub ho h2).1] at h
    cases h
def Ga (bs:List Bk):Prop:=(∀b∈bs,b.Ok∧b.evs.length≤4096)∧bs.length≤1000000
theorem qql:∀(f:Nat) (l:List Nat),13*(q7 f l).1.length≤l.length
 |0,l=>Nat.zero_le _
 | f + 1, l => by
  rw [q7]
  split
  ·exact Nat.zero_le _
  ·split
   ·exact Nat.zero_le _
   ·rename_i h
    obtain ⟨h1,h2,_⟩:=Tf (l:=l) (b:=(dA l).1) (m:=(dA l).2.1) (by rw [←Classical.not_not.1 h])
    have h3:=qql f (l.drop (dA l).2.1)
    rw [List.length_drop] at h3
    show 13*((q7 f _).1.length+1)≤_
    omega
theorem qs0 (h:(readAll l).2=0):(readAll l).1.length≤1000000:=by
 rcases Nat.lt_or_ge 524288 l.length with h5|h5
 ·rw [qih h5] at h;cases h
 ·have h1:=qql l.length l
  by_cases he:(q7 l.length l).2.2=0
  ·rw [ql1 om he];show (q7 l.length l).1.length≤_;omega
  ·rw [qj1 om rfl he];exact Nat.zero_le _
theorem qmb:∀(f:Nat) (l:List Nat),iT l→∀b∈(q7 f l).1,b.Ok∧b.evs.length≤4096
 |0,l,_=>fun b hb=>by cases hb
 | f + 1, l, hk => by
  rw [q7]
  split
  ·exact fun b hb=>by cases hb
  ·split
   ·exact fun b hb=>by cases hb
   ·rename_i h
    obtain ⟨h1,h2⟩:=q0f (b:=(dA l).1) (m:=(dA l).2.1) hk (by rw [←Classical.not_not.1 h])
    intro b hb
    rcases List.mem_cons.1 hb with rfl|hb
    ·exact ⟨h1,by rw [h2];exact Nat.zero_le _⟩
    ·exact qmb f _ (hk.drop _) b hb
theorem q2y (hk:iT l) (h:(readAll l).2=0):Ga (readAll l).1:=by
 refine ⟨fun b hb=>?_,qs0 h⟩
 unfold readAll at hb
 split at hb
 ·cases hb
 ·unfold IG at hb
  split at hb
  ·cases hb
  ·exact qmb _ _ hk b hb
end
def q2z (w:World) (b:List Nat) (x:Pl) (r:Ending) (w':World):Prop:=∃p:Pm,r= .returned (.tuple #[.agg p.cells,.int .i64 (kY b x:Int)])∧(kY b x=0→bM (nE (bR b x.sn x.st)) p.z∧p.q.map Hb.b=(readAll (bR b x.st x.en)).1)∧fH p∧Mem w w' (mK p)
theorem q20:fH Pm.zero:=by
 refine ⟨⟨?_,?_,?_,?_,?_,?_,?_⟩,⟨?_,?_,?_,?_,?_,?_⟩,qva,?_,?_,?_,?_,?_⟩
 all_goals first|exact Nat.zero_le _|(intro z hz;cases hz)|(show (0:Nat)<_;decide)|(show bP (0:Int);unfold bP;decide)
section
variable {W w w':World} {F T:List Fact} {b:List Nat} {x:Pl}
theorem Mem.Bw (h:Mem W w []):Mem W w (mK Pm.zero):=by
 exact ((((((h.nil 85 5).nil 176 1).nil 232 8).nil 3 1).nil 3 1).nil 198 2)
theorem Zc {n:Int} (hn:(kY b x:Int)=n) (hne:n≠0) (E:Mem W w []):q2z W b x (.returned (.tuple #[.agg Pm.zero.cells,.int .i64 n])) w:=by
 subst hn
 exact ⟨Pm.zero,rfl,fun h=>absurd (by rw [h];rfl) hne,q20,E.Bw⟩
theorem q7i {z:bH} {A:Option Addr} {c:Nat} {q:List Hb} (hb:∀y∈b,y<256) (h1:rU (bR b x.sn x.st)=0) (h2:(nE (bR b x.sn x.st)).next=(x.nx:Int)) (h3:(readAll (bR b x.st x.en)).2=0) (hz:bM (nE (bR b x.sn x.st)) z) (hcap:fK z.st) (hq:q.map Hb.b=(readAll (bR b x.st x.en)).1) (hc:q.length≤c) (h5:Ga (readAll (bR b x.st x.en)).1) (E:Mem W w (mK ⟨z,A,c,q⟩)):q2z W b x (.returned (.tuple #[.agg (Pm.cells ⟨z,A,c,q⟩),.int .i64 0])) w:=by
 have hp:kY b x=0:=(q2h h1 h2).trans h3
 have hl1:=Yy hb x.sn x.st
 obtain ⟨o1,o2,o3,o4⟩:=Qc hl1 h1
 obtain ⟨r1,r2⟩:=h5
 have kF:q.length=(readAll (bR b x.st x.en)).1.length:=by rw [←hq,List.length_map]
 refine ⟨⟨z,A,c,q⟩,by rw [hp];rfl,fun _=>⟨hz,hq⟩,⟨Yt hz o1,Oh (CX hz) o2,hcap,?_,fun h hh=>?_,fun h hh=>?_,by rw [kF];exact r2,hc⟩,E⟩
 ·show bP z.next
  rw [←hz.1]
  unfold bP
  omega
 ·exact (r1 h.b (by rw [←hq];exact List.mem_map_of_mem hh)).1
 ·have:=(r1 h.b (by rw [←hq];exact List.mem_map_of_mem hh)).2
  omega
end
def Qg (b:List Nat) (x:Pl) (p:Pm):Prop:=kY b x=0→bM (nE (bR b x.sn x.st)) p.z∧p.q.map Hb.b=(readAll (bR b x.st x.en)).1
section
variable {W w w':World} {a pa T F G es fr:List Fact} {p:Pm} {q:List Pm}
theorem Mem.lu (n:Nat) (h:Mem W w F) (k:Mem w w' G) (he:F.drop n=T):Mem W w' (F.take n++(G++T)):=by
 have h2:=h.qG k
 rw [←List.take_append_drop n F,he,List.append_assoc] at h2
 exact h2.perm (List.Perm.append_left _ List.perm_append_comm)
end
def Ma (L:List Pl) (next:Int):Nat→Int×Nat
 |0=>(0,6)
 |k+1=>if ((L.getD k Pl.zero).nx:Int)≤next then ((k:Int),0) else Ma L next k
def kH (b:List Nat) (next:Int):Int×Nat:=if (dP b).2≠0 then (0,(dP b).2) else Ma (dP b).1 next (dP b).1.length
def jN (b:List Nat) (i:Int):Nat:=if (dP b).2≠0 then (dP b).2 else if i<0∨((dP b).1.length:Int)≤i then 2 else kY b ((dP b).1.getD i.toNat Pl.zero)
def Qh (w:World) (b:List Nat) (i:Int) (r:Ending) (w':World):Prop:=∃p:Pm,r= .returned (.tuple #[.agg p.cells,.int .i64 (jN b i:Int)])∧(jN b i=0→Qg b ((dP b).1.getD i.toNat Pl.zero) p)∧fH p∧Mem w w' (mK p)
section
variable {W w:World} {b:List Nat} {L:List Pl} {i:Int} {ie k:Nat}
theorem Zk {e:Nat} {n:Int} (he:jN b i=e) (hn:n=(e:Int)) (hne:e≠0) (E:Mem W w []):Qh W b i (.returned (.tuple #[.agg Pm.zero.cells,.int .i64 n])) w:=by
 subst he hn
 exact ⟨Pm.zero,rfl,fun h=>absurd h hne,q20,E.Bw⟩
theorem q7l {x:Pl} {p:Pm} (hi:dP b=(L,0)) (h:i=(k:Int)) (hk:k<L.length) (hx:L.getD k Pl.zero=x) (hp:Qg b x p) (ho:fH p) (E:Mem W w (mK p)):Qh W b i (.returned (.tuple #[.agg p.cells,.int .i64 (kY b x:Int)])) w:=by
 subst h hx
 have he:jN b (k:Int)=kY b (L.getD k Pl.zero):=by unfold jN;rw [hi,if_neg (fun h=>h rfl),if_neg (by show ¬((k:Int)<0∨(L.length:Int)≤(k:Int));omega)];rfl
 refine ⟨p,by rw [he],fun _=>?_,ho,E⟩
 rw [hi]
 exact hp
theorem q7m (hi:dP b=(L,ie)) (h:ie≠0):jN b i=ie:=by unfold jN;rw [hi];exact if_pos h
theorem qvs (hi:dP b=(L,0)) (h:i<0∨(L.length:Int)≤i):jN b i=2:=by grind [jN]
theorem q7n {n:Int} (hi:dP b=(L,ie)) (h:ie≠0):kH b n=(0,ie):=by unfold kH;rw [hi];exact if_pos h
theorem zb8 {n:Int} (hi:dP b=(L,0)):kH b n=Ma L n L.length:=by unfold kH;rw [hi];exact if_neg (fun h=>h rfl)
end
def mq (next:Int):bH:=⟨next,⟨1,0,none,1,[⟨0,1⟩],none,1,[0],none,1,[0],none,0,[],none,1,[⟨none,1,[⟨0,0,0⟩]⟩]⟩⟩
def uf (next:Int):Pv:=⟨mq next,[l6 7]⟩
def cO:List Nat:=(nI [uf 1]).1
def q9k (w:World) (next:Int) (r:Ending) (w':World):Prop:=∃p:Pm,r= .returned (.agg p.cells)∧bM (mq next) p.z∧p.q.map Hb.b=[l6 7]∧fH p∧Mem w w' (mK p)
def ug (x y:Pv):Prop:=bM x.s y.s∧x.bs=y.bs
inductive jO:List Pv→List Pv→Prop where
 |nil:jO [] []
 |cons {x y:Pv} {l m:List Pv} (h:ug x y) (t:jO l m):jO (x::l) (y::m)
theorem q26:∀{l m:List Pv} (last:Int) (i:Nat),jO l m→nT m last i=nT l last i
 |_,_,_,_,.nil=>rfl
 |_,_,last,i,.cons h t=>by
  rw [nT,nT,TM h.1,h.2,h.1.1,q26 _ _ t]
theorem q9l {l m:List Pv} (h:jO l m):m.length=l.length:=by induction h<;>grind
theorem Ut {l m:List Pv} (h:jO l m):nH m=nH l:=by
 unfold nH
 rw [q9l h,q26 _ _ h]
theorem q27 {l m:List Pv} (h:jO l m) (i:Nat):ug (l.getD i Pv.zero) (m.getD i Pv.zero):=by
 induction h generalizing i with
 |nil=>exact ⟨qqc _,rfl⟩
 |cons h _ ih=>
  cases i with
  |zero=>exact h
  |succ i=>exact ih i
theorem q9m {l m:List Pv} (h:jO l m):∀i,stA m i=stA l i
 |0=>rfl
 |i+1=>by
  rw [stA,stA,q9m h i]
  unfold qI
  rw [q83 (q27 h i).1,(q27 h i).2]
theorem q7o {l m:List Pv} (h:jO l m):m.flatMap vO=l.flatMap vO:=by
 induction h with
 |nil=>rfl
 |cons h _ ih=>
  rw [List.flatMap_cons,List.flatMap_cons,ih]
  unfold vO
  rw [q83 h.1,h.2,h.1.1]
theorem qqv {l m:List Pv} (h:jO l m):nI m=nI l:=by grind [Ut,headA,q9l,wW,q7o,q9m,nI]
theorem qU {p:Pm} {n:Int} (h:bM (mq n) p.z) (hq:p.q.map Hb.b=[l6 7]):ug (uf n) p.v:=⟨h,hq.symm⟩
set_option maxRecDepth 100000 in
theorem q7p:nI [uf 1]=(cO,0):=by kernel_rfl
set_option maxRecDepth 100000 in
theorem Zl:dP cO=([⟨1,11,26,39⟩],0):=by kernel_rfl
set_option maxRecDepth 100000 in
theorem zeu:kY cO ⟨1,11,26,39⟩=0:=by kernel_rfl
set_option maxRecDepth 100000 in
theorem Qi:(readAll (bR cO 26 39)).1=[l6 7]:=by kernel_rfl
set_option maxRecDepth 100000 in
theorem Qj:nH [uf 1,uf 0]=(1,330):=by kernel_rfl
set_option maxRecDepth 100000 in
theorem Qk:nH [uf 1,uf 5,uf 4]=(2,411):=by kernel_rfl
def Rn (n:Int) (a b c d e f:Nat):Pm:=⟨⟨n,(UM a b c d e).st⟩,some ⟨f,0,none⟩,1,[⟨l6 7,none,0⟩]⟩
section
variable {W w w':World} {n:Int} {a b c d e f:Nat} {F S S2 T:List Fact} {p q s:Pm} {r:Ending}
theorem Ro (hn:bP n) (E:Mem W w [.blk a #[.int .i64 0,.int .i64 1] 198,.blk b #[.int .i64 0] 3,.blk c #[.int .i64 0] 3,.blk e #[.slice (some ⟨d,0,none⟩) 1 1] 176,.blk d #[.int .u64 0,.int .u32 0,.int .u64 0] 200,.blk f #[.int .u8 2,.int .u8 0,.int .i64 0,.int .i64 7,.slice none 0 0] 85]):q9k W n (.returned (.agg (Rn n a b c d e f).cells)) w:=by
 have h1:=E.dJ (i:=0) (n:=1) (size:=2) rfl rfl de
 have h2:=h1.dJ (i:=1) (n:=1) (size:=1) rfl rfl de
 have h3:=h2.dJ (i:=2) (n:=1) (size:=1) rfl rfl de
 have h4:=h3.dJ (i:=3) (n:=1) (size:=1) rfl rfl de
 have h5:=h4.dJ (i:=4) (n:=1) (size:=3) rfl rfl de
 have h6:=h5.dJ (i:=5) (n:=1) (size:=5) rfl rfl de
 have h7:=(h6.nil 232 8).nil 73 11
 exact ⟨Rn n a b c d e f,rfl,qH rfl ⟨⟨rfl,rfl,rfl⟩,rfl,rfl,rfl,rfl⟩,rfl,⟨ze6,zcr,zcs,hn,C9 (zbb (by unfold bP;decide)),C9 (Nat.zero_le _),by show 1≤1000000;decide,Nat.le_refl _⟩,h7.picks [2,3,4,1,5,6,7,0] de rfl⟩
theorem Mem.paD (n:Nat) (h:Mem W w F) (he:F.drop n=mK p++T):dQ w p:=h.IL fun f hf=>List.mem_of_mem_drop (he▸List.mem_append_left _ hf)
theorem Mem.Rp (n:Nat) (h:Mem W w F) (he:F.drop n=S++(mK p++T)):dQ w p:=h.IL fun f hf=>List.mem_of_mem_drop (he▸List.mem_append_right _ (List.mem_append_left _ hf))
theorem Mem.aaB (n:Nat) (h:Mem W w F) (he:F.drop n=S++(S2++(mK p++T))):dQ w p:=h.IL fun f hf=>List.mem_of_mem_drop (he▸List.mem_append_right _ (List.mem_append_right _ (List.mem_append_left _ hf)))
theorem zct (h:fH p) (k:dQ w p):∀x∈[p],fH x∧dQ w x:=C9 (p:=fun x=>fH x∧dQ w x) ⟨h,k⟩
theorem zcu (h:fH p) (k:dQ w p) (h2:fH q) (k2:dQ w q):∀x∈[p,q],fH x∧dQ w x:=by grind
theorem zcv (h:fH p) (k:dQ w p) (h2:fH q) (k2:dQ w q) (h3:fH s) (k3:dQ w s):∀x∈[p,q,s],fH x∧dQ w x:=by grind
end
def nX:List Nat:=(nI []).1
set_option maxRecDepth 100000 in
theorem GN:nI []=(nX,0)∧nX=[113,97,1,0]++nX.drop 4∧nX.length=8:=by refine ⟨?_,?_,?_⟩<;>kernel_rfl
set_option maxRecDepth 100000 in
theorem ze7:cO=[113,97,1,1,1,15,13]++cO.drop 7:=by kernel_rfl
set_option maxRecDepth 100000 in
theorem uE:cO.length=39:=by kernel_rfl
set_option maxRecDepth 100000 in
theorem xI:∀x∈cO,x<256:=by
 have h:(cO.all fun x=>decide (x<256))=true:=by kernel_rfl
 exact fun x hx=>of_decide_eq_true (List.all_eq_true.1 h x hx)
set_option maxRecDepth 100000 in
theorem zcw:dP (cO++[0])=([],410):=by kernel_rfl
set_option maxRecDepth 100000 in
theorem Rq:kH cO 9=(0,0)∧kH cO 0=(0,6)∧jN cO 0=0∧jN cO 1=2:=by refine ⟨?_,?_,?_,?_⟩<;>kernel_rfl
set_option maxRecDepth 100000 in
theorem Rs:(nE (bR cO 11 26)).next=1:=by kernel_rfl
theorem ze8:∀x∈cO++[0],x<256:=by decide
theorem zcx {w:World} {B m:Nat} {A:Option Addr} (h:Rd w B 1 A m (cO.map B8)) (hm:m=39):Rd w B 1 A 7 ([113,97,1,1,1,15,13].map B8):=by
 rw [ze7] at h
 exact Rd.pre h rfl om
theorem zcy {w:World} {B m:Nat} {A:Option Addr} (h:Rd w B 1 A m (nX.map B8)) (hm:m=8):Rd w B 1 A 4 ([113,97,1,0].map B8):=by
 rw [GN.2.1] at h
 exact Rd.pre h rfl om
def Rt (w:World) (r:Ending) (w':World):Prop:=∃(z:dK) (g c:Nat) (h:Hb),r= .returned (.tuple #[.agg #[.int .i64 1,.int .i64 z.aB,.int .u64 (z.ak:Int),.slice z.gA z.gs.length z.gc,.slice z.lA z.cl.length z.lc,.slice z.uA z.cu.length z.uc,.slice z.tA z.ts.length z.tc,.slice z.sA z.rs.length z.sc,.slice (some ⟨g,0,none⟩) 1 c],.int .i64 0])∧h.b=l6 7∧Mem w w' [.row (.slice (some ⟨g,0,none⟩) 1 c) 1 ([h].flatMap hbL) 85 5]
theorem zcz {w w':World} {r:Ending} (h:Qh w cO 0 r w'):Rt w r w':=by
 obtain ⟨⟨⟨nx,z⟩,A,c,q⟩,rfl,hp,hok,hm⟩:=h
 rw [Rq.2.2.1]
 have h1:=hp Rq.2.2.1
 rw [Zl] at h1
 obtain ⟨h2,h3⟩:=h1 zeu
 have h4:(nE (bR cO 11 26)).next=nx:=h2.1
 rw [Rs] at h4
 subst h4
 have h5:q.map Hb.b=[l6 7]:=h3.trans Qi
 obtain ⟨h,t,rfl,hb,ht⟩:=List.map_eq_cons_iff.1 h5
 obtain rfl:=List.map_eq_nil_iff.1 ht
 have hm1:Mem w w' [.row (.slice A 1 c) 1 ([h].flatMap hbL) 85 5]:=hm.uW (List.sublist_append_of_sublist_right (List.Sublist.cons₂ _ (List.nil_sublist _)))
 obtain ⟨g,rfl⟩:=Dq (hm1.own (i:=0) rfl) de
 exact ⟨z,g,c,h,rfl,hb,hm1⟩
theorem q75 {w w':World} {r:Ending} (h:Qh w cO 1 r w'):∃p:Pm,r= .returned (.tuple #[.agg p.cells,.int .i64 2])∧Below w.heap.size w w':=by
 obtain ⟨p,rfl,_,_,hm⟩:=h
 rw [Rq.2.2.2]
 exact ⟨p,rfl,hm.below⟩
theorem Ru:pK Tryz.prog 4 57 (.agg (Pl.cells ⟨1,11,26,39⟩)) (.agg #[.int .i64 1,.int .i64 11,.int .i64 26,.int .i64 39])=some true:=by kernel_rfl
set_option maxRecDepth 100000 in
theorem q4h:∀x∈(dP cO).1,iT (bR cO x.st x.en):=fun x hx=>by
 rw [Zl] at hx
 rw [List.mem_singleton.1 hx]
 exact zak kr
theorem qto (A:Option Addr) (c:Nat) (l:List Nat) (BB:Nat) (w:World) (hL:aO BB w) (hB:BB≤w.heap.size) (hr:Rd w w.heap.size 1 A l.length (l.map B8)) (hc:l.length≤c) (hl:∀b∈l,b<256) (hk1:iT l) (hn:l.length≤100000000):
    Calls Tryz.prog 71 #[.slice A l.length c] w (Ie 73 85 w (readAll l).2 (readAll l).1):=by
 refine V7 (vs:=[.slice A l.length c]) Tryz.func71 rfl rfl kr (σ0:=[(0,.slice A l.length c)]) rfl ?_
 intro a Z
 have E:=Mem.start w
 refine Jb Z E ((JP∘JA #[vN]) fun w2 g2=>(JA #[vI 0]) fun w3 g3=>(Jj∘JQ∘JP∘Jp 1∘Jl∘Jp 1∘aT∘Jj) (Ji (fun vv=>?_) fun vv=>?_))
 ·
  refine (JT∘JP∘JW gQ bg) fun au2=>(JW bg bg) fun au3=>(Jj∘JZ) fun a Z E=>?_
  refine q8l ?_
  exact jc rfl Z (.cell1 (i:=1) Z E rfl rfl kr rfl) (.cell1 (i:=0) Z E rfl rfl kr rfl) (qp4 E (qih om) rfl)
 refine (JF∘aG∘JP∘JA #[vN]) fun w4 g4=>(Jj∘JQ∘JP∘Jp 1∘JL (h:=by exact fun E=>qx9 A l.length c _)) ?_
 rintro E _ wN ⟨gp,rfl,hm⟩
 refine ⟨_,rfl,_,E.join hm,?_⟩
 refine (aQ∘Jq) fun a Z E=>?_
 replace E:=E.nil 85 5
 replace E:Mem w _ (.row (vN) 0 [] 85 5:: .blk gp #[.slice A l.length c] 30:: .blk g4 #[vN] 51:: .blk g3 #[vI 0] 27:: .blk g2 #[vN] 51::iB 73 []):=E
 refine Jb Z E ((JG∘JB) fun a Z E=>?_)
 refine V6 Z E (fun F=>∃(q:List Hb) (f:Nat) (Ao:Option Addr) (co:Nat),(([]:List Nat).length≤f)∧(q.map Hb.b++(q7 f ([]:List Nat)).1=(q7 l.length l).1)∧((q7 l.length l).2.2=(q7 f ([]:List Nat)).2.2)∧(q.length≤co)∧(q.length+([]:List Nat).length≤l.length)∧F=(.row (.slice Ao q.length co) q.length (q.flatMap hbL) 85 5:: .blk g4 #[.slice Ao q.length co] 51:: .blk g3 #[vI 0] 27:: .blk g2 #[vN] 51::iB 73 q)) (fun c F=>c= .ret∧∃(q:List Hb) (e:Nat),(e≠0)∧((q7 l.length l).2.2=e)∧F=(.blk g3 #[vI e] 27:: .blk g2 #[vN] 51::iB 73 q)) rfl kr ?_ ?_ ?_
 ·
  clear Z E;intro lp B rec w1 hrec E
  have hy:qlz w lp (fun rest F=>∃(q:List Hb) (f:Nat) (Ao:Option Addr) (co:Nat),(rest.length≤f)∧(q.map Hb.b++(q7 f rest).1=(q7 l.length l).1)∧((q7 l.length l).2.2=(q7 f rest).2.2)∧(q.length≤co)∧(q.length+rest.length≤l.length)∧F=(.obj lp (.loop (rec .ready none)):: .obj B (.deferred (some []))::(.row (.slice Ao q.length co) q.length (q.flatMap hbL) 85 5:: .blk g4 #[.slice Ao q.length co] 51:: .blk g3 #[vI 0] 27:: .blk g2 #[vN] 51::iB 73 q))) (fun F=>∃(q:List Hb) (e:Nat),(e≠0)∧((q7 l.length l).2.2=e)∧F=(.obj lp (.loop (rec .done (some .ret))):: .obj B (.deferred (some []))::(.blk g3 #[vI e] 27:: .blk g2 #[vN] 51::iB 73 q))):=by
   rintro rest F fr w3 A9 c9 b m er ⟨q,f,Ao,co,hf,hk,he,hco,kF,rfl⟩ hq hne hrl hcb E
   replace E:=E.pt (fs':=(.obj lp (.loop (rec .ready none)):: .row (.slice A9 b.evs.length c9) b.evs.length (b.evs.flatMap eF) 73 11:: .obj B (.deferred (some [])):: .row (.slice Ao q.length co) q.length (q.flatMap hbL) 85 5:: .blk g4 #[.slice Ao q.length co] 51:: .blk g3 #[vI 0] 27:: .blk g2 #[vN] 51::(iB 73 q++(fr)))) 7 [1,0,2,3,4,5,6]
   refine qib (v1:= .agg #[vB (b.kind:Int),vB (b.cpu:Int),vI b.lost,vI b.next,.slice A9 b.evs.length c9,vI m]) (v2:=vI er) hrec E de de fun a Z=>?_
   refine wpIn_seq ?_
   refine Fa ?_
   refine Jb Z E ((JA #[vB 0,vB 0,vI 0,vI 0,vN,vI 0]) fun w5 g5=>(JV q76 bg) fun EK=>(Jq) fun a Z E=>?_)
   refine Fa ?_
   refine Jb Z E ((Jp 1∘Jq) fun a Z E=>?_)
   refine ⟨(.blk g5 #[vB (b.kind:Int),vB (b.cpu:Int),vI b.lost,vI b.next,.slice A9 b.evs.length c9,vI m] 255:: .row (.slice A9 b.evs.length c9) b.evs.length (b.evs.flatMap eF) 73 11:: .obj B (.deferred (some [])):: .row (.slice Ao q.length co) q.length (q.flatMap hbL) 85 5:: .blk g4 #[.slice Ao q.length co] 51:: .blk g3 #[vI 0] 27:: .blk g2 #[vN] 51::(iB 73 q++(fr))),E.pt (fs':=(.obj lp (.loop (rec .ready none)):: .blk g5 #[vB (b.kind:Int),vB (b.cpu:Int),vI b.lost,vI b.next,.slice A9 b.evs.length c9,vI m] 255:: .row (.slice A9 b.evs.length c9) b.evs.length (b.evs.flatMap eF) 73 11:: .obj B (.deferred (some [])):: .row (.slice Ao q.length co) q.length (q.flatMap hbL) 85 5:: .blk g4 #[.slice Ao q.length co] 51:: .blk g3 #[vI 0] 27:: .blk g2 #[vN] 51::(iB 73 q++(fr)))) 8 [1,0,2,3,4,5,6,7],fun w4 E=>?_⟩
   refine wpIn_block ?_
   refine wpIn_seq ?_
   refine wpIn_seq ?_
   refine Fa ?_
   refine Jb Z E ((Jp 2∘aQ∘Jq) (Ju (fun fP=>?_) fun fP=>?_))
   ·
    intro a Z E
    have kM:=bne_iff_ne.1 fP
    have hg:=qsi (f:=f) om hne hq om
    rw [hg] at he
    refine qrp Z rfl ?_
    refine wpIn_seq ?_
    refine Fa ?_
    refine Jb Z E ((Jp 1∘JW MZ bg) fun NG=>(JW SE bg) fun aaD=>(wK∘Jq) fun a Z E=>?_)
    refine wpIn_ret ?_
    refine ⟨(.obj B (.deferred (some [])):: .blk g3 #[vI er] 27:: .blk g2 #[vN] 51::(iB 73 q++(fr))),E.pt (fs':=(.obj lp (.loop (rec .busy none)):: .obj B (.deferred (some [])):: .blk g3 #[vI er] 27:: .blk g2 #[vN] 51::(iB 73 q++(fr)))) 8 [0,3,6,7],fun w5 E=>?_⟩
    exact ⟨(.obj lp (.loop (rec .done (some .ret))):: .obj B (.deferred (some [])):: .blk g3 #[vI er] 27:: .blk g2 #[vN] 51::iB 73 q),E,.inr ⟨om,rfl,q,er,by omega,he,rfl⟩⟩
   intro a Z E
   have kM:=bne_eq_false_iff_eq.1 fP
   have he0:er=0:=by omega
   have hq0:=hq
   rw [he0] at hq0
   have hg:=qp1 (f:=f) om hne hq0
   obtain ⟨aaC,hml,_⟩:=Tf hq0
   rw [hg] at hk he
   dsimp only at hk he
   refine qow Z rfl ?_
   refine wpIn_skip ?_
   refine Fa ?_
   refine Jb Z E ((Jc O5∘Jf 0∘Jy (v:= .agg #[vB b.kind,vB b.cpu,vI b.lost,vI b.next,.slice A9 b.evs.length c9]) (h:=by exact Yl.qf rfl rfl aP rfl (fun _ h=>h.sub (i:=1) rfl 0 rfl))∘JU Xb #[vB b.kind,vB b.cpu,vI b.lost,vI b.next,.slice A9 b.evs.length c9]) fun nZ g20=>(JD (hbL (⟨b,A9,c9⟩:Hb)) 5 (fun _ _=>Hf) Xb (hr:=by exact fun E=>E.aN (i:=0) (n:=1) (size:=5) rfl rfl) (h1:=by exact vg _ _ _)) fun Pw jP c21 hc21=>(JW SE bg) fun YE=>(E9∘Jq) fun a Z E=>?_)
   have pq:q.length+1=(q++[(⟨b,A9,c9⟩:Hb)]).length:=by rw [List.length_append];rfl
   replace E:=E.aI (i:=5) (ys:=(q++[(⟨b,A9,c9⟩:Hb)]).flatMap hbL) rfl pq (by rw [List.flatMap_append,List.flatMap_cons,List.flatMap_nil,List.append_nil])
   rw [pq] at hc21
   replace E:=E.dZ (i:=6) (ds:= #[.slice jP (q++[(⟨b,A9,c9⟩:Hb)]).length c21]) rfl (by rw [pq];try rfl)
   replace E:=Mem.Nz (a:=[.blk g20 #[vB b.kind,vB b.cpu,vI b.lost,vI b.next,.slice A9 b.evs.length c9] 85,.obj lp (.loop (rec .busy none)),.blk g5 #[vB (b.kind:Int),vB (b.cpu:Int),vI b.lost,vI b.next,.slice A9 b.evs.length c9,vI m] 255,.obj B (.deferred (some [])),.row (.slice jP ((q++[(⟨b,A9,c9⟩:Hb)]).length) c21) ((q++[(⟨b,A9,c9⟩:Hb)]).length) ((q++[(⟨b,A9,c9⟩:Hb)]).flatMap hbL) 85 5,.blk g4 #[.slice jP ((q++[(⟨b,A9,c9⟩:Hb)]).length) c21] 51,.blk g3 #[vI 0] 27,.blk g2 #[vN] 51]) (q:=q) (b:=fr) (E.pt (fs':=(.row (.slice A9 b.evs.length c9) b.evs.length (b.evs.flatMap eF) 73 11:: .blk g20 #[vB b.kind,vB b.cpu,vI b.lost,vI b.next,.slice A9 b.evs.length c9] 85:: .obj lp (.loop (rec .busy none)):: .blk g5 #[vB (b.kind:Int),vB (b.cpu:Int),vI b.lost,vI b.next,.slice A9 b.evs.length c9,vI m] 255:: .obj B (.deferred (some [])):: .row (.slice jP ((q++[(⟨b,A9,c9⟩:Hb)]).length) c21) ((q++[(⟨b,A9,c9⟩:Hb)]).length) ((q++[(⟨b,A9,c9⟩:Hb)]).flatMap hbL) 85 5:: .blk g4 #[.slice jP ((q++[(⟨b,A9,c9⟩:Hb)]).length) c21] 51:: .blk g3 #[vI 0] 27:: .blk g2 #[vN] 51::(iB 73 q++(fr)))) 9 [3,0,1,2,4,5,6,7,8])
   replace E:Mem w _ (.blk g20 #[vB b.kind,vB b.cpu,vI b.lost,vI b.next,.slice A9 b.evs.length c9] 85:: .obj lp (.loop (rec .busy none)):: .blk g5 #[vB (b.kind:Int),vB (b.cpu:Int),vI b.lost,vI b.next,.slice A9 b.evs.length c9,vI m] 255:: .obj B (.deferred (some [])):: .row (.slice jP ((q++[(⟨b,A9,c9⟩:Hb)]).length) c21) ((q++[(⟨b,A9,c9⟩:Hb)]).length) ((q++[(⟨b,A9,c9⟩:Hb)]).flatMap hbL) 85 5:: .blk g4 #[.slice jP ((q++[(⟨b,A9,c9⟩:Hb)]).length) c21] 51:: .blk g3 #[vI 0] 27:: .blk g2 #[vN] 51::(iB 73 (q++[(⟨b,A9,c9⟩:Hb)])++(fr))):=E
   refine ⟨(.obj B (.deferred (some [])):: .row (.slice jP ((q++[(⟨b,A9,c9⟩:Hb)]).length) c21) ((q++[(⟨b,A9,c9⟩:Hb)]).length) ((q++[(⟨b,A9,c9⟩:Hb)]).flatMap hbL) 85 5:: .blk g4 #[.slice jP ((q++[(⟨b,A9,c9⟩:Hb)]).length) c21] 51:: .blk g3 #[vI 0] 27:: .blk g2 #[vN] 51::(iB 73 (q++[(⟨b,A9,c9⟩:Hb)])++(fr))),E.pt (fs':=(.obj lp (.loop (rec .busy none)):: .obj B (.deferred (some [])):: .row (.slice jP ((q++[(⟨b,A9,c9⟩:Hb)]).length) c21) ((q++[(⟨b,A9,c9⟩:Hb)]).length) ((q++[(⟨b,A9,c9⟩:Hb)]).flatMap hbL) 85 5:: .blk g4 #[.slice jP ((q++[(⟨b,A9,c9⟩:Hb)]).length) c21] 51:: .blk g3 #[vI 0] 27:: .blk g2 #[vN] 51::(iB 73 (q++[(⟨b,A9,c9⟩:Hb)])++(fr)))) 8 [1,3,4,5,6,7],fun w5 E=>?_⟩
   exact ⟨(.obj lp (.loop (rec .ready none)):: .obj B (.deferred (some [])):: .row (.slice jP ((q++[(⟨b,A9,c9⟩:Hb)]).length) c21) ((q++[(⟨b,A9,c9⟩:Hb)]).length) ((q++[(⟨b,A9,c9⟩:Hb)]).flatMap hbL) 85 5:: .blk g4 #[.slice jP ((q++[(⟨b,A9,c9⟩:Hb)]).length) c21] 51:: .blk g3 #[vI 0] 27:: .blk g2 #[vN] 51::iB 73 (q++[(⟨b,A9,c9⟩:Hb)])),E,.inl ⟨om,rfl,(q++[(⟨b,A9,c9⟩:Hb)]),(f-1),jP,c21,by rw [List.length_drop];omega,by rw [←hk,List.map_append,List.append_assoc];rfl,he,hc21,by rw [List.length_append,List.length_drop,List.length_singleton];omega,rfl⟩⟩
  refine (qtn w w1 gp lp BB A c l _ _ _ hL hB hr hc hl hk1 om hy ⟨[],l.length,none,0,Nat.le_refl _,List.nil_append _,rfl,Nat.le_refl _,by simp,rfl⟩ (E.pt 7 [3,0,1,2,4,5,6])).mono ?_
  rintro r w2 ⟨v,rfl,F2,eX,(⟨q,f,Ao,co,hf,hk,he,hco,kF,rfl⟩|⟨q,e,hen,he,rfl⟩)⟩
  ·exact ⟨v,rfl,.inl ⟨_,⟨q,f,Ao,co,hf,hk,he,hco,kF,rfl⟩,eX⟩⟩
  ·exact ⟨v,rfl,.inr ⟨.ret,_,⟨rfl,q,e,hen,he,rfl⟩,eX⟩⟩
 ·
  clear Z E;rintro B a w6 _ ⟨q,f,Ao,co,hf,hk,he,hco,kF,rfl⟩ Z E
  have hz:=qsh (f:=f) (l:=[]) rfl
  rw [hz] at hk he
  dsimp only at hk he
  rw [List.append_nil] at hk
  refine Jb Z E ((JG∘JP∘Jc O2∘JW sO bg) fun NH=>(JW xR bg) fun aie=>(wK∘Jj∘JZ) fun a Z E=>?_)
  refine SH Z E (i:=0) rfl fun a w7 Z E=>?_
  exact jc rfl Z (.cell1 (i:=4) Z E rfl rfl kr rfl) (.cell1 (i:=3) Z E rfl rfl kr rfl) (by rw [ql1 om he,←hk];exact zaj (E.pt (fs':=(.row (.slice Ao q.length co) q.length (q.flatMap hbL) 85 5::iB 73 q)) 5 [1]) hco)
 ·
  clear Z E;rintro _ B a w6 _ ⟨rfl,q,e,hen,he,rfl⟩ Z E
  refine wp_ret ?_
  refine SH Z E (i:=0) rfl fun a w7 Z E=>?_
  exact jc rfl Z (.cell1 (i:=2) Z E rfl rfl kr rfl) (.cell1 (i:=1) Z E rfl rfl kr rfl) (qp4 E (qj1 om he hen) rfl)
theorem q9v {w:World} {B c i j:Nat} {A:Option Addr} {l:List Nat} (h:Rd w B 1 A l.length (l.map B8)) (h1:i≤j) (h2:j≤l.length) (hc:l.length≤c):Rd w B 1 (if c=i then A else A.map (·.add (i*1))) (j-i) ((bR l i j).map B8):=h.CJ h1 h2 hc
theorem q77 (l:List Nat) (A:Option Addr) (n c:Nat) (B:Nat) (w:World) (hL:aO B w) (hB:B≤w.heap.size) (hr:Rd w w.heap.size 1 A n (l.map B8)) (hln:l.length=n) (hc:n≤c) (hl:∀b∈l,b<256) (hk1:iT l) (hn:n≤100000000) {bs:List Bk} {er:Nat} (h:readAll l=(bs,er)):Calls Tryz.prog 71 #[.slice A n c] w (Ie 73 85 w er bs):=by
 subst hln
 have k:=qto A c l B w hL hB hr hc hl hk1 hn
 rwa [h] at k
theorem q78 {W w:World} {f:Fact} {q:List Hb} (h:Mem W w (f::(iB 73 q++[]))):Mem W w (f::iB 73 q):=by rwa [List.append_nil] at h
theorem Mem.Rv {W w w':World} {a gs:List Fact} (h:Mem W w a) (k:Mem w w' gs):Mem W w' (a++(gs++[])):=by
 rw [List.append_nil]
 exact h.qG k
theorem q79 {W w:World} {z:bH} {A:Option Addr} {c:Nat} {q:List Hb} (h:Mem W w (.row (.slice A q.length c) q.length (q.flatMap hbL) 85 5::(iB 73 q++(kE z.st++[])))):Mem W w (mK ⟨z,A,c,q⟩):=by
 rw [List.append_nil] at h
 exact h.perm (List.perm_append_comm (l₁:=Fact.row (.slice A q.length c) q.length (q.flatMap hbL) 85 5::iB 73 q) (l₂:=kE z.st))
theorem qtp (A:Option Addr) (c:Nat) (b:List Nat) (B:Nat) (w:World) (hL:aO B w) (hB:B≤w.heap.size) (hr:Rd w w.heap.size 1 A b.length (b.map B8)) (hc:b.length≤c) (hn:b.length≤100000000) (hl:∀z∈b,z<256) (x:Pl) (hx:x.sn≤x.st∧x.st≤x.en∧x.en≤b.length) (hk1:iT (bR b x.st x.en)):
    Calls Tryz.prog 56 #[.agg #[vI (x.nx:Int),vI (x.sn:Int),vI (x.st:Int),vI (x.en:Int),.slice A b.length c]] w (Ie 73 85 w (readAll (bR b x.st x.en)).2 (readAll (bR b x.st x.en)).1):=by
 refine (bZ Tryz.func56 16) ?_
 refine (JP∘JE) fun w1 g1=>(Jp 2∘Jq) fun a Z E=>?_
 obtain ⟨bs,er,hra⟩:∃bs er,readAll (bR b x.st x.en)=(bs,er):=⟨_,_,rfl⟩
 refine Jb Z E ((JG∘JP∘Jg 4 O0∘Jf 0∘Jg 2 O0∘Jf 0∘Jg 3 O0∘Jy (v:= .slice (if c=x.st then A else A.map (·.add (x.st*1))) (x.en-x.st) (c-x.st)) (h:=by exact Yl.G9 aL (i:=x.st) (j:=x.en) rfl rfl rfl rfl om om)∘JL (h:=by exact fun E=>q77 (bR b x.st x.en) _ _ _ B _ (hL.mem E hB) (E.le hB) (q9v (E.old hr) hx.2.1 hx.2.2 hc) (OY hx.2.2) om (Yy hl _ _) hk1 om hra)) ?_)
 rintro E _ wP ⟨A1,c1,q,rfl,Rx,hc1,hm⟩
 have kF:bs.length=q.length:=by rw [←Rx,List.length_map]
 rw [kF] at hm hc1⊢
 refine ⟨_,rfl,_,Mem.q90 (a:=[.blk g1 #[vI x.nx,vI x.sn,vI x.st,vI x.en,.slice A b.length c] 131]) (b:=[]) E hm,?_⟩
 exact (Jx∘Jx∘Jp 2∘Jj∘JZ∘bW) fun E=>by rw [hra];exact ⟨A1,c1,q,by rw [kF],Rx,by rw [kF];exact hc1,by rw [kF];exact q78 (E.pt (fs':=(.row (.slice A1 q.length c1) q.length (q.flatMap hbL) 85 5::(iB 73 q++([])))) 2 [0])⟩
theorem qya (A:Option Addr) (c:Nat) (b:List Nat) (B:Nat) (w:World) (hL:aO B w) (hB:B≤w.heap.size) (hr:Rd w w.heap.size 1 A b.length (b.map B8)) (hc:b.length≤c) (hn:b.length≤100000000) (hl:∀z∈b,z<256) (x:Pl) (hx:x.sn≤x.st∧x.st≤x.en∧x.en≤b.length) (hk1:iT (bR b x.st x.en)) {bs:List Bk} {er:Nat} (h:readAll (bR b x.st x.en)=(bs,er)):Calls Tryz.prog 56 #[.agg #[vI (x.nx:Int),vI (x.sn:Int),vI (x.st:Int),vI (x.en:Int),.slice A b.length c]] w (Ie 73 85 w er bs):=by
 have k:=qtp A c b B w hL hB hr hc hn hl x hx hk1
 rwa [h] at k
theorem q4i (A:Option Addr) (c:Nat) (b:List Nat) (B:Nat) (w:World) (hL:aO B w) (hB:B≤w.heap.size) (hr:Rd w w.heap.size 1 A b.length (b.map B8)) (hc:b.length≤c) (hn:b.length≤100000000) (hl:∀z∈b,z<256) {e:Nat} {s:bH} (i j:Nat) (h1:i≤j) (h2:j≤b.length) (he:rU (bR b i j)=e) (hs:nE (bR b i j)=s):Calls Tryz.prog 112 #[.slice (if c=i then A else A.map (·.add (i*1))) (j-i) (c-i)] w (Uc w e s):=by
 subst he hs
 have k:=q2x (if c=i then A else A.map (·.add (i*1))) (c-i) (bR b i j) B w hL hB (by rw [OY h2];exact q9v hr h1 h2 hc) (by rw [OY h2];omega) (by rw [OY h2];omega) (Yy hl _ _)
 rwa [OY h2] at k
theorem q4j (A:Option Addr) (c:Nat) (b:List Nat) (B:Nat) (w:World) (hL:aO B w) (hB:B≤w.heap.size) (hr:Rd w w.heap.size 1 A b.length (b.map B8)) (hc:b.length≤c) (hn:b.length≤100000000) (hl:∀z∈b,z<256) (x:Pl) (hx:x.sn≤x.st∧x.st≤x.en∧x.en≤b.length) (hk1:iT (bR b x.st x.en)):
    Calls Tryz.prog 54 #[.agg #[vI (x.nx:Int),vI (x.sn:Int),vI (x.st:Int),vI (x.en:Int),.slice A b.length c]] w (q2z w b x):=by
 refine (bZ Tryz.func54 45) ?_
 refine (JP∘JE) fun w1 g1=>(JA #[vI 0,vI 0,vQ 0,vN,vN,vN,vN,vN,vN]) fun w2 g2=>(Jp 1∘Jq) fun a Z E=>?_
 obtain ⟨e,he⟩:∃e,rU (bR b x.sn x.st)=e:=⟨_,rfl⟩
 obtain ⟨sr,hs⟩:∃s,nE (bR b x.sn x.st)=s:=⟨_,rfl⟩
 obtain ⟨bs,er,hra⟩:∃bs er,readAll (bR b x.st x.en)=(bs,er):=⟨_,_,rfl⟩
 refine Jb Z E ((JG∘JP∘Jg 4 O1∘Jf 0∘Jg 1 O1∘Jf 0∘Jg 2 O1∘Jy (v:= .slice (if c=x.sn then A else A.map (·.add (x.sn*1))) (x.st-x.sn) (c-x.sn)) (h:=by exact Yl.G9 aL (i:=x.sn) (j:=x.st) rfl rfl rfl rfl om om)∘JL (h:=by exact fun E=>q4i A c b B _ (hL.mem E hB) (E.le hB) (E.old hr) hc hn hl x.sn x.st hx.1 om he hs)) ?_)
 rintro E _ DF ⟨z,rfl,hz,hcap,hm⟩
 refine ⟨_,rfl,_,(show Mem w DF (.blk g2 #[vI 0,vI 0,vQ 0,vN,vN,vN,vN,vN,vN] 53:: .blk g1 #[vI x.nx,vI x.sn,vI x.st,vI x.en,.slice A b.length c] 131::(kE z.st++([]))) from E.Rv (a:=[.blk g2 #[vI 0,vI 0,vQ 0,vN,vN,vN,vN,vN,vN] 53,.blk g1 #[vI x.nx,vI x.sn,vI x.st,vI x.en,.slice A b.length c] 131]) hm),?_⟩
 refine (Jp 1∘Jx∘Jx∘JA #[vI 0,vI 0,vQ 0,vN,vN,vN,vN,vN]) fun w4 g4=>(JV zr bg (h1:=by exact Xt z)) fun aii=>(Jp 1∘Jj∘JQ∘JB∘JP∘Jp 3∘aT∘Jj) (Ju (fun fB=>?_) fun fB=>?_)
 ·
  intro a Z E
  have iA:=bne_iff_ne.1 fB
  refine Jb Z E ((JT∘JP∘Jy (v:= .agg #[vI 0,vI 0,vQ 0,vN,vN,vN,vN,vN,vN]) (h:=by exact Yl.build (vs:=[]) rfl kr kr)∘Jp 1∘JV bS gQ) fun DJ=>(Jp 1∘aT∘Jj∘JZ) fun a Z E=>?_)
  exact jc rfl Z (.cellS (i:=1) Z E rfl rfl bS rfl) (.tmp Z rfl) (Zc ((congrArg _ (zbt (by rw [he];omega))).trans (by rw [he])) om (E.pk []))
 intro a Z E
 have iA:=bne_eq_false_iff_eq.1 fB
 have he0:e=0:=by omega
 refine Jb Z E ((JF∘JP∘Jg 0 O0∘Jf 0∘Jg 0 O2∘Jp 2∘eZ∘Jj) (Jh (fun hd25=>?_) fun hd25=>?_))
 ·
  refine (JT∘JP∘Jy (v:= .agg #[vI 0,vI 0,vQ 0,vN,vN,vN,vN,vN,vN]) (h:=by exact Yl.build (vs:=[]) rfl kr kr)∘JV bS gQ) fun EK=>(Jp 1∘aQ∘Jj∘JZ) fun a Z E=>?_
  exact jc rfl Z (.cellS (i:=1) Z E rfl rfl bS rfl) (.tmp Z rfl) (Zc ((congrArg _ (zbu (he.trans he0) (by rw [hs,hz.1];omega))).trans rfl) de (E.pk []))
 refine (JF∘aG∘JP∘Jy (v:= .agg #[vI x.nx,vI x.sn,vI x.st,vI x.en,.slice A b.length c]) (h:=by exact Yl.qf rfl rfl zbv rfl (fun _ h=>qb (h.blk (i:=2) rfl)))∘JL (h:=by exact fun E=>qya A c b B _ (hL.mem E hB) (E.le hB) (E.old hr) hc hn hl x hx hk1 hra)) ?_
 rintro E _ PL ⟨A1,c1,q,rfl,Rx,hc1,hm⟩
 have kF:bs.length=q.length:=by rw [←Rx,List.length_map]
 rw [kF] at hm hc1⊢
 refine ⟨_,rfl,_,Mem.q90 (a:=[.blk g4 z.cells 50,.blk g2 #[vI 0,vI 0,vQ 0,vN,vN,vN,vN,vN,vN] 53,.blk g1 #[vI x.nx,vI x.sn,vI x.st,vI x.en,.slice A b.length c] 131]) (b:=kE z.st++[]) E hm,?_⟩
 refine (Jp 1∘Jx∘Jx∘Jp 2∘Jj∘JQ∘JP∘Jp 2∘aQ∘Jj) (Jh (fun hd39=>?_) fun hd39=>?_)
 ·
  refine (JT∘JP∘Jy (v:= .agg #[vI 0,vI 0,vQ 0,vN,vN,vN,vN,vN,vN]) (h:=by exact Yl.build (vs:=[]) rfl kr kr)∘Jp 1∘JV bS gH) fun aaD=>(Jp 1∘aT∘Jj∘JZ) fun a Z E=>?_
  exact jc rfl Z (.cellS (i:=2) Z E rfl rfl bS rfl) (.tmp Z rfl) (Zc ((congrArg _ (q2h (he.trans he0) (by rw [hs,hz.1];omega))).trans (by rw [hra])) om (E.pk []))
 refine (JF∘aG∘JP∘Jy (v:= .agg z.cells) (h:=by exact Yl.qf rfl rfl zr rfl (fun _ h=>qb (h.blk (i:=1) rfl)))∘Jp 1∘Jy (v:= .agg #[vI z.next,vI z.st.aB,vQ z.st.ak,.slice z.st.gA z.st.gs.length z.st.gc,.slice z.st.lA z.st.cl.length z.st.lc,.slice z.st.uA z.st.cu.length z.st.uc,.slice z.st.tA z.st.ts.length z.st.tc,.slice z.st.sA z.st.rs.length z.st.sc,.slice A1 q.length c1]) (h:=by exact Yl.build (vs:=[(0,.agg z.cells),(1,.slice A1 q.length c1)]) rfl kr kr)∘JV bS gH) fun Ng=>(Jp 1∘bQ∘Jj∘JZ) fun a Z E=>?_
 exact jc rfl Z (.cellS (i:=2) Z E rfl rfl bS rfl) (.tmp Z rfl) (q7i (z:=z) (A:=A1) (c:=c1) (q:=q) hl (he.trans he0) (by rw [hs,hz.1];omega) (by rw [hra];show er=0;omega) (by rw [hs];exact hz) hcap (by rw [hra];exact Rx) hc1 (q2y hk1 (by rw [hra];show er=0;omega)) (q79 (E.pt (fs':=(.row (.slice A1 q.length c1) q.length (q.flatMap hbL) 85 5::(iB 73 q++(kE z.st++([]))))) 4 [0])))
theorem qtk (A:Option Addr) (c:Nat) (q:List Hb) (B:Nat) (w:World) (hL:aO B w) (hB:B≤w.heap.size) (hr:Rd w w.heap.size 5 A q.length (q.flatMap hbL)) (hQ:mU w q) (hok:∀h∈q,h.b.Ok) (hev:∀h∈q,h.b.evs.length≤1000000) (hn:q.length≤1000000):
    Calls Tryz.prog 47 #[.slice A q.length c] w (qx w (zh (q.map Hb.b)).2 (zh (q.map Hb.b)).1):=by
 refine (bZ Tryz.func47 41) ?_
 refine (JP∘Jp 2∘Jr∘Jp 1∘Jr∘Jp 1∘Jq) fun a Z E=>?_
 replace E:=E.nil 5 1
 refine Jb Z E ((JG∘JQ∘JP∘Jp 1∘Jl∘Jp 1∘Jj∘JB) fun a Z E=>?_)
 refine qc (fun mS aS wS=>∃(k:Nat) (lg:Bool) (R:List Nat) (Ao:Option Addr) (co:Nat),(k≤q.length)∧(dO (q.map Hb.b)=dO ((q.drop k).map Hb.b))∧(lg=decide (524288<(eD ((q.take k).map Hb.b)).length))∧(lg=false→R=eD ((q.take k).map Hb.b))∧(R.length≤524288)∧(R.length≤co)∧mS=q.length-k∧Fr aS 41 [] [(12,vI k),(11,vI q.length),(10,.slice A q.length c),(5,.bool lg),(4,.slice Ao R.length co),(3,vI 0),(2,vN)]∧Mem w wS [.row (.slice Ao R.length co) R.length (R.map B8) 5 1]) (m:=q.length-0) ⟨0,false,[],none,0,Nat.zero_le _,by rw [List.drop_zero],rfl,by intro _;rfl,by simp,Nat.le_refl _,rfl,Z.sub kr,E.pk [0]⟩ ?_
 clear Z E;rintro mS a w_ ⟨k,lg,R,Ao,co,hk,her,QW,hR,hRl,hco,rfl,Z,E⟩
 refine Jb Z E ((JP∘Jp 1∘Jj∘JQ) (Ju (fun dS=>?_) fun dS=>?_))
 ·
  intro a Z E
  have kU:=of_decide_eq_true dS
  have tJ:k<q.length:=by omega
  have hat:=OH tJ
  have hoq:=congrArg List.length (X3 tJ)
  rw [List.length_append] at hoq
  have hol:=WO (q.getD k Hb.zero).b
  have htk:=q1y (q:=q) k
  refine Jb Z E ((JT∘aG∘JQ∘JB∘JP) ?_)
  repeat (first|clear Z|clear E)
  intro a Z E
  obtain ⟨gA,oA,rfl,_⟩:=hr.qd (Nat.lt_of_le_of_lt (Nat.zero_le _) (show k<q.length from by omega)) de
  refine Jb Z E ((Jy (h:=by exact Yl.ix gA oA k 5 rfl rfl rfl)∘Jy (v:= .agg ((q.getD k Hb.zero).b.cells (q.getD k Hb.zero).A (q.getD k Hb.zero).c)) (h:=by exact Yl.qf rfl rfl aP rfl (fun _ h=>(h.old hr).qm qc5 ((getD_at Hb.zero (k:=k) (by first|omega|(simp;omega))))))∘JA #[vB 0,vB 0,vI 0,vI 0,vN]) fun w7 g7=>(JV aP bg (h1:=by exact vg _ _ _)) fun zN=>(aT∘Jr∘Jy (v:= .agg ((q.getD k Hb.zero).b.cells (q.getD k Hb.zero).A (q.getD k Hb.zero).c)) (h:=by exact Yl.qf rfl rfl aP rfl (fun _ h=>qb (h.blk (i:=0) rfl)))∘JK (h:=by exact fun E=>q0g (q.getD k Hb.zero).b (hok _ (qi Hb.zero tJ)) ((q.getD k Hb.zero).A) (q.getD k Hb.zero).c B _ (hL.mem E hB) (E.le hB) (E.old (hQ.at tJ)) (hev _ (qi Hb.zero tJ)) rfl rfl)) fun PX c18 K5 hc18=>(Jp 1∘Jx∘Jx∘Jp 2∘Jj∘JQ∘JP∘Jp 2∘aQ∘Jj) (Ju (fun jD=>?_) fun jD=>?_))
  ·
   intro a Z E
   have jf:=bne_iff_ne.1 jD
   have hE:dO (q.map Hb.b)=(q.getD k Hb.zero).b.err:=by rw [her,hat,if_neg om]
   exact Jb Z E ((JT∘JP∘Jp 3∘Jj∘JZ∘bW) fun E=>CY E.below (ql0 (by rw [hE];omega)) (by rw [hE]))
  intro a Z E
  have jf:=bne_eq_false_iff_eq.1 jD
  have hE:dO (q.map Hb.b)=dO ((q.drop (k+1)).map Hb.b):=by rw [her,hat,if_pos om]
  refine Jb Z E ((JF∘aG∘JP∘Jp 2) (Ju (fun je=>?_) fun je=>?_))
  ·
   intro a Z E
   have hlong:524288<(eD ((q.take k).map Hb.b)).length:=of_decide_eq_true (QW.symm.trans je)
   refine Jb Z E ((Jv 8 [(5,.bool true)]∘aT∘Jr∘Jp 2∘aQ∘Jj∘JF∘aG∘JR∘bn 1∘Jp 1∘aQ∘Jq) fun a Z E=>?_)
   exact ⟨_,om,k+1,true,R,Ao,co,by omega,hE,(decide_eq_true om).symm,(by intro h;cases h),hRl,hco,rfl,Z.sub kr,E.pk [2]⟩
  intro a Z E
  have hlong:¬524288<(eD ((q.take k).map Hb.b)).length:=of_decide_eq_false (QW.symm.trans je)
  have hRe:=hR je
  have atY:R.length=(eD ((q.take k).map Hb.b)).length:=by rw [hRe]
  refine Jb Z E ((Jp 1∘Jl∘Jp 1∘Jl∘Ja∘Jp 3∘aF∘Jr∘Jp 2∘aQ∘Jj) (Ju (fun mD=>?_) fun mD=>?_))
  ·
   intro a Z E
   have hd34:=of_decide_eq_false ((Bool.not_eq_true' _).mp mD)
   replace Z:=Z.on 5 ((Bool.not_eq_true' _).mp mD)
   refine Jb Z E ((JT∘JR∘Jp 2∘JD ((q.getD k Hb.zero).b.out.map B8) 2 (fun _ _=>gH) aL (hr:=by exact fun E=>E.rd (i:=0) rfl) (h1:=by exact mH _)) fun CS lJ c37 jF=>fun a Z E=>?_)
   rw [show (R.map B8)++((q.getD k Hb.zero).b.out.map B8)=(R++(q.getD k Hb.zero).b.out).map B8 from by rw [List.map_append]] at E
   refine Jb Z E ((Jp 1∘bQ∘Jq) fun a Z E=>?_)
   have dW:R.length+((q.getD k Hb.zero).b.out.length)=(R++(q.getD k Hb.zero).b.out).length:=by rw [List.length_append]
   replace E:=E.aI (i:=2) (ys:=(R++(q.getD k Hb.zero).b.out).map B8) rfl dW (rfl)
   rw [dW] at jF
   replace Z:=Z.sp 4 (.slice lJ ((R++(q.getD k Hb.zero).b.out).length) c37) rfl (by rw [dW])
   refine Jb Z E ((JG∘JR∘bn 1∘Jp 1∘aQ∘Jq) fun a Z E=>?_)
   exact ⟨_,om,k+1,false,(R++(q.getD k Hb.zero).b.out),lJ,c37,by omega,hE,(decide_eq_false om).symm,(by intro _;rw [hRe,X3 tJ]),(by rw [List.length_append];omega),jF,rfl,Z.sub kr,E.pk [2]⟩
  intro a Z E
  have hd34:=of_decide_eq_true ((Bool.not_eq_false' _).mp mD)
  replace Z:=Z.on 5 ((Bool.not_eq_false' _).mp mD)
  refine Jb Z E ((JF∘aG∘JR∘bn 1∘Jp 1∘aQ∘Jq) fun a Z E=>?_)
  exact ⟨_,om,k+1,true,R,Ao,co,by omega,hE,(decide_eq_true om).symm,(by intro h;cases h),hRl,hco,rfl,Z.sub kr,E.pk [2]⟩
 intro a Z E
 have kU:=of_decide_eq_false dS
 have hkn:k=q.length:=by omega
 have hdn:dO (q.map Hb.b)=0:=by rw [her,List.drop_of_length_le om];rfl
 have htn:q.take k=q:=List.take_of_length_le om
 rw [htn] at QW hR
 refine Jb Z E ((JF∘JX∘JG∘JQ∘JP∘Jp 1∘Jj) (Ju (fun nP=>?_) fun nP=>?_))
 ·
  intro a Z E
  have hlong:524288<(eD (q.map Hb.b)).length:=of_decide_eq_true (QW.symm.trans nP)
  exact Jb Z E ((JT∘JP∘Jp 2∘Jj∘JZ∘bW) fun E=>CY E.below (qj0 hdn hlong) rfl)
 intro a Z E
 have hlong:¬524288<(eD (q.map Hb.b)).length:=of_decide_eq_false (QW.symm.trans nP)
 have hRe:=hR nP
 exact Jb Z E ((JF∘aG∘JP∘Jp 3∘Jj∘JZ∘bW) fun E=>by rw [qp2 hdn hlong,←hRe];exact ⟨⟨Ao,co,rfl,E.own (i:=0) rfl,hco⟩,E.below⟩)
theorem qx3 (A:Option Addr) (c:Nat) (l:List Pm) (B:Nat) (w:World) (hL:aO B w) (hB:B≤w.heap.size) (hr:Rd w w.heap.size 9 A l.length (l.flatMap jM)) (hP:∀p∈l,fH p∧dQ w p) (hc:l.length≤c) (hn:l.length≤1000000):
    Calls Tryz.prog 15 #[.slice A l.length c] w (Is w (.tuple #[vI (nH (l.map Pm.v)).1,vI ((nH (l.map Pm.v)).2:Int)])):=by
 refine (bZ Tryz.func15 52) ?_
 refine (JP∘Jp 2∘Jj∘JQ∘JP∘Jp 1∘Jl∘Jp 1∘aT∘Jj) (Ju (fun dS=>?_) fun dS=>?_)
 ·
  intro a Z E
  have kU:=of_decide_eq_true dS
  exact Jb Z E ((JT∘JP∘Jp 2∘Jj∘JZ∘bW) fun E=>yt (m:=5) (if_pos (by rw [List.length_map];omega)) rfl E.below)
 intro a Z E
 have kU:=of_decide_eq_false dS
 refine Jb Z E ((JF∘aG∘JP∘Jp 1∘Jj∘JQ∘JP∘Jp 1∘Jl∘Jp 1∘Jj∘JB) fun a Z E=>?_)
 refine qc (fun mS aS wS=>∃(i:Nat) (last:Int),(i≤l.length)∧(bP last)∧(nH (l.map Pm.v)=nT ((l.map Pm.v).drop i) last i)∧mS=l.length-i∧Fr aS 52 [] [(16,vI i),(15,vI l.length),(14,.slice A l.length c),(4,vI last),(13,.bool false),(3,vI 0),(2,vI 0),(0,.slice A l.length c)]∧Mem w wS []) (m:=l.length-0) ⟨0,0,Nat.zero_le _,(show bP (0:Int) from by unfold bP;decide),(if_neg (by rw [List.length_map];omega)),rfl,Z.sub kr,E.pk []⟩ ?_
 clear Z E;rintro mS a w_ ⟨i,last,hi,hlast,hck,rfl,Z,E⟩
 refine Jb Z E ((JP∘Jp 1∘Jj∘JQ) (Ju (fun jh=>?_) fun jh=>?_))
 ·
  intro a Z E
  have iQ:=of_decide_eq_true jh
  have Ku:i<l.length:=by omega
  obtain ⟨x,hx⟩:∃x,(l.getD i Pm.zero)=x:=⟨_,rfl⟩
  obtain ⟨hpo,hpr⟩:=hP x (by rw [←hx];exact qi Pm.zero Ku)
  have hat:=q2j (last:=last) Ku
  rw [hx] at hat
  have hxn:=hpo.nx
  unfold bP at hxn
  have hxl:=hpo.len
  refine Jb Z E ((JT∘aG∘JQ∘JB∘JP∘Jp 1) ?_)
  repeat (first|clear Z|clear E)
  intro a Z E
  obtain ⟨gA,oA,rfl,_⟩:=hr.qd (Nat.lt_of_le_of_lt (Nat.zero_le _) (show i<l.length from by omega)) de
  refine Jb Z E ((Jy (h:=by exact Yl.ix gA oA i 9 rfl rfl rfl)∘Jy (v:= .agg ((l.getD i Pm.zero).cells)) (h:=by exact Yl.qf rfl rfl bS rfl (fun _ h=>(h.old hr).qm vR ((getD_at Pm.zero Ku))))∘Jo (.agg x.cells) (by rw [hx])∘JA #[vI 0,vI 0,vQ 0,vN,vN,vN,vN,vN,vN]) fun w6 g6=>(Jp 1∘JV bS bg (h1:=by exact FY x)) fun ZP=>(Jj∘JQ∘JP∘Jf 0∘Jy (v:= .agg x.z.cells) (h:=by exact Yl.qf rfl rfl zr rfl (fun _ h=>h.sub (i:=0) rfl 0 rfl))∘JI (h:=by exact fun E=>Y1 x.z hpo.ok hpo.few hpo.cap _ (hpr.st.old E))) fun K6 hbw=>(Jp 1∘bQ∘Jr∘Jp 2∘aQ∘Jj) (Jh (fun hd25=>?_) fun hd25=>?_))
  ·
   exact (JT∘JP∘Jp 4∘Jj∘JZ∘bW) fun E=>yt (hck.trans (hat.trans (if_pos om))) rfl E.below
  refine (JF∘aG∘JQ∘JP∘Jg 8 O0∘Jl∘Jp 1∘Jj∘JB) fun a Z E=>?_
  refine qc (fun mS aS wS=>∃(k:Nat),(k≤x.q.length)∧(dO (x.q.map Hb.b)=dO ((x.q.drop k).map Hb.b))∧mS=x.q.length-k∧Fr aS 52 [] [(31,vI k),(30,vI x.q.length),(29,.slice x.A x.q.length x.c),(25,.bool false),(7,vI (bJ x.z)),(5,vI i),(6,vP g6 0),(17,.bool true),(16,vI i),(15,vI l.length),(14,.slice (some ⟨gA,oA,none⟩) l.length c),(4,vI last),(13,.bool false),(3,vI 0),(2,vI 0),(0,.slice (some ⟨gA,oA,none⟩) l.length c)]∧Mem w wS [.blk g6 x.cells 53]) (m:=x.q.length-0) ⟨0,Nat.zero_le _,rfl,rfl,Z.sub kr,E.pk [0]⟩ ?_
  clear Z E;rintro mS a w_ ⟨k,hk,hke,rfl,Z,E⟩
  refine Jb Z E ((JP∘Jp 1∘Jj∘JQ) (Ju (fun oo=>?_) fun oo=>?_))
  ·
   intro a Z E
   have hd32:=of_decide_eq_true oo
   have Cg:k<x.q.length:=by omega
   have hek:=OH Cg
   refine Jb Z E ((JT∘aG∘JQ∘JB∘JP) fun a Z E=>?_)
   obtain ⟨dU,dV,hq1,_⟩:=Rd.qd hpr.bl (Nat.lt_of_le_of_lt (Nat.zero_le _) (show k<x.q.length from by omega)) de
   have aZ:=hpr.bl;rw [hq1] at aZ
   replace Z:=Z.sp 29 (.slice (some ⟨dU,dV,none⟩) x.q.length x.c) rfl (by rw [hq1];try rfl)
   refine Jb Z E ((Jy (h:=by exact Yl.ix dU dV k 5 rfl rfl rfl)∘Jy (v:= .agg ((x.q.getD k Hb.zero).b.cells (x.q.getD k Hb.zero).A (x.q.getD k Hb.zero).c)) (h:=by exact Yl.qf rfl rfl aP rfl (fun _ h=>(h.old aZ).qm qc5 ((getD_at Hb.zero Cg))))∘JA #[vB 0,vB 0,vI 0,vI 0,vN]) fun w9 g9=>(JV aP bg (h1:=by exact vg _ _ _)) fun NW=>(aT∘Jr∘Jy (v:= .agg ((x.q.getD k Hb.zero).b.cells (x.q.getD k Hb.zero).A (x.q.getD k Hb.zero).c)) (h:=by exact Yl.qf rfl rfl aP rfl (fun _ h=>qb (h.blk (i:=0) rfl)))∘JL (h:=by exact fun E=>qw1 (x.q.getD k Hb.zero).b (hpo.LU _ (qi Hb.zero Cg)) ((x.q.getD k Hb.zero).A) (x.q.getD k Hb.zero).c B _ (hL.mem E hB) (E.le hB) (E.old (hpr.ev.at Cg)) (hpo.FW _ (qi Hb.zero Cg)))) ?_)
   rintro E _ Ej ⟨rfl,hbw⟩
   refine ⟨_,rfl,_,E.call hbw,?_⟩
   refine (Jp 1∘aT∘Jr∘Jp 2∘aQ∘Jj) (Jh (fun hd38=>?_) fun hd38=>?_)
   ·
    exact (JT∘JP∘Jp 4∘Jj∘JZ∘bW) fun E=>yt (hck.trans (hat.trans ((if_neg om).trans (if_pos (by rw [hke,hek,if_neg om];omega))))) (by rw [hke,hek,if_neg om]) E.below
   refine (JF∘aG∘JR∘bn 1∘Jp 1∘aQ∘Jq) fun a Z E=>?_
   replace Z:=Z.sp 29 (.slice x.A x.q.length x.c) rfl (by rw [hq1])
   exact ⟨_,om,k+1,by omega,(hke.trans (by rw [hek,if_pos om])),rfl,Z.sub kr,E.pk [1]⟩
  intro a Z E
  have hd32:=of_decide_eq_false oo
  have he0:dO (x.q.map Hb.b)=0:=by rw [hke,List.drop_of_length_le om];rfl
  refine Jb Z E ((JF∘JX∘JG∘JQ∘JP∘Jf 0∘Jg 0 O0∘Jp 2∘bQ∘Jj) (Ji (fun BL=>?_) fun BL=>?_))
  ·
   exact (JT∘JP∘Jp 3∘Jj∘JZ∘bW) fun E=>yt (m:=411) (hck.trans (hat.trans ((if_neg om).trans ((if_neg om).trans (if_pos om))))) rfl E.below
  refine (JF∘aG∘JR∘Jf 0∘Jg 0 O0∘Jp 1∘aT∘Jj∘JR∘bn 1∘Jp 1∘aQ∘Jq) fun a Z E=>?_
  exact ⟨_,om,i+1,x.z.next,by omega,hpo.nx,(hck.trans (by rw [hat,if_neg om,if_neg om,if_neg om])),rfl,Z.sub kr,E.pk []⟩
 intro a Z E
 have iQ:=of_decide_eq_false jh
 have hin:i=l.length:=by omega
 exact Jb Z E ((JF∘JX∘JG∘JP∘Jp 2∘Jj∘JZ∘bW) fun E=>yt (m:=0) (hck.trans (by rw [hin];exact qqd)) rfl E.below)
theorem UK (A:Option Addr) (c:Nat) (l:List Pm) (B:Nat) (w:World) (hL:aO B w) (hB:B≤w.heap.size) (hr:Rd w w.heap.size 9 A l.length (l.flatMap jM)) (hP:∀p∈l,fH p∧dQ w p) (hc:l.length≤c) (hn:l.length≤1000000) {ci:Int} {ce:Nat} (h:nH (l.map Pm.v)=(ci,ce)):Calls Tryz.prog 15 #[.slice A l.length c] w (Is w (.tuple #[vI ci,vI ce])):=by
 have k:=qx3 A c l B w hL hB hr hP hc hn
 rwa [h] at k
theorem q74 (A:Option Addr) (c:Nat) (q:List Hb) (B:Nat) (w:World) (hL:aO B w) (hB:B≤w.heap.size) (hr:Rd w w.heap.size 5 A q.length (q.flatMap hbL)) (hQ:mU w q) (hok:∀h∈q,h.b.Ok) (hev:∀h∈q,h.b.evs.length≤1000000) (hn:q.length≤1000000) {wb:List Nat} {we:Nat} (h:zh (q.map Hb.b)=(wb,we)):Calls Tryz.prog 47 #[.slice A q.length c] w (qx w we wb):=by
 have k:=qtk A c q B w hL hB hr hQ hok hev hn
 rwa [h] at k
theorem zco (l:List Nat):∀b∈([113,97,1]++l.flatMap aj),b<256:=fun b hb=>by
 rcases List.mem_append.1 hb with h|h
 ·simp only [List.mem_cons,List.not_mem_nil,or_false] at h
  omega
 ·obtain ⟨x,_,hx⟩:=List.mem_flatMap.1 h
  exact Dw x b hx
def jW (l:List Pm):List Nat:=[113,97,1]++(bG l l.length).flatMap aj
theorem q4b (l:List Pm):∀b∈jW l,b<256:=zco _
theorem qv9 {l:List Pm} (hn:l.length≤100000):(jW l).length≤16777216:=by
 unfold jW
 rw [List.length_append]
 have h1:=q6 (bG l l.length)
 have h2:=LV (l:=l) l.length (Nat.le_refl _)
 have h9:([113,97,1]:List Nat).length=3:=rfl
 omega
theorem Mj {l:List Pm}:bF (jW l)=headA (l.map Pm.v):=by unfold headA jW;rw [q2k]
theorem qq8 {w w':World} {p:List Nat×Nat} {h R d:List Nat} {A:Option Addr} {c:Nat} (he:p=(h++d,0)) (hR:R=h) (ho:w'.ownsRow w.heap.size 5 1 (.slice A (R.length+d.length) c) (R.length+d.length) (R.map B8++d.map B8)) (hc:R.length+d.length≤c) (hb:Below w.heap.size w w'):qx w p.2 p.1 (.returned (.tuple #[.slice A (R.length+d.length) c,vI 0])) w':=by
 subst he hR
 rw [←List.length_append] at ho hc⊢
 rw [←List.map_append] at ho
 exact ⟨⟨A,c,rfl,ho,hc⟩,hb⟩
theorem qwa {l:List Pm} (hn:l.length≤100000):(bF (jW l)).length≤10000000:=by
 unfold jW
 rw [Fe,List.length_append]
 have h1:=q6 (bG l l.length)
 have h2:=LV (l:=l) l.length (Nat.le_refl _)
 have h9:([113,97,1]:List Nat).length=3:=rfl
 omega
theorem qh1 (A:Option Addr) (c:Nat) (l:List Pm) (B:Nat) (w:World) (hL:aO B w) (hB:B≤w.heap.size) (hr:Rd w w.heap.size 9 A l.length (l.flatMap jM)) (hP:∀p∈l,fH p∧dQ w p) (hc:l.length≤c) (hn:l.length≤100000):
    Calls Tryz.prog 16 #[.slice A l.length c] w (qx w (nI (l.map Pm.v)).2 (nI (l.map Pm.v)).1):=by
 refine (bZ Tryz.func16 104) ?_
 refine (JP∘Jp 2∘Jq) fun a Z E=>?_
 obtain ⟨ci,ce,hce⟩:∃ci ce,nH (l.map Pm.v)=(ci,ce):=⟨_,_,rfl⟩
 refine Jb Z E ((JG∘JQ∘JP∘Jp 1∘JI (h:=by exact fun E=>UK A c l B _ (hL.mem E hB) (E.le hB) (E.old hr) (fun p hp=>⟨(hP p hp).1,(hP p hp).2.old E⟩) hc om hce)) fun FJ hbw=>(Jp 1∘Jx∘Jx∘Jp 2∘aF∘Jr∘Jp 2∘aQ∘Jj) (Ju (fun fU=>?_) fun fU=>?_))
 ·
  intro a Z E
  have oF:=bne_iff_ne.1 fU
  exact Jb Z E ((JT∘JP∘Jp 3∘Jj∘JZ∘bW) fun E=>CY E.below (ql8 hce om) rfl)
 intro a Z E
 have oF:=bne_eq_false_iff_eq.1 fU
 have Ch:ce=0:=by omega
 refine Jb Z E ((JF∘aG∘JP∘Jp 1∘Jl∘Jw .u64∘JU qt #[vQ l.length]) fun UL g28=>(Jp 1∘eZ∘Jq) fun a Z E=>?_)
 replace E:=(E.dJ (i:=0) (n:=1) (size:=1) rfl rfl de).lN (i:=0) (ys:=(bG l 0).map aR) rfl (rfl)
 replace E:Mem w _ [.row (vS g28 ((bG l 0).length) 1) ((bG l 0).length) ((bG l 0).map aR) 41 1]:=E
 replace Z:=Z.sp 6 (.slice (some ⟨g28,0,none⟩) (bG l 0).length 1) rfl rfl
 refine Jb Z E ((JG∘JP∘Jp 1∘Jq) fun a Z E=>?_)
 replace E:=E.nil 5 1
 refine Jb Z E ((JG∘JP∘Jp 1∘Jj∘JQ∘JP∘Jp 1∘Jl∘Jp 1∘Jj∘JB) fun a Z E=>?_)
 refine qc (fun mS aS wS=>∃(i:Nat) (An:Option Addr) (cn:Nat) (d:List Nat) (Ad:Option Addr) (cd:Nat) (lg:Bool),(i≤l.length)∧(stA (l.map Pm.v) i=(d,lg))∧((bG l i).length≤cn)∧(d.length≤cd)∧(d.length≤16777216)∧mS=l.length-i∧Fr aS 104 [] [(31,vI i),(30,vI l.length),(29,.slice A l.length c),(8,.bool lg),(7,.slice Ad d.length cd),(6,.slice An ((bG l i).length) cn),(23,.bool false),(5,vI ce),(3,vI 0),(2,vN),(0,.slice A l.length c)]∧Mem w wS [.row (.slice Ad d.length cd) d.length (d.map B8) 5 1,.row (.slice An ((bG l i).length) cn) ((bG l i).length) ((bG l i).map aR) 41 1]) (m:=l.length-0) ⟨0,some ⟨g28,0,none⟩,1,[],none,0,false,Nat.zero_le _,rfl,Nat.le_refl _,Nat.le_refl _,Nat.zero_le _,rfl,Z.sub kr,E.pk [0,1]⟩ ?_
 clear Z E;rintro mS a w_ ⟨i,An,cn,d,Ad,cd,lg,hi,hst,hcn,hcd,hdl,rfl,Z,E⟩
 refine Jb Z E ((JP∘Jp 1∘Jj∘JQ) (Ju (fun oo=>?_) fun oo=>?_))
 ·
  intro a Z E
  have hd32:=of_decide_eq_true oo
  have wF:i<l.length:=by omega
  obtain ⟨x,hx⟩:∃x,(l.getD i Pm.zero)=x:=⟨_,rfl⟩
  obtain ⟨hpo,hpr⟩:=hP x (by rw [←hx];exact qi Pm.zero wF)
  obtain ⟨wb,we,hw⟩:∃wb we,zh (x.q.map Hb.b)=(wb,we):=⟨_,_,rfl⟩
  have hwl:wb.length≤524288:=by have h:=X0 (x.q.map Hb.b);rwa [hw] at h
  have hol:=Uf x.z
  have hns:=ql7 wF hx hw
  have hnl:=LV (l:=l) i hi
  refine Jb Z E ((JT∘aG∘JQ∘JB∘JP) ?_)
  repeat (first|clear Z|clear E)
  intro a Z E
  obtain ⟨gA,oA,rfl,_⟩:=hr.qd (Nat.lt_of_le_of_lt (Nat.zero_le _) (show i<l.length from by omega)) de
  refine Jb Z E ((Jy (h:=by exact Yl.ix gA oA i 9 rfl rfl rfl)∘Jy (v:= .agg ((l.getD i Pm.zero).cells)) (h:=by exact Yl.qf rfl rfl bS rfl (fun _ h=>(h.old hr).qm vR ((getD_at Pm.zero wF))))∘Jo (.agg x.cells) (by rw [hx])∘JA #[vI 0,vI 0,vQ 0,vN,vN,vN,vN,vN,vN]) fun ru g10=>(JV bS bg (h1:=by exact FY x)) fun Ng=>(aT∘Jr∘Jf 0∘Jy (v:= .agg x.z.cells) (h:=by exact Yl.qf rfl rfl zr rfl (fun _ h=>h.sub (i:=0) rfl 0 rfl))∘JK (h:=by exact fun E=>qxl x.z hpo.ok hpo.few hpo.cap B _ (hL.mem E hB) (E.le hB) (hpr.st.old E))) fun A38 c38 Wj hc38=>(Jp 1∘Jx∘Jx∘Jp 2∘wK∘Jr∘Jg 8 O1∘JK (h:=by exact fun E=>q74 x.A x.c x.q B _ (hL.mem E hB) (E.le hB) (E.old hpr.bl) (hpr.ev.old E) hpo.LU hpo.FW hpo.len hw)) fun wQ wR Nv sS=>(Jp 1∘Jx∘Jx∘Jp 2∘Jr∘Jp 1∘Jf 0∘Jg 0 O2∘Jv 1 [(51,vQ (IntKind.u64.wrap x.z.next))]∘Jo (vQ (ay x.z.next)) (by exact zl _)∘Jp 1∘Jl∘Jw .u64∘Jp 1∘Jl∘Jw .u64∘JU qt #[vQ (ay x.z.next),vQ ((bT x.z).length:Nat),vQ wb.length]) fun w58 g58=>(JD ([ay x.z.next,(bT x.z).length,wb.length].map aR) 5 (fun _ _=>Hf) qt (hr:=by exact fun E=>E.aN (i:=0) (n:=3) (size:=1) rfl rfl) (h1:=by exact zm _)) fun w59 Gl c59 J7=>(Jp 1∘aF∘Jq) fun a Z E=>?_)
  have oU:((bG l i).length)+3=(bG l (i+1)).length:=by rw [hns,List.length_append];rfl
  replace E:=E.aI (i:=5) (ys:=(bG l (i+1)).map aR) rfl oU (by rw [hns,List.map_append])
  rw [oU] at J7
  replace Z:=Z.sp 6 (.slice Gl ((bG l (i+1)).length) c59) rfl (by rw [oU])
  refine Jb Z E ((JG∘JP∘Jp 2) (Ju (fun oG=>?_) fun oG=>?_))
  ·
   intro a Z E
   have Kv:lg=true:=by simpa using oG
   refine Jb Z E ((Jv 15 [(8,.bool true)]∘aT∘Jj∘JQ∘JP∘Jp 1∘Jj∘JT∘JX∘JG∘JR∘bn 1∘Jp 1∘aQ∘Jq) fun a Z E=>?_)
   exact ⟨_,om,i+1,Gl,c59,d,Ad,cd,true,by omega,OZ wF hx hst hw (by first|exact .inl Kv|exact .inr (.inl om)|exact .inr (.inr om)),by omega,hcd,hdl,rfl,Z.sub kr,E.pk [4,5]⟩
  intro a Z E
  have aap:¬lg=true:=by simpa using oG
  refine Jb Z E ((Jp 4) (Jh (fun aaq=>?_) fun aaq=>?_))
  ·
   refine (Jv 11 [(8,.bool true)]∘aF∘Jj∘JQ∘JP∘Jp 1∘Jj∘JT∘JX∘JG∘JR∘bn 1∘Jp 1∘aQ∘Jq) fun a Z E=>?_
   exact ⟨_,om,i+1,Gl,c59,d,Ad,cd,true,by omega,OZ wF hx hst hw (by first|exact .inl Kv|exact .inr (.inl om)|exact .inr (.inr om)),by omega,hcd,hdl,rfl,Z.sub kr,E.pk [4,5]⟩
  refine (Jp 1∘Jl∘Jp 1∘Jl∘Ja∘Jp 1∘Jl∘Ja∘Jp 3∘aF∘Jj∘JQ∘JP∘Jp 1∘Jj) (Ju (fun Ci=>?_) fun Ci=>?_)
  ·
   intro a Z E
   have Ke:=of_decide_eq_true Ci
   replace Z:=Z.on 8 Ci
   refine Jb Z E ((JT∘JX∘JG∘JR∘bn 1∘Jp 1∘aQ∘Jq) fun a Z E=>?_)
   exact ⟨_,om,i+1,Gl,c59,d,Ad,cd,true,by omega,OZ wF hx hst hw (by first|exact .inl Kv|exact .inr (.inl om)|exact .inr (.inr om)),by omega,hcd,hdl,rfl,Z.sub kr,E.pk [4,5]⟩
  intro a Z E
  have Ke:=of_decide_eq_false Ci
  replace Z:=Z.on 8 Ci
  refine Jb Z E ((JF∘aG∘JR∘Jp 2∘JD ((bT x.z).map B8) 4 (fun _ _=>sO) aL (hr:=by exact fun E=>E.rd (i:=2) rfl) (h1:=by exact mH _)) fun XM A79 c79 at6=>(Jp 1∘JD (wb.map B8) 4 (fun _ _=>sO) aL (hr:=by exact fun E=>E.rd (i:=1) rfl) (h1:=by exact mH _)) fun w81 A81 c81 QX=>(Jp 1∘jq∘Jq) fun a Z E=>?_)
  have Cj:(d.length+((bT x.z).length))+wb.length=(d++bT x.z++wb).length:=by rw [List.length_append,List.length_append]
  replace E:=E.aI (i:=4) (ys:=(d++bT x.z++wb).map B8) rfl Cj (by rw [List.map_append,List.map_append])
  rw [Cj] at QX
  replace Z:=Z.sp 7 (.slice A81 ((d++bT x.z++wb).length) c81) rfl (by rw [Cj])
  refine Jb Z E ((JG∘JR∘bn 1∘Jp 1∘aQ∘Jq) fun a Z E=>?_)
  exact ⟨_,om,i+1,Gl,c59,(d++bT x.z++wb),A81,c81,false,by omega,q9f wF hx hst hw (by rintro (h|h|h)<;>first|(exact absurd h aap)|omega),by omega,QX,by rw [List.length_append,List.length_append];omega,rfl,Z.sub kr,E.pk [4,5]⟩
 intro a Z E
 have hd32:=of_decide_eq_false oo
 revert E;revert a;repeat (first|clear Z|clear E)
 intro a Z E
 obtain rfl:i=l.length:=by omega
 have at7:=LV (l:=l) l.length (Nat.le_refl _)
 have aua:=q6 (bG l l.length)
 have aub:=q2l (l:=l) (i:=l.length)
 refine Jb Z E ((JF∘JX∘JG∘JP∘JU aL #[vB 113,vB 97,vB 1]) fun w84 g84=>fun a Z E=>?_)
 refine fo Z 1 rfl rfl ?_
 refine q8y Z E 0 (e:=5) rfl rfl rfl kr kr rfl de ?_
 clear Z E;intro a w85 Z E
 refine Jb Z E ((Jp 1∘JK (h:=by exact fun E=>SK An ((bG l l.length).length) cn (bG l l.length) _ (E.rd (i:=2) rfl) (q67 om _) (by have:=LV (l:=l) l.length (Nat.le_refl _);omega))) fun A87 c87 w87 auc=>fun a Z E=>?_)
 refine fo Z 4 rfl rfl ?_
 refine VL Z E (xs:=([113,97,1]:List Nat).map B8) (news:=((bG l l.length).flatMap aj).map B8) rfl aL rfl rfl (E.zW (i:=1) (size:=1) (n:=3) rfl rfl) (E.rd (i:=0) rfl) om om (fun h=>by cases h) om om rfl de ?_
 clear Z E;intro a w88 YI c88 Z E aar
 have iH:3+((bG l l.length).flatMap aj).length=(jW l).length:=by unfold jW;rw [List.length_append];rfl
 replace E:=E.aI (i:=0) (ys:=(jW l).map B8) rfl iH (by unfold jW;rw [List.map_append])
 rw [iH] at aar
 replace Z:=Z.sp 88 (vS YI ((jW l).length) c88) rfl (by rw [iH])
 refine Jb Z E ((JK (h:=by exact fun E=>WA (some ⟨YI,0,none⟩) ((jW l).length) c88 (jW l) B _ (hL.mem E hB) (E.le hB) (E.rd (i:=0) rfl) rfl (qv9 hn) (q4b l))) fun Ui Uj w89 I5=>(Jp 1∘Jx∘Jx∘Jp 2∘wK∘Jq) fun a Z E=>?_)
 have sJ:stA (l.map Pm.v) (l.map Pm.v).length=(d,lg):=by rw [List.length_map];exact hst
 have hhd:(bF (jW l)).length≤10000000:=qwa hn
 refine Jb Z E ((JG∘JQ∘JP∘Jp 2) (Ju (fun Kw=>?_) fun Kw=>?_))
 ·
  exact (Jp 7∘aF∘Jj∘JT∘JP∘Jp 2∘Jj∘JZ∘bW) fun E=>CY E.below (Ug hce Ch sJ (.inl (by simpa using Kw))) rfl
 intro a Z E
 have aas:¬lg=true:=by simpa using Kw
 refine Jb Z E ((Jp 1∘Jl∘Jp 1∘Jl∘Ja∘Jp 2∘aF∘Jj) (Ji (fun QY=>?_) fun QY=>?_))
 ·
  exact (JT∘JP∘Jp 2∘Jj∘JZ∘bW) fun E=>CY E.below (Ug hce Ch sJ (.inr (by rw [←Mj];omega))) rfl
 exact (JF∘aG∘JP∘Jp 2∘JD (d.map B8) 0 (fun _ _=>bg) aL (hr:=by exact fun E=>E.rd (i:=4) rfl) (h1:=by exact mH _)) fun YK aud aue QZ=>(Jp 2∘Jj∘JZ∘bW) fun E=>qq8 (qqe hce Ch sJ (by rw [←Mj];rintro (h|h)<;>first|(exact absurd h aas)|omega)) Mj (E.own (i:=0) rfl) QZ E.below
theorem q9w {w:World} {B n k:Nat} {A:Option Addr} {l:List Nat} (h:Rd w B 1 A n (l.map B8)) (hk:k≤n):Rd w B 1 A k ((l.take k).map B8):=by
 have h2:=h.upto hk
 rwa [Nat.mul_one,←List.map_take] at h2
theorem q4k {b:List Nat} {p sum:Nat} {out:List Pl} (h:∀x∈out,x.sn≤sum∧x.st≤sum∧x.en≤sum):∀x∈out++[nK b p sum],x.sn≤sum+nS b p+pY b p∧x.st≤sum+nS b p+pY b p∧x.en≤sum+nS b p+pY b p:=fun x hx=>by
 rcases List.mem_append.1 hx with hx|hx
 ·have:=h x hx;omega
 ·rw [List.mem_singleton.1 hx]
  unfold nK
  dsimp only
  omega
theorem Mk {α:Type} {l:List α} {i:Nat} {t u:α} (h:l[i]?=some t):(l.set i u)[i]?=some u:=List.getElem?_set_self (List.getElem?_eq_some_iff.1 h).1
theorem zc0 (l:List Pl):∀v∈l.flatMap kX,v.oneCell'=true:=by
 intro v hv
 obtain ⟨x,_,hx⟩:=List.mem_flatMap.1 hv
 exact zem x v hx
theorem UN (W w:World) (gb ga gk:Nat) (A:Option Addr) (c:Nat) (b:List Nat) (p:Nat) (vw:Bool) (most:Nat) (fr:List Fact) (hl:∀z∈b,z<256) (hp:p≤b.length) (hn:b.length≤100000000) (hr:Rd W W.heap.size 1 A b.length (b.map B8)) (hc:b.length≤c) (ND:most≤4611686018427387904)
    (E:Mem W w (.blk gb #[.slice A b.length c] 30:: .blk ga #[vI p] 3:: .blk gk #[.bool vw] 4::fr)):
    Calls Tryz.prog 51 #[vI most,vP gb 0,vP ga 0,vP gk 0] w (Gc W gb ga gk b A c p vw most fr):=by
 refine xO Tryz.func51 [vI most,vP gb 0,vP ga 0,vP gk 0] [(0,vI most),(1,vP gb 0),(2,vP ga 0),(3,vP gk 0)] fun a Z=>?_
 refine Jb Z E ((JP∘Jp 1∘Jq) fun a Z E=>?_)
 have hvl:=ER (b.drop p)
 rw [List.length_drop] at hvl
 have hvb:=Sj (b.drop p) (fun z hz=>hl z (List.mem_of_mem_drop hz))
 have htv:=qc1 most (b.drop p)
 refine Jb Z E ((JG∘JP∘Jc O0∘Jc O1∘Jy (h:=by exact Yl.sliceFrom aL (j:=p) rfl rfl rfl om)∘JL (h:=by exact fun E=>U8 _ _ _ (b.drop p) _ (Rd.VQ (E.old hr) hp hc) (fun z hz=>hl z (List.mem_of_mem_drop hz)) om)) ?_)
 rintro E _ wP ⟨rfl,hbw⟩
 refine ⟨_,rfl,_,E.call hbw,?_⟩
 refine (Jp 1∘Jx∘Jx∘Jx∘Jp 3∘Jr∘Jc O2∘Jp 1) (Ju (fun fQ=>?_) fun fQ=>?_)
 ·
  refine (Jp 4) (Je (fun jf=>?_) fun jf=>?_)
  ·
   refine (Jp 2∘Jw .u64∘Jp 2∘JW gH bg) fun sU=>(lH∘Jr∘Jc O1∘Jp 1∘Ja∘JW gQ bg) fun vD=>(lH∘Jr∘Jp 2∘Jw .u64∘Jy (v:=vQ (if (most:Int)<((aA (b.drop p)).1:Int) then (most:Int) else ((aA (b.drop p)).1:Int))) (h:=by exact Yl.min rfl rfl rfl)∘Jo (vQ (bB most (b.drop p))) (by rw [Lh])∘Jw .i64∘Jp 1∘aF∘Jj∘JZ) fun a Z E=>?_
   replace E:=E.pt (fs':=(.blk gb #[.slice A b.length c] 30:: .blk ga #[vI (p+((aA (b.drop p)).2.1):Nat)] 3:: .blk gk #[.bool (decide (((aA (b.drop p)).1:Int)≤(most:Int)))] 4::fr)) 3 [0,1,2]
   replace E:=E.pt (fs':=(.blk gb #[.slice A b.length c] 30:: .blk ga #[vI (p+((aA (b.drop p)).2.1):Nat)] 3:: .blk gk #[.bool (decide (((aA (b.drop p)).1:Int)≤(most:Int)))] 4::fr)) 3 [0,1,2]
   exact jB rfl Z rfl (Zj rfl (by rw [fQ,Bool.true_and];unfold fA jE;rw [Bool.eq_iff_iff];simp only [decide_eq_true_eq];omega) E)
  refine (Jp 5∘JW gH bg) fun sU=>(lH∘Jr∘Jc O1∘Jp 1∘Ja∘JW gQ bg) fun vD=>(lH∘Jr∘Jp 2∘Jw .u64∘Jy (v:=vQ (if (most:Int)<((aA (b.drop p)).1:Int) then (most:Int) else ((aA (b.drop p)).1:Int))) (h:=by exact Yl.min rfl rfl rfl)∘Jo (vQ (bB most (b.drop p))) (by rw [Lh])∘Jw .i64∘Jp 1∘aF∘Jj∘JZ) fun a Z E=>?_
  replace E:=E.pt (fs':=(.blk gb #[.slice A b.length c] 30:: .blk ga #[vI (p+((aA (b.drop p)).2.1):Nat)] 3:: .blk gk #[.bool false] 4::fr)) 3 [0,1,2]
  replace E:=E.pt (fs':=(.blk gb #[.slice A b.length c] 30:: .blk ga #[vI (p+((aA (b.drop p)).2.1):Nat)] 3:: .blk gk #[.bool false] 4::fr)) 3 [0,1,2]
  exact jB rfl Z rfl (Zj rfl (by unfold fA;rw [qlb om,Bool.and_false]) E)
 refine (Jv 9 [(27,.bool false)]∘JW gH bg) fun sU=>(KY∘Jr∘Jc O1∘Jp 1∘Ja∘JW gQ bg) fun vD=>(KY∘Jr∘Jp 2∘Jw .u64∘Jy (v:=vQ (if (most:Int)<((aA (b.drop p)).1:Int) then (most:Int) else ((aA (b.drop p)).1:Int))) (h:=by exact Yl.min rfl rfl rfl)∘Jo (vQ (bB most (b.drop p))) (by rw [Lh])∘Jw .i64∘Jp 1∘jq∘Jj∘JZ) fun a Z E=>?_
 replace E:=E.pt (fs':=(.blk gb #[.slice A b.length c] 30:: .blk ga #[vI (p+((aA (b.drop p)).2.1):Nat)] 3:: .blk gk #[.bool false] 4::fr)) 3 [0,1,2]
 replace E:=E.pt (fs':=(.blk gb #[.slice A b.length c] 30:: .blk ga #[vI (p+((aA (b.drop p)).2.1):Nat)] 3:: .blk gk #[.bool false] 4::fr)) 3 [0,1,2]
 exact jB rfl Z rfl (Zj rfl (by rw [fQ,Bool.false_and]) E)
theorem qh2 (A:Option Addr) (c:Nat) (b:List Nat) (B:Nat) (w:World) (hL:aO B w) (hB:B≤w.heap.size) (hr:Rd w w.heap.size 1 A b.length (b.map B8)) (hc:b.length≤c) (hn:b.length≤100000000) (hl:∀z∈b,z<256):
    Calls Tryz.prog 18 #[.slice A b.length c] w (L9 w (dP b)):=by
 refine (bZ Tryz.func18 129) ?_
 refine (JP∘M4) fun w1 g1=>(Jp 2∘Jj∘JQ∘JB∘JP∘Jc O0∘Jl∘Jp 2∘bQ∘Jj) (Ju (fun dR=>?_) fun dR=>?_)
 ·
  intro a Z E
  have iR:=of_decide_eq_true dR
  exact Jb Z E ((JT∘JP∘Jp 2∘Jj∘JZ∘bW) fun E=>Eu E.below (q66 om) rfl)
 intro a Z E
 have iR:=of_decide_eq_false dR
 have hlen:¬16777216<b.length:=by omega
 refine Jb Z E ((JF∘JP∘Jc O0∘Jl∘Jp 2) (Ju (fun fB=>?_) fun fB=>?_))
 ·
  intro a Z E
  have iA:=of_decide_eq_true fB
  have hhd:¬(b.take 3=[113,97,1]):=fun h=>by have:=congrArg List.length h;rw [List.length_take] at this;have h9:([113,97,1]:List Nat).length=3:=rfl;omega
  exact Jb Z E ((Jp 6∘aF∘Jj∘JT∘JP∘Jp 2∘Jj∘JZ∘bW) fun E=>Eu E.below (qvc hlen hhd) rfl)
 intro a Z E
 have iA:=of_decide_eq_false fB
 have h3:3≤b.length:=by omega
 refine Jb Z E ((Jc O0∘Jy (h:=by exact Yl.zG aL (j:=3) rfl rfl rfl om)∘Jy (h:=by exact Yl.str rfl rfl (fun _ h=>q9w (h.old hr) om))∘Jp 1∘Jo (.bool (!(decide (b.take 3=[113,97,1])))) (by rw [show (⟨#[113,97,1]⟩:ByteArray)=jo [113,97,1] from rfl,qzo (fun z hz=>hl z (List.mem_of_mem_take hz)) de])∘Jp 2∘aF∘Jj) (Ju (fun gN=>?_) fun gN=>?_))
 ·
  intro a Z E
  have kL:=of_decide_eq_false ((Bool.not_eq_true' _).mp gN)
  have hhd:¬(b.take 3=[113,97,1]):=kL
  exact Jb Z E ((JT∘JP∘Jp 2∘Jj∘JZ∘bW) fun E=>Eu E.below (qvc hlen hhd) rfl)
 intro a Z E
 have kL:=of_decide_eq_true ((Bool.not_eq_false' _).mp gN)
 have wH:b.take 3=[113,97,1]:=kL
 refine Jb Z E ((JF∘aG∘JP∘JA #[vI 0]) fun w4 g4=>(JW bg bg) fun EK=>(Jq) fun a Z E=>?_)
 obtain ⟨K,hK⟩:∃K,dI b 3 1024=K:=⟨_,rfl⟩
 have hK2:K≤1024:=by rw [←hK];exact Yu
 refine Jb Z E ((JG∘JP∘JA #[.bool false]) fun w5 g5=>(JW bg bg) fun WX=>(Jr∘Jy (h:=by exact Yl.makeFunc (fst:=[]) (caps:=[vP g1 0,vP g4 0,vP g5 0]) rfl rfl rfl)∘Jp 1∘aQ∘Jr∘Jp 1∘Jq) fun a Z E=>?_)
 replace E:=E.nil 57 4
 refine Jb Z E ((JG∘JP∘Jp 2∘Jj∘JQ∘JP∘Jp 1) fun a Z E=>?_)
 refine fo Z 1 rfl rfl ?_
 replace E:=E.pk (fs':=[.blk g1 #[.slice A b.length c] 30,.blk g4 #[vI 3] 3,.blk g5 #[.bool true] 4,.row (vN) 0 [] 57 4]) [3,2,1,0]
 refine rA Z (f:=51) (vs:=[vI 1024]) (fst:=[]) (caps:=[vP g1 0,vP g4 0,vP g5 0]) rfl rfl rfl kr rfl de (UN w _ g1 g4 g5 A c b 3 true 1024 [.row (vN) 0 [] 57 4] hl h3 hn hr hc de E) ?_
 rintro _ UL ⟨rfl,hm⟩
 refine ⟨_,rfl,?_⟩
 replace E:=hm
 clear Z;intro a Z
 refine Jb Z E ((Jp 1∘Jj∘JB) fun a Z E=>?_)
 refine qc (fun mS aS wS=>∃(i:Nat) (p:Nat) (ok:Bool) (last:Nat) (sum:Nat) (out:List Pl) (Ao:Option Addr) (co:Nat),(i≤K)∧(p≤b.length)∧(gV b (true&&fA b 3 1024) K (aW b 3) ok (K-i) p last sum out)∧(last≤4611686018427387904)∧(sum≤i*33554432)∧(out.length=i)∧(∀x∈out,x.sn≤sum∧x.st≤sum∧x.en≤sum)∧(out.length≤co)∧mS=K-i∧Fr aS 129 [] [(29,vI i),(28,vI (dI b 3 1024)),(9,vI sum),(8,vI last),(7,.slice Ao out.length co),(6,.func (.func 51) #[] #[vP g1 0,vP g4 0,vP g5 0]),(5,vP g5 0),(4,vP g4 0),(16,.bool false),(12,.bool false),(3,vI 0),(2,vN),(1,vP g1 0)]∧Mem w wS [.blk g1 #[.slice A b.length c] 30,.blk g4 #[vI p] 3,.blk g5 #[.bool ok] 4,.row (.slice Ao out.length co) out.length (out.flatMap kX) 57 4]) (m:=K-0) ⟨0,(aW b 3),(true&&fA b 3 1024),0,0,[],none,0,Nat.zero_le _,AB h3,zb4,Nat.zero_le _,Nat.zero_le _,rfl,(fun x hx=>by cases hx),Nat.le_refl _,rfl,Z.sub kr,E.pk [0,1,2,3]⟩ ?_
 clear Z E;rintro mS a w_ ⟨i,p,ok,last,sum,out,Ao,co,hi,hp,hG,hlast,hsum,hol,hob,hco,rfl,Z,E⟩
 refine Jb Z E ((JP∘Jp 1∘Jj∘JQ) (Ju (fun jI=>?_) fun jI=>?_))
 ·
  intro a Z E
  have vT:=of_decide_eq_true jI
  have avd:i<K:=by omega
  obtain ⟨k,hk⟩:∃k,K-i=k+1:=⟨K-i-1,by omega⟩
  have hp1:=AB (b:=b) hp
  have hp2:=AB (b:=b) hp1
  have hnl:=zb5 (b:=b) (p:=p)
  have hsl:=zb6 (b:=b) (p:=p)
  have hbl:=zb7 (b:=b) (p:=p)
  rw [hk] at hG
  unfold nR at hnl;unfold nS at hsl;unfold pY at hbl
  refine Jb Z E ((JT∘aG∘JQ∘JB∘JP∘Jp 1) fun a Z E=>?_)
  refine fo Z 1 rfl rfl ?_
  replace E:=E.pk (fs':=[.blk g1 #[.slice A b.length c] 30,.blk g4 #[vI p] 3,.blk g5 #[.bool ok] 4,.row (.slice Ao out.length co) out.length (out.flatMap kX) 57 4]) [0,1,2,3]
  refine rA Z (f:=51) (vs:=[vI 4611686018427387904]) (fst:=[]) (caps:=[vP g1 0,vP g4 0,vP g5 0]) rfl rfl rfl kr rfl de (UN w _ g1 g4 g5 A c b p ok 4611686018427387904 [.row (.slice Ao out.length co) out.length (out.flatMap kX) 57 4] hl hp hn hr hc de E) ?_
  rintro _ w32 ⟨rfl,hm⟩
  refine ⟨_,rfl,?_⟩
  replace E:=hm
  clear Z;intro a Z
  refine Jb Z E ((Jy (v:= .agg #[vI (dI b p 4611686018427387904),vI 0,vI 0,vI 0]) (h:=by exact Yl.build (vs:=[(0,vI (dI b p 4611686018427387904))]) rfl kr kr)∘JA #[vI 0,vI 0,vI 0,vI 0]) fun ru g10=>(JV wX bg) fun ail=>(bQ∘Jr∘Jp 1∘Jf 1∘JW bg gQ) fun ain=>(yN∘Jj) fun a Z E=>?_)
  refine wp_seq ?_
  refine Jb Z E ((Vs (.t (.t (.f (.f .n)))) [6]) fun IU=>(Vf 0 1∘Vp [2]∘Vc 1 O0) fun a Z E HS=>?_)
  refine s_on Z 3 rfl ?_
  replace E:=E.pk (fs':=[.blk g1 #[.slice A b.length c] 30,.blk g4 #[vI (aW b p)] 3,.blk g5 #[.bool (ok&&fA b p 4611686018427387904)] 4,.blk g10 #[vI (dI b p 4611686018427387904),vI sum,vI 0,vI 0] 57,.row (.slice Ao out.length co) out.length (out.flatMap kX) 57 4]) [1,2,3,0,4]
  refine rA Z (f:=51) (vs:=[vI 16777216]) (fst:=[]) (caps:=[vP g1 0,vP g4 0,vP g5 0]) rfl rfl rfl kr rfl de (UN w _ g1 g4 g5 A c b (aW b p) (ok&&fA b p 4611686018427387904) 16777216 [.blk g10 #[vI (dI b p 4611686018427387904),vI sum,vI 0,vI 0] 57,.row (.slice Ao out.length co) out.length (out.flatMap kX) 57 4] hl hp1 hn hr hc de E) ?_
  rintro _ w39 ⟨rfl,hm⟩
  refine ⟨_,rfl,?_⟩
  replace E:=hm
  clear Z;intro a Z
  refine au (E.pk [3,0,4]) (fun HS=>?_)
  refine Vb Z E HS ((Va 4∘Vf 5 2) fun a Z E HS=>?_)
  refine s_on Z 6 rfl (lS Z E 3 ?_)
  clear E;intro aio E
  refine lG kr ?_
  refine qg kr ?_
  refine wp_seq ?_
  refine Jb Z E ((Vs (.t (.f (.f .n))) [6]) fun Kl=>(Vf 0 2∘Vp [2]∘Vc 1 O1) fun a Z E HS=>?_)
  refine s_on Z 3 rfl ?_
  replace E:=E.pk (fs':=[.blk g1 #[.slice A b.length c] 30,.blk g4 #[vI (aW b (aW b p))] 3,.blk g5 #[.bool ((ok&&fA b p 4611686018427387904)&&fA b (aW b p) 16777216)] 4,.blk g10 #[vI (dI b p 4611686018427387904),vI sum,vI (sum+(dI b (aW b p) 16777216):Nat),vI 0] 57,.row (.slice Ao out.length co) out.length (out.flatMap kX) 57 4]) [0,1,2,3,4]
  refine rA Z (f:=51) (vs:=[vI 16777216]) (fst:=[]) (caps:=[vP g1 0,vP g4 0,vP g5 0]) rfl rfl rfl kr rfl de (UN w _ g1 g4 g5 A c b (aW b (aW b p)) ((ok&&fA b p 4611686018427387904)&&fA b (aW b p) 16777216) 16777216 [.blk g10 #[vI (dI b p 4611686018427387904),vI sum,vI (sum+(dI b (aW b p) 16777216):Nat),vI 0] 57,.row (.slice Ao out.length co) out.length (out.flatMap kX) 57 4] hl hp2 hn hr hc de E) ?_
  rintro _ Nf ⟨rfl,hm⟩
  refine ⟨_,rfl,?_⟩
  replace E:=hm
  clear Z;intro a Z
  refine au (E.pk [0,3,4]) (fun HS=>?_)
  refine Vb Z E HS ((Va 4∘Vf 5 3) fun a Z E HS=>?_)
  refine s_on Z 6 rfl (lS Z E 3 ?_)
  clear E;intro aip E
  refine lG kr ?_
  refine qg kr ?_
  refine Jb Z E ((JP∘Jc O2∘Jp 1) (Ju (fun uz=>?_) fun uz=>?_))
  ·
   refine (Jg 0 O3∘Jp 3∘JW gH bg) fun Ry=>(lH∘Jj∘JQ∘JP∘Jc O2∘Jp 1∘aF∘Jj) (Ju (fun KI=>?_) fun KI=>?_)
   ·
    intro a Z E
    have J5:=of_decide_eq_false ((Bool.not_eq_true' _).mp KI)
    exact Jb Z E ((JT∘JP∘Jp 2∘Jj∘JZ∘bW) fun E=>by exact Eu E.below (Yw hlen wH (by rw [hK];exact hG.stop (by unfold nR;rintro ⟨_,h2⟩;omega))) rfl)
   intro a Z E
   have J5:=of_decide_eq_true ((Bool.not_eq_false' _).mp KI)
   replace E:=E.dZ (i:=2) (ds:= #[.bool true]) rfl (by rw [decide_eq_true om])
   replace E:Mem w _ [.blk g1 #[.slice A b.length c] 30,.blk g4 #[vI (aW b (aW b (aW b p)))] 3,.blk g5 #[.bool true] 4,.blk g10 #[vI (dI b p 4611686018427387904),vI sum,vI (sum+(dI b (aW b p) 16777216):Nat),vI (sum+(dI b (aW b p) 16777216)+(dI b (aW b (aW b p)) 16777216):Nat)] 57,.row (.slice Ao out.length co) out.length (out.flatMap kX) 57 4]:=E
   refine Jb Z E ((JF∘aG∘JP∘Jp 1∘Jy (v:= .agg #[vI (dI b p 4611686018427387904),vI sum,vI (sum+(dI b (aW b p) 16777216):Nat),vI (sum+(dI b (aW b p) 16777216)+(dI b (aW b (aW b p)) 16777216):Nat)]) (h:=by exact Yl.qf rfl rfl wX rfl (fun _ h=>qb (h.blk (i:=3) rfl)))∘JU FX #[vI (dI b p 4611686018427387904),vI sum,vI (sum+(dI b (aW b p) 16777216):Nat),vI (sum+(dI b (aW b p) 16777216)+(dI b (aW b (aW b p)) 16777216):Nat)]) fun w59 g59=>(JD ([(nK b p sum)].flatMap kX) 5 (fun _ _=>Hf) FX (hr:=by exact fun E=>E.aN (i:=0) (n:=1) (size:=4) rfl rfl) (h1:=by exact zc0 _)) fun Fw A60 c60 Rz=>(Jp 1∘eZ∘Jq) fun a Z E=>?_)
   have Cz:out.length+1=(out++[(nK b p sum)]).length:=by rw [List.length_append];rfl
   replace E:=E.aI (i:=5) (ys:=(out++[(nK b p sum)]).flatMap kX) rfl Cz (by rw [List.flatMap_append])
   rw [Cz] at Rz
   replace Z:=Z.sp 7 (.slice A60 ((out++[(nK b p sum)]).length) c60) rfl (by rw [Cz])
   refine Jb Z E ((JG∘Vs .n []) fun XF=>(Vf 0 0∘Vf 2 3∘Vc 1 O4∘Vp [4]∘Vc 3 O4∘Vp [5]∘Vd∘aQ∘JG∘JR∘bn 1∘Jp 1∘aQ∘Jq) fun a Z E=>?_)
   exact ⟨_,om,i+1,(aW b (aW b (aW b p))),true,(dI b p 4611686018427387904),(sum+dI b (aW b p) 16777216+dI b (aW b (aW b p)) 16777216),(out++[(nK b p sum)]),A60,c60,by omega,AB hp2,(by rw [show K- (i+1)=k by omega];exact hG.step uz (by unfold nR;omega)),hnl,by omega,by rw [List.length_append,hol];rfl,q4k hob,Rz,rfl,Z.sub kr,E.pk [1,2,3,5]⟩
  exact (Jp 5∘JW gH bg) fun Ry=>(lH∘Jj∘JQ∘JP∘Jc O2∘Jp 1∘aF∘Jj∘JT∘JP∘Jp 2∘Jj∘JZ∘bW) fun E=>by exact Eu E.below (Yw hlen wH (by rw [hK];exact hG.stop (by rintro ⟨h1,_⟩;rw [h1] at uz;cases uz))) rfl
 intro a Z E
 have vT:=of_decide_eq_false jI
 have hik:i=K:=by omega
 refine Jb Z E ((JF∘JX∘JG∘JQ∘JP∘Jc O2∘Jp 2) (Ju (fun lD=>?_) fun lD=>?_))
 ·
  intro a Z E
  have aaF:ok=false:=by simpa using lD
  have hbad:l8 b (true&&fA b 3 1024) K (aW b 3) 0 0=none:=by rw [aaF] at hG;exact hG.bad
  exact Jb Z E ((Jv 23 [(91,.bool true)]∘bQ∘Jj∘JT∘JP∘Jp 2∘Jj∘JZ∘bW) fun E=>Eu E.below (Yw hlen wH (by rw [hK];exact hbad)) rfl)
 intro a Z E
 have aaG:ok=true:=by simpa using lD
 have hfin:l8 b (true&&fA b 3 1024) K (aW b 3) 0 0=some (out,p,sum):=by rw [aaG,show K-i=0 by omega] at hG;exact hG.fin
 refine Jb Z E ((Jc O1∘bn 4∘Jc O0∘Jl∘Jp 3) (Ji (fun Ky=>?_) fun Ky=>?_))
 ·
  exact (Jv 16 [(91,.bool true)]∘aF∘Jj∘JT∘JP∘Jp 2∘Jj∘JZ∘bW) fun E=>by exact Eu E.below (Yx hlen wH (by rw [hK];exact hfin) (by rintro ⟨h1,h2,h3⟩;first|omega|(rw [h2] at uF;cases uF))) rfl
 refine (Jc O0∘Jc O1∘bn 4∘Jy (h:=by exact Yl.zG aL (j:=p+4) rfl rfl rfl om)∘JI (h:=by exact fun E=>WC A (p+4) c (b.take (p+4)) B _ (hL.mem E hB) (E.le hB) (q9w (E.old hr) om) om (by rw [List.length_take];omega) om (fun z hz=>hl z (List.mem_of_mem_take hz)))) fun w80 hbw=>(Jp 3) (Ju (fun uF=>?_) fun uF=>?_)
 ·
  exact (Jv 8 [(91,.bool true)]∘aF∘Jj∘JT∘JP∘Jp 2∘Jj∘JZ∘bW) fun E=>by exact Eu E.below (Yx hlen wH (by rw [hK];exact hfin) (by rintro ⟨h1,h2,h3⟩;first|omega|(rw [h2] at uF;cases uF))) rfl
 refine (Jc O1∘bn 4∘Jp 1∘Ja∘Jc O0∘Jl∘Jp 2∘aF∘Jj) (Ju (fun mY=>?_) fun mY=>?_)
 ·
  intro a Z E
  have hd91:=bne_iff_ne.1 mY
  exact Jb Z E ((JT∘JP∘Jp 2∘Jj∘JZ∘bW) fun E=>by exact Eu E.below (Yx hlen wH (by rw [hK];exact hfin) (by rintro ⟨h1,h2,h3⟩;first|omega|(rw [h2] at uF;cases uF))) rfl)
 intro a Z E
 have hd91:=bne_eq_false_iff_eq.1 mY
 have hall:p+4≤b.length∧zq (b.take (p+4))=true∧p+4+sum=b.length:=⟨by omega,by simpa using uF,by omega⟩
 refine Jb Z E ((JF∘aG∘JQ∘JP∘Jp 1∘Jl∘Jp 1∘Jq) fun a Z E=>?_)
 replace E:=E.lN (i:=3) (ys:=(fD (Pl.up (p+4)) out 0).flatMap kX) rfl (by rw [qxp])
 refine Jb Z E ((JG∘JB) fun a Z E=>?_)
 refine qc (fun mS aS wS=>∃(j:Nat),(j≤out.length)∧mS=out.length-j∧Fr aS 129 [] [(94,vI j),(93,vI out.length),(91,.bool false),(30,.bool false),(29,vI i),(28,vI (dI b 3 1024)),(9,vI sum),(8,vI last),(7,.slice Ao out.length co),(6,.func (.func 51) #[] #[vP g1 0,vP g4 0,vP g5 0]),(5,vP g5 0),(4,vP g4 0),(16,.bool false),(12,.bool false),(3,vI 0),(2,vN),(1,vP g1 0)]∧Mem w wS [.blk g1 #[.slice A b.length c] 30,.blk g4 #[vI p] 3,.blk g5 #[.bool ok] 4,.row (.slice Ao out.length co) out.length ((fD (Pl.up (p+4)) out j).flatMap kX) 57 4]) (m:=out.length-0) ⟨0,Nat.zero_le _,rfl,Z.sub kr,E.pk [0,1,2,3]⟩ ?_
 clear Z E;rintro mS a w_ ⟨j,hj,rfl,Z,E⟩
 refine Jb Z E ((JP∘Jp 1∘Jj∘JQ) (Ju (fun KJ=>?_) fun KJ=>?_))
 ·
  intro a Z E
  have hd95:=of_decide_eq_true KJ
  have uG:j<out.length:=by omega
  have hmx:=hob _ (qi Pl.zero uG)
  have hu1:((out.getD j Pl.zero).Ew (p+4)).st=(out.getD j Pl.zero).st:=rfl
  have hu2:((out.getD j Pl.zero).Jz (p+4)).en=(out.getD j Pl.zero).en:=rfl
  refine Jb Z E ((JT∘aG∘JQ∘JB∘JP∘Jp 2∘aQ∘Jj) fun a Z E=>?_)
  refine wp_seq ?_
  refine Jb Z E ((Vs .n [10]) fun ave=>(Vp [0,1]) ?_)
  repeat (first|clear Z|clear E|clear HS)
  intro a Z E HS
  obtain ⟨GL,rfl⟩:=Dq (E.own (i:=3) rfl) (Nat.lt_of_le_of_lt (Nat.zero_le _) (show j<out.length from by omega))
  refine Vb Z E HS ((Vy 2 (h:=by exact Yl.uV GL j 4 rfl rfl rfl)∘Vf 3 1∘Vy 4 (v:=vI ((out.getD j Pl.zero).sn)) (h:=by exact Yl.qj rfl rfl kr (fun _ h=>h.KV y8 (i:=3) rfl (k:=j) (off:=1) (x:=(out.getD j Pl.zero)) ((L8 (Pl.up (p+4)) out Pl.zero uG)) rfl))∘Vc 5 O1∘K3 6 4∘Va 7∘Vu 8 (h:=by exact fun _=>Yl.uV GL j 4 rfl rfl rfl)∘Vf 9 1) fun a Z E HS=>?_)
  refine s_on Z 10 rfl ?_
  refine SB Z E (i:=3) rfl rfl rfl rfl kr rfl rfl (by rw [KN kX 4 y8];simp only [List.length_set,Zi];omega) ?_
  clear E;intro aaH E
  replace E:=E.lN (i:=3) (ys:=((fD (Pl.up (p+4)) out j).set j ((out.getD j Pl.zero).Ew (p+4))).flatMap kX) rfl (VO kX 4 y8 (fD (Pl.up (p+4)) out j) j (out.getD j Pl.zero) ((out.getD j Pl.zero).Ew (p+4)) (L8 (Pl.up (p+4)) out Pl.zero uG) 1 de _ rfl)
  refine lG kr ?_
  refine qg kr ?_
  refine wp_seq ?_
  refine Jb Z E ((Vs .n [10]) fun avf=>(Vp [0,1]∘Vy 2 (h:=by exact Yl.uV GL j 4 rfl rfl rfl)∘Vf 3 2∘Vy 4 (v:=vI (((out.getD j Pl.zero).Ew (p+4)).st)) (h:=by exact Yl.qj rfl rfl kr (fun _ h=>h.KV y8 (i:=3) rfl (k:=j) (off:=2) (x:=((out.getD j Pl.zero).Ew (p+4))) ((Mk (L8 (Pl.up (p+4)) out Pl.zero uG))) rfl))∘Vc 5 O1∘K3 6 4∘Va 7∘Vu 8 (h:=by exact fun _=>Yl.uV GL j 4 rfl rfl rfl)∘Vf 9 2) fun a Z E HS=>?_)
  refine s_on Z 10 rfl ?_
  refine SB Z E (i:=3) rfl rfl rfl rfl kr rfl rfl (by rw [KN kX 4 y8];simp only [List.length_set,Zi];omega) ?_
  clear E;intro aaI E
  replace E:=E.lN (i:=3) (ys:=(((fD (Pl.up (p+4)) out j).set j ((out.getD j Pl.zero).Ew (p+4))).set j ((out.getD j Pl.zero).Jz (p+4))).flatMap kX) rfl (VO kX 4 y8 ((fD (Pl.up (p+4)) out j).set j ((out.getD j Pl.zero).Ew (p+4))) j ((out.getD j Pl.zero).Ew (p+4)) ((out.getD j Pl.zero).Jz (p+4)) (Mk (L8 (Pl.up (p+4)) out Pl.zero uG)) 2 de _ rfl)
  refine lG kr ?_
  refine qg kr ?_
  refine Jb Z E ((Vs .n [10]) fun avg=>(Vp [0,1]∘Vy 2 (h:=by exact Yl.uV GL j 4 rfl rfl rfl)∘Vf 3 3∘Vy 4 (v:=vI (((out.getD j Pl.zero).Jz (p+4)).en)) (h:=by exact Yl.qj rfl rfl kr (fun _ h=>h.KV y8 (i:=3) rfl (k:=j) (off:=3) (x:=((out.getD j Pl.zero).Jz (p+4))) ((Mk (Mk (L8 (Pl.up (p+4)) out Pl.zero uG)))) rfl))∘Vc 5 O1∘K3 6 4∘Va 7∘Vu 8 (h:=by exact fun _=>Yl.uV GL j 4 rfl rfl rfl)∘Vf 9 3) fun a Z E HS=>?_)
  refine s_on Z 10 rfl ?_
  refine SB Z E (i:=3) rfl rfl rfl rfl kr rfl rfl (by rw [KN kX 4 y8];simp only [List.length_set,Zi];omega) ?_
  clear E;intro aaJ E
  replace E:=E.lN (i:=3) (ys:=(fD (Pl.up (p+4)) out (j+1)).flatMap kX) rfl ((VO kX 4 y8 (((fD (Pl.up (p+4)) out j).set j ((out.getD j Pl.zero).Ew (p+4))).set j ((out.getD j Pl.zero).Jz (p+4))) j ((out.getD j Pl.zero).Jz (p+4)) ((out.getD j Pl.zero).up (p+4)) (Mk (Mk (L8 (Pl.up (p+4)) out Pl.zero uG))) 3 de _ rfl).trans (by rw [List.set_set,List.set_set,qxq (Pl.up (p+4)) out Pl.zero uG]))
  refine lG kr ?_
  refine qg kr ?_
  refine Jb Z E ((JG∘JR∘bn 1∘Jp 1∘aF∘Jq) fun a Z E=>?_)
  exact ⟨_,om,j+1,by omega,rfl,Z.sub kr,E.pk [0,1,2,3]⟩
 intro a Z E
 have hd95:=of_decide_eq_false KJ
 have hjn:out.length≤j:=by omega
 exact Jb Z E ((JF∘JX∘JG∘JP∘Jp 3∘Jj∘JZ∘bW) fun E=>q24 (zej hlen wH (by rw [hK];exact hfin) hall) (by rw [List.length_map]) (by have h:=E.own (i:=3) rfl;rwa [q25 hjn] at h) hco E.below)
theorem qmq {b:List Nat} {L:List Pl} (hb:∀x∈b,x<256) (h:dP b=(L,0)):∀x∈L,x.sn≤x.st∧x.st≤x.en∧x.en≤b.length:=fun x hx=>by
 obtain ⟨a,hA⟩:=(qvd hb h).at
 obtain ⟨i,hi,rfl⟩:=List.getElem_of_mem hx
 have h1:=hA.sn i hi
 rw [List.getD_eq_getElem?_getD,List.getElem?_eq_getElem hi] at h1
 exact ⟨h1.2.1,h1.2.2.1,h1.2.2.2.1⟩
theorem q4l {b:List Nat} {L:List Pl} (hb:∀x∈b,x<256) (h:dP b=(L,0)):L.length≤1024:=by
 obtain ⟨a,hA⟩:=(qvd hb h).at
 exact hA.few
theorem qrb (A:Option Addr) (c:Nat) (b:List Nat) (BB:Nat) (w:World) (hL:aO BB w) (hB:BB≤w.heap.size) (hr:Rd w w.heap.size 1 A b.length (b.map B8)) (hc:b.length≤c) (hn:b.length≤100000000) (hl:∀z∈b,z<256) {L:List Pl} {ie:Nat} (h:dP b=(L,ie)):Calls Tryz.prog 18 #[.slice A b.length c] w (L9 w (L,ie)):=h▸qh2 A c b BB w hL hB hr hc hn hl
end Go.Proofs.YtekiimhdnigmcaaGreatDoor
