/- Parts. -/
import Derived.Test.YtekiimhdnigmcaaGreatDoorQsSep9
import Derived.Test.YtekiimhdnigmcaaGreatDoorQsRef01
import Derived.Test.YtekiimhdnigmcaaGreatDoorQsSep6
import Derived.Test.YtekiimhdnigmcaaGreatDoorQsZ2
set_option linter.all false
set_option maxRecDepth 100000
set_option maxHeartbeats 1000000
namespace Go.Proofs.YtekiimhdnigmcaaGreatDoor
open Go.RowKit
theorem qos {cpu:Nat}:∀(l:List Ev) (p:Option Ev) (b:Bs) (k:Nat),Chain cpu p b l→∃b',Chain cpu none b' (l.drop k)
 |[],_,b,k,_=>⟨b,by rw [List.drop_nil];trivial⟩
 |e::r,p,b,0,h=>⟨b,h.1,h.2.1,(fun q hq=>by cases hq),h.2.2.2⟩
 |e::r,_,_,k+1,h=>qos r (some e) e.at k h.2.2.2
theorem Ke (l:List It) (n:Nat):aJ (l.take n)=(aJ l).take n:=by unfold aJ;rw [List.map_take]
theorem qx4 (l:List It) (n:Nat):aJ (l.drop n)=(aJ l).drop n:=by unfold aJ;rw [List.map_drop]
theorem CV (l:List It):(aJ l).length=l.length:=by unfold aJ;rw [List.length_map]
theorem NI (l:List It) (n:Nat):bO (aW l)=bO (aW (l.take n))+bO (aW (l.drop n)):=by
 unfold aW
 rw [List.map_take,List.map_drop,←Kc,List.take_append_drop]
theorem VW:∀{l:List Int},(∀n∈l,0≤n)→0≤bO l
 |[],_=>Int.le_refl _
 |x::t,h=>by
  have h1:=h x List.mem_cons_self
  have h2:=VW (l:=t) (fun n hn=>h n (List.mem_cons_of_mem _ hn))
  simp only [bO]
  omega
structure bQ (cpu:Nat) (l:List It) (opn:Int):Prop where
 c64:cpu<64
 chain:∃b,Chain cpu none b (aJ l)
 ok:∀x∈l,x.Ok
 o0:0≤opn
 CW:∀x∈l,0≤x.before
 sum:opn+bO (aW l)≤281474976710656
theorem Fy {l:List It} (h:∀x∈l,0≤x.before):0≤bO (aW l):=VW fun n hn=>by
 unfold aW at hn
 obtain ⟨x,hx,rfl⟩:=List.mem_map.1 hn
 exact h x hx
theorem bQ.drop {cpu:Nat} {l:List It} {opn:Int} (h:bQ cpu l opn) (k:Nat):bQ cpu (l.drop k) opn:=by
 obtain ⟨b,hb⟩:=h.chain
 have h1:=NI l k
 have h2:=Fy (l:=l.take k) (fun x hx=>h.CW x (List.mem_of_mem_take hx))
 have h3:=h.sum
 exact ⟨h.c64,by rw [qx4];exact qos _ _ _ k hb,fun x hx=>h.ok x (List.mem_of_mem_drop hx),h.o0,fun x hx=>h.CW x (List.mem_of_mem_drop hx),by omega⟩
theorem bQ.of {cpu:Nat} {l:List It} {opn:Int} (hc:cpu<64) (hok:∀x∈l,x.Ok) (h:zo cpu l opn=true):bQ cpu l opn:=by
 unfold zo at h
 simp only [Bool.and_eq_true,decide_eq_true_eq] at h
 obtain ⟨h1,h2,h3⟩:=h
 have hr:=h2
 simp only [ko,Bool.and_eq_true,decide_eq_true_eq] at hr
 have hs:=VT (r:=xH-opn) om hr.2
 have hm:xH=281474976710656:=rfl
 refine ⟨hc,?_,hok,hr.1.1,?_,by omega⟩
 ·cases l with
  |nil=>exact ⟨⟨0,0⟩,trivial⟩
  | cons x r =>
   have hev:∀e∈aJ (x::r),e.Ok:=fun e he=>by
    unfold aJ at he
    obtain ⟨y,hy,rfl⟩:=List.mem_map.1 he
    exact (hok y hy).e
   have hx:x.e.check=0:=Uz h1 rfl
   have hcp:x.e.cpu=cpu:=by simpa [mQ] using h3
   refine ⟨x.e.at,MW (aJ (x::r)) none x.e.at 0 hev (I6 hx) ?_ (fun q hq=>by cases hq) h1⟩
   intro y hy
   have:y=x.e:=by simpa [aJ] using hy.symm
   subst this
   exact ⟨UA _,hcp⟩
 ·intro x hx
  exact (VR hr.2 x.before (List.mem_map_of_mem hx)).1
theorem pW {cpu:Nat} {l:List It} {opn:Int} {n:Nat} (hn:n≤l.length):(aT cpu l opn n).evs.length=n:=by
 show (aJ (l.take n)).length=n
 rw [CV,List.length_take]
 omega
theorem NJ {cpu:Nat} {l:List It} {opn:Int} (h:bQ cpu l opn) (n:Nat):0≤(aT cpu l opn n).lost∧(aT cpu l opn n).lost≤281474976710656:=by
 have h1:=NI l n
 have h2:=Fy (l:=l.take n) (fun x hx=>h.CW x (List.mem_of_mem_take hx))
 have h3:=Fy (l:=l.drop n) (fun x hx=>h.CW x (List.mem_of_mem_drop hx))
 have h4:=h.sum
 have h5:=h.o0
 show 0≤bO (aW (l.take n))+(if n=l.length then opn else 0)∧bO (aW (l.take n))+(if n=l.length then opn else 0)≤_
 split<;>omega
theorem NK {cpu:Nat} {l:List It} {opn:Int} (h:bQ cpu l opn) (n:Nat):(aT cpu l opn n).Ok:=by
 have:=NJ h n
 refine ⟨by show 1<256;decide,by have:=h.c64;show cpu<256;omega,⟨by omega,by omega⟩,by show aM 0;exact ⟨by decide,by decide⟩,fun e he=>?_⟩
 have he:e∈aJ (l.take n):=he
 unfold aJ at he
 obtain ⟨y,hy,rfl⟩:=List.mem_map.1 he
 exact (h.ok y (List.mem_of_mem_take hy)).e
theorem VX {cpu:Nat} {b:Bs} {l:List Ev} (h:Chain cpu none b l):(bL l).2=0:=by
 cases l with
 |nil=>rfl
 |cons e r=>
  have hr:b.right=true:=h.1.right
  rw [(Uw hr h).1]
theorem q16 {cpu:Nat} {l:List It} {opn:Int} (h:bQ cpu l opn) {n:Nat} (h1:0<n) (h2:n≤l.length):(aT cpu l opn n).fits=true:=by
 obtain ⟨b,hb⟩:=h.chain
 have hl:=NJ h n
 have hlen:=pW (cpu:=cpu) (opn:=opn) h2
 have hc:Chain cpu none b (aJ (l.take n)):=by rw [Ke];exact ND _ _ _ n hb
 rw [Ka (b:=aT cpu l opn n) rfl (by show cpu≤63;have:=h.c64;omega) hl.1 hl.2 rfl (by rw [hlen];omega),decide_eq_true_eq]
 ·exact VX hc
 ·intro k hk
  exact Fw _ _ _ hc _ (q7 Ev.zero hk)
theorem q17 {cpu:Nat} {l:List It} {opn:Int} {n:Nat} (h1:0<n) (h2:n≤l.length):12+(aT cpu l opn n).body.length=Bk.sz ⟨1,cpu,(aT cpu l opn n).lost,0,aJ l⟩ n+(ak n).length:=by
 have h:=qx1 (b:=⟨1,cpu,(aT cpu l opn n).lost,0,aJ l⟩) rfl h1 (by show n≤(aJ l).length;rw [CV];exact h2)
 have e:Bk.upto ⟨1,cpu,(aT cpu l opn n).lost,0,aJ l⟩ n=aT cpu l opn n:=by
  unfold Bk.upto
  show (⟨1,cpu,(aT cpu l opn n).lost,0,(aJ l).take n⟩:Bk)=⟨1,cpu,_,0,aJ (l.take n)⟩
  rw [Ke]
  rfl
 rwa [e] at h
theorem q4w {cpu:Nat} {lo lo':Int} {es:List Ev} {n:Nat} (h:lo≤lo'):Bk.sz ⟨1,cpu,lo,0,es⟩ n≤Bk.sz ⟨1,cpu,lo',0,es⟩ n:=by
 have h1:=VQ (x:=lo.toNat) (y:=lo'.toNat) om
 have hb:Bk.base ⟨1,cpu,lo,0,es⟩=Bk.base ⟨1,cpu,lo',0,es⟩:=rfl
 unfold Bk.sz
 simp only [hb]
 generalize (ak cpu).length=a1
 generalize Bk.base ⟨1,cpu,lo',0,es⟩=q
 generalize (ak q.seq.toNat).length=a2
 generalize (ak q.time.toNat).length=a3
 generalize (recs q (List.take n es)).length=a4
 omega
theorem q4x {cpu:Nat} {lo:Int} {es:List Ev} {m n:Nat} (h0:0<n) (h:n≤m):Bk.sz ⟨1,cpu,lo,0,es.take m⟩ n=Bk.sz ⟨1,cpu,lo,0,es⟩ n:=by
 have hb:Bk.base ⟨1,cpu,lo,0,es.take m⟩=Bk.base ⟨1,cpu,lo,0,es⟩:=by
  unfold Bk.base
  cases es with
  |nil=>simp
  |cons e r=>
   cases m with
   |zero=>omega
   |succ j=>rfl
 unfold Bk.sz
 rw [hb]
 show 12+_+_+_+_+(recs _ ((es.take m).take n)).length=12+_+_+_+_+(recs _ (es.take n)).length
 rw [List.take_take,Nat.min_eq_left h]
theorem VY {cpu:Nat} {l:List It} {opn:Int} (h:bQ cpu l opn) {n:Nat} (h1:0<n) (h2:n≤l.length):(aT cpu l opn n).err=0↔Bk.sz ⟨1,cpu,(aT cpu l opn n).lost,0,aJ l⟩ n+(ak n).length≤4096:=by
 have hs:=q17 (cpu:=cpu) (opn:=opn) h1 h2
 unfold Bk.err
 rw [if_neg (by rw [q16 h h1 h2];decide),hs]
 split<;>omega
theorem NM (p:Nat→Bool):∀n m,ji p n<m→m≤n→p m=false
 |0,m,h1,h2=>by omega
 | n + 1, m, h1, h2 => by
  rw [ji] at h1
  split at h1
  ·omega
  ·rename_i hp
   by_cases hm:m=n+1
   ·subst hm;simpa using hp
   ·exact NM p n m h1 om
def bZ (cpu:Nat) (l:List It) (m:Nat):Bk:=⟨1,cpu,0,0,aJ (l.take m)⟩
theorem VZ {cpu:Nat} {l:List It} {opn:Int} (h:bQ cpu l opn) {m:Nat} (h0:0<m) (hm:m≤l.length):(bZ cpu l m).fits=true∧(bZ cpu l m).Ok∧(bZ cpu l m).oU≤m∧0<(bZ cpu l m).oU∧∀n,(bZ cpu l m).oU<n→n≤m→(aT cpu l opn n).err≠0:=by
 obtain ⟨b,hb⟩:=h.chain
 have hc:Chain cpu none b (aJ (l.take m)):=by rw [Ke];exact ND _ _ _ m hb
 have hlen:(bZ cpu l m).evs.length=m:=by show (aJ (l.take m)).length=m;rw [CV,List.length_take];omega
 have hbig:∀n,0<n→n≤m→((bZ cpu l m).big n=true↔4096<Bk.sz ⟨1,cpu,0,0,aJ l⟩ n+(ak n).length):=fun n h1 h2=>by
  unfold Bk.big
  rw [decide_eq_true_eq]
  unfold bZ
  rw [Ke,q4x h1 h2]
 obtain ⟨k,hk⟩:∃k,k=ji (fun i=> !(bZ cpu l m).big i) m:=⟨_,rfl⟩
 have hkm:k≤m:=by rw [hk];exact Ag _ _
 have hf:(bZ cpu l m).oU=k:=by
  refine qx3 (by rw [hlen];exact hkm) (fun h1=>?_) (fun n h1 h2=>?_)
  ·have:=NG (fun i=> !(bZ cpu l m).big i) m (by rw [←hk];exact h1)
   rw [←hk] at this
   simpa using this
  ·have:=NM (fun i=> !(bZ cpu l m).big i) m n (by rw [←hk];exact h1) (by rw [hlen] at h2;exact h2)
   simpa using this
 have hpos:0<k:=by
  rw [hk]
  refine NH _ ?_ m h0
  have h1:=(hbig 1 om om)
  have h2:=mP ⟨1,cpu,0,0,aJ l⟩ 1
  have h3:=qe 1
  cases hb1:(bZ cpu l m).big 1 with
  |true=>have:=h1.1 hb1;omega
  |false=>rfl
 refine ⟨?_,?_,by rw [hf];exact hkm,by rw [hf];exact hpos,?_⟩
 ·rw [Ka (b:=bZ cpu l m) rfl (by show cpu≤63;have:=h.c64;omega) (Int.le_refl _) (by show (0:Int)≤_;omega) rfl (by rw [hlen];omega),decide_eq_true_eq]
  ·exact VX hc
  ·intro i hi
   exact Fw _ _ _ hc _ (q7 Ev.zero hi)
 ·refine ⟨by show 1<256;decide,by have:=h.c64;show cpu<256;omega,by show aM 0;exact ⟨by decide,by decide⟩,by show aM 0;exact ⟨by decide,by decide⟩,fun e he=>?_⟩
  have he:e∈aJ (l.take m):=he
  unfold aJ at he
  obtain ⟨y,hy,rfl⟩:=List.mem_map.1 he
  exact (h.ok y (List.mem_of_mem_take hy)).e
 ·intro n h1 h2 he
  rw [hf,hk] at h1
  have h3:=NM (fun i=> !(bZ cpu l m).big i) m n h1 h2
  have h4:(bZ cpu l m).big n=true:=by simpa using h3
  have hn:0<n:=by omega
  have h5:=(hbig n hn h2).1 h4
  have h6:=(VY h hn om).1 he
  have h7:=q4w (cpu:=cpu) (es:=aJ l) (n:=n) (NJ h n).1
  omega
theorem qx7 {cpu:Nat} {l:List It} {opn:Int} (h:bQ cpu l opn) {limit:Nat} (hl:0<limit) (h0:0<l.length):
  gP cpu l opn limit=ji (fun n=>decide ((aT cpu l opn n).err=0)) (bZ cpu l (min l.length limit)).oU:=by
 have hm:=VZ h (m:=min l.length limit) om om
 unfold gP
 refine VU _ hm.2.2.1 (fun n h1 h2=>?_)
 rw [decide_eq_false_iff_not]
 exact hm.2.2.2.2 n h1 h2
theorem q4y {cpu:Nat} {l:List It} {opn:Int} (h:bQ cpu l opn) (h0:0<l.length):(aT cpu l opn 1).err=0:=by
 rw [VY h om om]
 have h2:=mP ⟨1,cpu,(aT cpu l opn 1).lost,0,aJ l⟩ 1
 have h3:=qe 1
 omega
theorem NP {cpu:Nat} {l:List It} {opn:Int} (h:bQ cpu l opn) {limit:Nat} (hl:0<limit) (h0:0<l.length):0<gP cpu l opn limit∧gP cpu l opn limit≤l.length∧(aT cpu l opn (gP cpu l opn limit)).err=0:=by
 have h1:=NH (fun n=>decide ((aT cpu l opn n).err=0)) (by rw [decide_eq_true (q4y h h0)]) (min l.length limit) om
 have h2:=Ag (fun n=>decide ((aT cpu l opn n).err=0)) (min l.length limit)
 have h3:=NG (fun n=>decide ((aT cpu l opn n).err=0)) (min l.length limit) h1
 unfold gP
 exact ⟨h1,by omega,of_decide_eq_true h3⟩
theorem NQ {cpu limit f:Nat} {opn:Int} {l:List It} (h:0<l.length) (hf:0<f):dX cpu opn limit f l=aT cpu l opn (gP cpu l opn limit)::dX cpu opn limit (f-1) (l.drop (gP cpu l opn limit)):=by
 cases f with
 |zero=>omega
 |succ f=>rw [dX,if_neg om];rfl
theorem NR {cpu limit f:Nat} {opn:Int} {l:List It} (h:l.length=0):dX cpu opn limit f l=[]:=by
 cases f with
 |zero=>rfl
 |succ f=>rw [dX,if_pos h]
section
variable {cpu:Nat} {l:List It} {opn limit:Int}
theorem CX (h:64≤cpu∨limit<1∨4096<limit):bH cpu l opn limit=([],2):=by unfold bH;rw [if_pos h]
theorem V3 (h:¬(64≤cpu∨limit<1∨4096<limit)) (h2:zo cpu l opn=false):bH cpu l opn limit=([],110):=by unfold bH;rw [if_neg h,if_pos h2]
theorem V4 (h:¬(64≤cpu∨limit<1∨4096<limit)) (h2:zo cpu l opn=true) (h3:l.length=0) (h4:opn=0):bH cpu l opn limit=([],0):=by unfold bH;rw [if_neg h,if_neg (by rw [h2];decide),if_pos h3,if_pos h4]
theorem V5 (h:¬(64≤cpu∨limit<1∨4096<limit)) (h2:zo cpu l opn=true) (h3:l.length=0) (h4:opn≠0):bH cpu l opn limit=([⟨1,cpu,opn,0,[]⟩],0):=by unfold bH;rw [if_neg h,if_neg (by rw [h2];decide),if_pos h3,if_neg h4]
theorem V6 {lim:Nat} (h:¬(64≤cpu∨(lim:Int)<1∨4096<(lim:Int))) (h2:zo cpu l opn=true) (h3:l.length≠0):bH cpu l opn (lim:Int)=(dX cpu opn lim l.length l,0):=by unfold bH;rw [if_neg h,if_neg (by rw [h2];decide),if_neg h3,Int.toNat_natCast]
end
theorem q18 {cpu:Nat} {l:List It} {opn:Int} (h:l.length=0):aT cpu l opn 0=⟨1,cpu,opn,0,[]⟩:=by
 cases l with
 |nil=>show (⟨1,cpu,0+(if 0=0 then opn else 0),0,[]⟩:Bk)=_;rw [if_pos rfl,Int.zero_add]
 |cons x r=>cases h
theorem V7 {p:Nat→Bool} {m:Nat} (h:p m=false) (h0:0<m):ji p m=ji p (m-1):=by
 cases m with
 |zero=>omega
 |succ m=>rw [ji,if_neg (by rw [h];decide)];rfl
theorem V8 {p:Nat→Bool} {m:Nat} (h:p m=true):ji p m=m:=by
 cases m with
 |zero=>rfl
 |succ m=>rw [ji,if_pos h]
def oV (cpu:Nat):Int→List It→Bool
 |_,[]=>true
 |s,x::t=>decide (0≤x.before∧x.before≤281474976710656-s∧x.e.cpu=cpu)&&oV cpu (s+x.before) t
theorem NS (cpu:Nat):∀(l:List It) (s:Int),oV cpu s l=true↔(ko (281474976710656-s) (aW l)=true∧∀x∈l,x.e.cpu=cpu)
 |[],s=>by simp [oV,aW,ko]
 | x :: t, s => by
  have ih:=NS cpu t (s+x.before)
  show (_&&oV cpu (s+x.before) t)=true↔(_&&ko (281474976710656-s-x.before) (aW t))=true∧_
  rw [Bool.and_eq_true,Bool.and_eq_true,ih,decide_eq_true_eq,decide_eq_true_eq,show (281474976710656:Int)- (s+x.before)=281474976710656-s-x.before by omega]
  constructor
  ·rintro ⟨⟨h1,h2,h3⟩,h4,h5⟩
   exact ⟨⟨⟨h1,h2⟩,h4⟩,fun y hy=>by rcases List.mem_cons.1 hy with rfl|hy;exact h3;exact h5 y hy⟩
  ·rintro ⟨⟨⟨h1,h2⟩,h4⟩,h5⟩
   exact ⟨⟨h1,h2,h5 x List.mem_cons_self⟩,h4,fun y hy=>h5 y (List.mem_cons_of_mem _ hy)⟩
def uI (cpu:Nat) (l:List It) (opn:Int):Bool:=decide (0≤opn∧opn≤281474976710656)&& (oV cpu opn l&&decide ((bL (aJ l)).2=0))
theorem V9 {cpu:Nat} {l:List It} {opn:Int} (hc:cpu<64) (hok:∀x∈l,x.Ok):uI cpu l opn=zo cpu l opn:=by
 rw [Bool.eq_iff_iff]
 constructor
 ·intro h
  unfold uI at h
  simp only [Bool.and_eq_true,decide_eq_true_eq,NS] at h
  obtain ⟨h1,⟨h2,h3⟩,h4⟩:=h
  unfold zo
  simp only [Bool.and_eq_true,decide_eq_true_eq,ko]
  refine ⟨h4,⟨⟨h1.1,h1.2⟩,h2⟩,?_⟩
  cases l with
  |nil=>rfl
  |cons x r=>exact decide_eq_true (h3 x List.mem_cons_self)
 ·intro h
  have hG:=bQ.of hc hok h
  unfold zo at h
  simp only [Bool.and_eq_true,decide_eq_true_eq,ko] at h
  obtain ⟨h4,⟨h1,h2⟩,h3⟩:=h
  unfold uI
  simp only [Bool.and_eq_true,decide_eq_true_eq,NS]
  refine ⟨h1,⟨h2,fun x hx=>?_⟩,h4⟩
  obtain ⟨b,hb⟩:=hG.chain
  exact Fw _ _ _ hb _ (List.mem_map_of_mem hx)
theorem quc {cpu:Nat} {l:List It} {k:Nat} {s:Int} (d:It) (h:k<l.length):oV cpu s (l.drop k)=(decide (0≤(l.getD k d).before∧(l.getD k d).before≤281474976710656-s∧(l.getD k d).e.cpu=cpu)&&oV cpu (s+(l.getD k d).before) (l.drop (k+1))):=by
 rw [List.drop_eq_getElem_cons h,List.getD_eq_getElem?_getD,List.getElem?_eq_getElem h]
 rfl
theorem Wd {cpu:Nat} {l:List It} {opn:Int} (h:¬(0≤opn∧opn≤281474976710656)):uI cpu l opn=false:=by
 unfold uI
 rw [decide_eq_false h,Bool.false_and]
theorem NT {cpu:Nat} {l:List It} {opn:Int} (h:oV cpu opn l=false):uI cpu l opn=false:=by
 unfold uI
 rw [h,Bool.false_and,Bool.and_false]
theorem qx8 {cpu:Nat} {l:List It} {opn:Int} (h1:0≤opn∧opn≤281474976710656) (h2:oV cpu opn l=true):uI cpu l opn=decide ((bL (aJ l)).2=0):=by
 unfold uI
 rw [h2,decide_eq_true h1,Bool.true_and,Bool.true_and]
def It.zero:It:=⟨Ev.zero,0⟩
theorem jc:SI Tryz.prog 75 12:=⟨by kernel_rfl,by kernel_rfl⟩
theorem gJ:EI Tryz.prog 65 75 (.agg It.zero.cells) 12 88:=⟨by kernel_rfl,by kernel_rfl,rfl,by omega⟩
theorem sw:EI Tryz.prog 51 85 (.agg #[.int .u8 0,.int .u8 0,.int .i64 0,.int .i64 0,.slice none 0 0]) 5 48:=⟨by kernel_rfl,by kernel_rfl,rfl,by omega⟩
theorem NU:EI Tryz.prog 139 244 (.agg It.zero.cells) 12 88:=⟨by kernel_rfl,by kernel_rfl,rfl,by omega⟩
theorem Ai:EI Tryz.prog 136 80 (.agg #[.int .u8 0,.int .u8 0,.int .i64 0,.int .i64 0,.slice none 0 0]) 5 48:=⟨by kernel_rfl,by kernel_rfl,rfl,by omega⟩
theorem CZ (x:It):∀v∈x.cells.toList,v.oneCell'=true:=by intro v hv;simp [It.cells] at hv;rcases hv with rfl|rfl|rfl|rfl|rfl|rfl|rfl|rfl|rfl|rfl|rfl|rfl<;>rfl
theorem NV {l:List It} {k:Nat} (h:k<l.length):(aJ (l.take (k+1))).flatMap aN=(aJ (l.take k)).flatMap aN++aN (l.getD k It.zero).e:=by
 rw [CY It.zero h]
 unfold aJ
 rw [List.map_append,List.flatMap_append]
 simp
theorem qud {l:List It} {k:Nat} (h:k<l.length):(aW (l.take (k+1))).map dQ=(aW (l.take k)).map dQ++[dQ (l.getD k It.zero).before]:=by
 rw [CY It.zero h]
 unfold aW
 rw [List.map_append,List.map_append]
 rfl
theorem Wn (l:List It):(aW l).length=l.length:=by unfold aW;rw [List.length_map]
theorem Wo {l:List It} (h:∀x∈l,x.Ok):∀e∈aJ l,e.Ok:=fun e he=>by
 unfold aJ at he
 obtain ⟨x,hx,rfl⟩:=List.mem_map.1 he
 exact (h x hx).e
theorem q19 (l:List Int):∀v∈l.map dQ,v.oneCell'=true:=by
 intro v hv
 obtain ⟨_,_,rfl⟩:=List.mem_map.1 hv
 rfl
theorem NW {α:Type} {l:List α} {k:Nat} (d:α) (h:k<l.length):l.drop k=l.getD k d::l.drop (k+1):=by
 rw [List.drop_eq_getElem_cons h,List.getD_eq_getElem?_getD,List.getElem?_eq_getElem h]
 rfl
theorem qyb {xs:List Int} {k:Nat} {r:Int} (h:k<xs.length):ko r (xs.drop k)=(decide (0≤xs.getD k 0∧xs.getD k 0≤r)&&ko (r-xs.getD k 0) (xs.drop (k+1))):=by
 rw [NW 0 h,ko]
theorem que {cpu:Nat} {l:List It} (h:0<l.length):mQ cpu l=decide ((l.getD 0 It.zero).e.cpu=cpu):=by
 cases l with
 |nil=>cases h
 |cons x r=>rfl
theorem qyc {cpu:Nat} {l:List It} (h:l.length=0):mQ cpu l=true:=by
 cases l with
 |nil=>rfl
 |cons x r=>cases h
theorem qq9 {cpu:Nat} {l:List It} {opn:Int} (h:(bL (aJ l)).2≠0):zo cpu l opn=false:=by
 unfold zo
 rw [decide_eq_false h,Bool.false_and]
theorem Wp {cpu:Nat} {l:List It} {opn:Int} (h:ko xH (opn::aW l)=false):zo cpu l opn=false:=by
 unfold zo
 rw [h,Bool.false_and,Bool.and_false]
theorem Wq {cpu:Nat} {l:List It} {opn:Int} (h1:(bL (aJ l)).2=0) (h2:ko xH (opn::aW l)=true):zo cpu l opn=mQ cpu l:=by
 unfold zo
 rw [h2,decide_eq_true h1,Bool.true_and,Bool.true_and]
theorem Ws {l:List It} {k j:Nat} (hj:j<k) (hk:k≤l.length):bO (aW (l.take (j+1)))=bO (aW (l.take j))+(aW (l.take k)).getD j 0:=by
 rw [CY It.zero (by omega:j<l.length)]
 unfold aW
 rw [List.map_append,Kc]
 have h1:(List.map It.before (l.take k)).getD j 0=(l.getD j It.zero).before:=by
  rw [List.getD_eq_getElem?_getD,List.getElem?_map,List.getElem?_take,if_pos hj,List.getD_eq_getElem?_getD,List.getElem?_eq_getElem om]
  rfl
 rw [h1]
 simp [bO]
theorem qyd {l:List It} {j:Nat} (hj:j<l.length):bO (aW (l.take (j+1)))=bO (aW (l.take j))+(l.getD j It.zero).before:=by
 rw [CY It.zero hj]
 unfold aW
 rw [List.map_append,Kc]
 simp [bO]
theorem bQ.part {cpu:Nat} {l:List It} {opn:Int} (h:bQ cpu l opn) (j:Nat):0≤bO (aW (l.take j))∧bO (aW (l.take j))+opn≤281474976710656:=by
 have h1:=NI l j
 have h2:=Fy (l:=l.take j) (fun x hx=>h.CW x (List.mem_of_mem_take hx))
 have h3:=Fy (l:=l.drop j) (fun x hx=>h.CW x (List.mem_of_mem_drop hx))
 have h4:=h.sum
 omega
theorem Kg {cpu:Nat} {l:List It} {opn:Int} {k:Nat} (hk:k≤l.length) {lo:Int} (hlo:lo=(aT cpu l opn k).lost) (A:Option Addr) (c:Nat): #[.int .u8 1,.int .u8 (cpu:Int),.int .i64 lo,.int .i64 0,.slice A k c]=(aT cpu l opn k).cells A c:=by
 subst hlo
 unfold Bk.cells
 rw [pW hk]
 rfl
theorem Wt {cpu:Nat} {l:List It} {opn:Int} {k:Nat} (h:k=l.length):(aT cpu l opn k).lost=bO (aW (l.take k))+opn:=by
 show _+(if k=l.length then opn else 0)=_
 rw [if_pos h]
theorem Wu {cpu:Nat} {l:List It} {opn:Int} {k:Nat} (h:k≠l.length):(aT cpu l opn k).lost=bO (aW (l.take k)):=by
 show _+(if k=l.length then opn else 0)=_
 rw [if_neg h,Int.add_zero]
def qf:Nat→List Nat→List Bk×Nat×Nat
 |0,_=>([],0,0)
 | f + 1, l => if l.length = 0 then ([], 0, 0) else
  if (bg l).2.2≠0 then ([],0,(bg l).2.2) else
   ((bg l).1::(qf f (l.drop (bg l).2.1)).1,(bg l).2.1+(qf f (l.drop (bg l).2.1)).2.1,(qf f (l.drop (bg l).2.1)).2.2)
def ku (l:List Nat):List Bk×Nat×Nat:=if 524288<l.length then ([],0,3) else qf l.length l
theorem NY {f:Nat} {l:List Nat} (h:l.length=0):qf f l=([],0,0):=by
 cases f with
 |zero=>rfl
 |succ f=>rw [qf,if_pos h]
theorem Kh {f:Nat} {l:List Nat} {b:Bk} {m er:Nat} (hf:0<f) (h:0<l.length) (hq:bg l=(b,m,er)) (he:er≠0):qf f l=([],0,er):=by
 cases f with
 |zero=>omega
 |succ f=>rw [qf,if_neg om,if_pos (by rw [hq];exact he),hq]
theorem NZ {f:Nat} {l:List Nat} {b:Bk} {m:Nat} (hf:0<f) (h:0<l.length) (hq:bg l=(b,m,0)):qf f l=(b::(qf (f-1) (l.drop m)).1,m+(qf (f-1) (l.drop m)).2.1,(qf (f-1) (l.drop m)).2.2):=by
 cases f with
 |zero=>omega
 |succ f=>rw [qf,if_neg om,if_neg (by rw [hq];exact fun h=>h rfl),hq];rfl
def N7 (W:World) (lp:Nat) (Inv:List Nat→List Fact→Prop) (Stop:List Fact→Prop):Prop:=
 ∀(rest:List Nat) (F fr:List Fact) (w:World) (A:Option Addr) (c:Nat) (b:Bk) (m er:Nat),Inv rest F→bg rest=(b,m,er)→0<rest.length→(∀x∈rest,x<256)→b.evs.length≤c→Mem W w (.row (.slice A b.evs.length c) b.evs.length (b.evs.flatMap aN) 73 11::(F++fr))→
  YieldAt Fence.wide 0 Tryz.prog lp #[.agg #[.int .u8 (b.kind:Int),.int .u8 (b.cpu:Int),.int .i64 b.lost,.int .i64 b.next,.slice A b.evs.length c,.int .i64 (m:Int)],.int .i64 (er:Int)] w fun e w'=>∃F',Mem W w' (F'++fr)∧((er=0∧e= .returned (.bool true)∧Inv (rest.drop m) F')∨(er≠0∧e= .returned (.bool false)∧Stop F'))
def qyg (W:World) (Inv:List Nat→List Fact→Prop) (Stop:List Fact→Prop) (r:Ending) (w':World):Prop:=∃v,r= .returned v∧∃F',Mem W w' F'∧(Inv [] F'∨Stop F')
theorem qko {W:World} {fr:List Fact} {er:Nat} {I S:List Fact→Prop}:∀(e:Ending) (w':World),(∃F',Mem W w' (F'++fr)∧((er=0∧e= .returned (.bool true)∧I F')∨(er≠0∧e= .returned (.bool false)∧S F')))→∃v,e= .returned v
 |_,_,⟨_,_,.inl ⟨_,h,_⟩⟩=>⟨_,h⟩
 |_,_,⟨_,_,.inr ⟨_,h,_⟩⟩=>⟨_,h⟩
theorem Rd.q7l {w:World} {B k c:Nat} {A:Option Addr} {l:List Nat} (h:Rd w B 1 A l.length (l.map B8)) (hk:k≤l.length) (hc:l.length≤c):Rd w B 1 (if c=k then A else A.map (·.add (k*1))) (l.drop k).length ((l.drop k).map B8):=by
 rw [List.length_drop]
 exact h.qZ hk hc
theorem Ki (A:Option Addr) (n c:Nat) (l:List It) (w:World) (hr:Rd w w.heap.size 12 A n (l.flatMap bV)) (hln:l.length=n) (hn:n≤1000000):
    Calls Tryz.prog 120 #[.slice A n c] w fun r w'=>(∃A c,r= .returned (.slice A n c)∧w'.ownsRow w.heap.size 73 11 (.slice A n c) n ((aJ l).flatMap aN)∧n≤c)∧Below w.heap.size w w':=by
 refine (dh Tryz.func120 19) ?_
 refine (JP∘Jp 1∘Jr∘Jp 1∘Jq) fun a Z HM=>?_
 replace HM:=HM.nil 73 11
 refine Jb Z HM ((JG∘JQ∘JP∘Jp 1∘Jl∘Jp 1∘Jj∘JB) fun a Z HM=>?_)
 refine qc (fun mS aS wS=>∃(k:Nat) (Ak:Option Addr) (ck:Nat),(k≤n)∧(k≤ck)∧mS=n-k∧Fr aS 19 [] [(8,vI k),(7,vI n),(6,.slice A n c),(3,.slice Ak k ck),(2,vN)]∧Mem w wS [.row (.slice Ak k ck) k ((aJ (l.take k)).flatMap aN) 73 11]) (m:=n-0) ⟨0,none,0,Nat.zero_le _,Nat.le_refl _,rfl,Z.sub kr,HM.pk [0]⟩ ?_
 clear Z HM;rintro mS a w_ ⟨k,Ak,ck,hk,hck,rfl,Z,HM⟩
 refine Jb Z HM ((JP∘Jp 1∘Jj∘JQ) (Ju (fun iT=>?_) fun iT=>?_))
 ·
  intro a Z HM
  have rT:=of_decide_eq_true iT
  have qM:k<n:=by omega
  refine Jb Z HM ((JT∘aF∘JQ∘JB∘JP) ?_)
  repeat (first|clear Z|clear HM)
  intro a Z HM
  obtain ⟨gA,oA,rfl,_⟩:=hr.qm (Nat.lt_of_le_of_lt (Nat.zero_le _) (show k<n from by omega)) de
  refine Jb Z HM ((Jy (h:=by exact Yl.ix gA oA k 12 rfl rfl rfl)∘Jy (v:= .agg ((l.getD k It.zero).cells)) (h:=by exact Yl.qg rfl rfl jc rfl (fun _ h=>(h.old hr).q8 zn ((getD_at It.zero (k:=k) (by first|omega|(simp;omega))))))∘JA #[vI 0,vI 0,vB 0,vB 0,vI 0,vI 0,vI 0,vI 0,vI 0,vQ 0,vI 0,vI 0]) fun w5 g5=>(JV jc aZ (h1:=by exact CZ (l.getD k It.zero))) fun Al=>(aY∘Jj∘JR∘Jp 1∘Jf 0∘Jy (v:= .agg #[vI ((l.getD k It.zero).e.seq),vI ((l.getD k It.zero).e.time),vB ((l.getD k It.zero).e.cpu),vB ((l.getD k It.zero).e.kind),vI ((l.getD k It.zero).e.task),vI ((l.getD k It.zero).e.group),vI ((l.getD k It.zero).e.to),vI ((l.getD k It.zero).e.weight),vI ((l.getD k It.zero).e.ticks),vQ ((l.getD k It.zero).e.mask),vI ((l.getD k It.zero).e.got)]) (h:=by exact Yl.qg rfl rfl ⟨kr,kr⟩ rfl (fun _ h=>h.sub (i:=0) rfl 0 rfl))∘JU oL #[vI ((l.getD k It.zero).e.seq),vI ((l.getD k It.zero).e.time),vB ((l.getD k It.zero).e.cpu),vB ((l.getD k It.zero).e.kind),vI ((l.getD k It.zero).e.task),vI ((l.getD k It.zero).e.group),vI ((l.getD k It.zero).e.to),vI ((l.getD k It.zero).e.weight),vI ((l.getD k It.zero).e.ticks),vQ ((l.getD k It.zero).e.mask),vI ((l.getD k It.zero).e.got)]) fun oM g15=>(JD (aN (l.getD k It.zero).e) 2 (fun _ _=>fF) oL (hr:=by exact fun HM=>HM.aU (i:=0) (n:=1) (size:=11) rfl rfl) (h1:=by exact zf _)) fun w16 xq c16 hc16=>fun a Z HM=>?_)
  rw [show ((aJ (l.take k)).flatMap aN)++(aN (l.getD k It.zero).e)=((aJ (l.take (k+1))).flatMap aN) from by rw [NV om]] at HM
  refine Jb Z HM ((Jp 1∘fJ∘Jj∘JR∘cK 1∘Jp 1∘aR∘Jq) fun a Z HM=>?_)
  exact ⟨_,om,k+1,xq,c16,by omega,hc16,rfl,Z.sub kr,HM.pk [2]⟩
 intro a Z HM
 have rT:=of_decide_eq_false iT
 have hkn:k=n:=by omega
 exact Jb Z HM ((JF∘JX∘JG∘JP∘Jp 2∘aR∘Jj∘JZ∘bB) fun HM=>by exact ⟨⟨Ak,ck,by rw [hkn],by have h:=HM.own (i:=0) rfl;rw [hkn,List.take_of_length_le om] at h;exact h,by omega⟩,HM.below⟩)
theorem Wv (A:Option Addr) (n c:Nat) (l:List It) (w:World) (hr:Rd w w.heap.size 12 A n (l.flatMap bV)) (hln:l.length=n) (hn:n≤1000000):
    Calls Tryz.prog 121 #[.slice A n c] w fun r w'=>(∃A c,r= .returned (.slice A n c)∧w'.ownsRow w.heap.size 3 1 (.slice A n c) n ((aW l).map dQ)∧n≤c)∧Below w.heap.size w w':=by
 refine (dh Tryz.func121 19) ?_
 refine (JP∘Jp 1∘Jr∘Jp 1∘Jq) fun a Z HM=>?_
 replace HM:=HM.nil 3 1
 refine Jb Z HM ((JG∘JQ∘JP∘Jp 1∘Jl∘Jp 1∘Jj∘JB) fun a Z HM=>?_)
 refine qc (fun mS aS wS=>∃(k:Nat) (Ak:Option Addr) (ck:Nat),(k≤n)∧(k≤ck)∧mS=n-k∧Fr aS 19 [] [(8,vI k),(7,vI n),(6,.slice A n c),(3,.slice Ak k ck),(2,vN)]∧Mem w wS [.row (.slice Ak k ck) k ((aW (l.take k)).map dQ) 3 1]) (m:=n-0) ⟨0,none,0,Nat.zero_le _,Nat.le_refl _,rfl,Z.sub kr,HM.pk [0]⟩ ?_
 clear Z HM;rintro mS a w_ ⟨k,Ak,ck,hk,hck,rfl,Z,HM⟩
 refine Jb Z HM ((JP∘Jp 1∘Jj∘JQ) (Ju (fun iT=>?_) fun iT=>?_))
 ·
  intro a Z HM
  have rT:=of_decide_eq_true iT
  have qM:k<n:=by omega
  refine Jb Z HM ((JT∘aF∘JQ∘JB∘JP) ?_)
  repeat (first|clear Z|clear HM)
  intro a Z HM
  obtain ⟨gA,oA,rfl,_⟩:=hr.qm (Nat.lt_of_le_of_lt (Nat.zero_le _) (show k<n from by omega)) de
  refine Jb Z HM ((Jy (h:=by exact Yl.ix gA oA k 12 rfl rfl rfl)∘Jy (v:= .agg ((l.getD k It.zero).cells)) (h:=by exact Yl.qg rfl rfl jc rfl (fun _ h=>(h.old hr).q8 zn ((getD_at It.zero (k:=k) (by first|omega|(simp;omega))))))∘JA #[vI 0,vI 0,vB 0,vB 0,vI 0,vI 0,vI 0,vI 0,vI 0,vQ 0,vI 0,vI 0]) fun w5 g5=>(JV jc aZ (h1:=by exact CZ (l.getD k It.zero))) fun Al=>(aY∘Jj∘JR∘Jp 1∘Jg 11 O0∘JU yx #[vI ((l.getD k It.zero).before)]) fun oM g15=>(JD [dQ (l.getD k It.zero).before] 2 (fun _ _=>fF) yx (hr:=by exact fun HM=>HM.aU (i:=0) (n:=1) (size:=1) rfl rfl) (h1:=by intro v hv;simp at hv;subst hv;rfl)) fun w16 xq c16 hc16=>fun a Z HM=>?_)
  rw [show ((aW (l.take k)).map dQ)++[dQ (l.getD k It.zero).before]=((aW (l.take (k+1))).map dQ) from by rw [qud om]] at HM
  refine Jb Z HM ((Jp 1∘dR∘Jj∘JR∘cK 1∘Jp 1∘aR∘Jq) fun a Z HM=>?_)
  exact ⟨_,om,k+1,xq,c16,by omega,hc16,rfl,Z.sub kr,HM.pk [2]⟩
 intro a Z HM
 have rT:=of_decide_eq_false iT
 have hkn:k=n:=by omega
 exact Jb Z HM ((JF∘JX∘JG∘JP∘Jp 2∘aR∘Jj∘JZ∘bB) fun HM=>by exact ⟨⟨Ak,ck,by rw [hkn],by have h:=HM.own (i:=0) rfl;rw [hkn,List.take_of_length_le om] at h;exact h,by omega⟩,HM.below⟩)
theorem qro (cpu:Nat) (A:Option Addr) (n c:Nat) (l:List It) (opn:Int) (hok:∀x∈l,x.Ok) (ho:aM opn) (B:Nat) (w:World) (hL:aL B w) (hB:B≤w.heap.size) (hr:Rd w w.heap.size 12 A n (l.flatMap bV)) (hln:l.length=n) (hn:n≤1000000):
    Calls Tryz.prog 118 #[vB cpu,.slice A n c,vI opn] w (Is w (.bool (zo cpu l opn))):=by
 refine (Co Tryz.func118 53) ?_
 refine (JP∘Jp 1∘Jj∘JQ∘JP∘Jp 1∘JK (h:=by exact fun HM=>Ki A n c l _ (HM.old hr) (hln) om)) fun A14 c14 Cy ahT=>(JI (h:=by exact fun HM=>TQ A14 n c14 (aJ l) (Wo hok) B _ (hL.mem HM hB).laid (HM.le hB) (HM.rd (i:=0) rfl) om (i:=(bL (aJ l)).1) (er:=(bL (aJ l)).2) rfl)) fun oM hbw=>(Jp 1∘Jx∘Jx∘Jp 2∘aI∘Jr∘Jp 2∘bT∘Jj) (Jh (fun lH=>?_) fun lH=>?_)
 ·
  exact (JT∘JP∘Jp 1∘Jj∘JZ∘bB) fun HM=>by exact ⟨by rw [qq9 om],HM.below⟩
 refine (JF∘aF∘JP∘Jp 1∘Jj∘JQ∘JP∘Jp 1∘JU yx #[vI opn]) fun Az g21=>(Jp 1∘JK (h:=by exact fun HM=>Wv A n c l _ (HM.old hr) (hln) om)) fun A23 c23 Mx ahU=>fun a Z HM=>?_
 refine fo Z 4 rfl rfl ?_
 replace HM:=HM.dz (i:=1) (n:=1) (size:=1) rfl rfl de
 refine qV Z HM (i:=1) rfl yx rfl rfl rfl (news:=((aW l).map dQ)) (HM.rd (i:=0) rfl) (q19 _) om om rfl de ?_
 clear Z HM;intro a ES zO c24 Z HM hc24
 rw [show ((#[vI opn]).toList)++((aW l).map dQ)=(opn::aW l).map dQ from rfl] at HM
 refine Jb Z HM ((Jl∘Jp 1∘Jq) fun a Z HM=>?_)
 have hxl:(opn::aW l).length=1+n:=by rw [List.length_cons,Wn];omega
 refine Jb Z HM ((JG∘JB∘JM (.f (.t (.f .n)))) fun a Z HM=>?_)
 refine qc (fun mS aS wS=>∃(k:Nat) (r:Int),(k≤1+n)∧(0≤r)∧(r≤281474976710656)∧(ko xH (opn::aW l)=ko r ((opn::aW l).drop k))∧mS=1+n-k∧Fr aS 53 [] [(26,vI k),(25,vI (1+n:Nat)),(24,.slice zO (1+n) c24),(9,vI r),(19,.bool false),(6,.bool false),(0,vB cpu),(1,.slice A n c)]∧Mem w wS [.row (.slice zO (1+n) c24) (1+n) ((opn::aW l).map dQ) 3 1]) (m:=1+n-0) ⟨0,281474976710656,Nat.zero_le _,by omega,Int.le_refl _,rfl,rfl,Z.sub kr,HM.pk [0]⟩ ?_
 clear Z HM;rintro mS a w_ ⟨k,r,hk,hr0,hr1,hroom,rfl,Z,HM⟩
 refine Jb Z HM ((JP∘Jp 1∘Jj∘JQ) (Ju (fun iE=>?_) fun iE=>?_))
 ·
  intro a Z HM
  have hd27:=of_decide_eq_true iE
  have ahV:k<1+n:=by omega
  have hat:=qyb (xs:=opn::aW l) (k:=k) (r:=r) om
  refine Jb Z HM ((JT∘aF∘JQ∘JB∘JP) ?_)
  repeat (first|clear Z|clear HM)
  intro a Z HM
  obtain ⟨vT,rfl⟩:=zb (HM.own (i:=0) rfl) (Nat.lt_of_le_of_lt (Nat.zero_le _) (show k<1+n from by omega))
  refine Jb Z HM ((Jy (h:=by exact Yl.j6 vT k 1 rfl rfl rfl)∘Jy (h:=by exact Yl.r1 0 k 0 (by first|omega|(simp;omega)) rfl rfl rfl)∘Jp 1∘aY∘Jj∘JQ∘JP∘Jp 3) (Ji (fun hd32=>?_) fun hd32=>?_))
  ·
   exact (Jp 4∘aI∘Jj∘JT∘JP∘Jp 1∘Jj∘JZ∘bB) fun HM=>by exact ⟨by rw [Wp (by rw [hroom,hat,decide_eq_false om,Bool.false_and])],HM.below⟩
  refine (Jp 4∘aI∘Jj) (Ju (fun gD=>?_) fun gD=>?_)
  ·
   intro a Z HM
   have AU:=of_decide_eq_true gD
   exact Jb Z HM ((JT∘JP∘Jp 1∘Jj∘JZ∘bB) fun HM=>by exact ⟨by rw [Wp (by rw [hroom,hat,decide_eq_false om,Bool.false_and])],HM.below⟩)
  intro a Z HM
  have AU:=of_decide_eq_false gD
  have Px:ko xH (opn::aW l)=ko (r- ((opn::aW l).getD k 0)) ((opn::aW l).drop (k+1)):=by rw [hroom,hat,decide_eq_true ⟨by omega,by omega⟩,Bool.true_and]
  refine Jb Z HM ((JF∘aF∘JR∘Jp 3∘Jo (vI (r- ((opn::aW l).getD k 0))) (by exact oH ⟨by omega,by omega⟩)∘Jp 1∘bT∘Jj∘JR∘cK 1∘Jp 1∘aR∘Jq) fun a Z HM=>?_)
  exact ⟨_,om,k+1,(r- ((opn::aW l).getD k 0)),by omega,by omega,by omega,Px,rfl,Z.sub kr,HM.pk [0]⟩
 intro a Z HM
 have hd27:=of_decide_eq_false iE
 have hkn:k=1+n:=by omega
 have hrt:ko xH (opn::aW l)=true:=by rw [hroom,List.drop_of_length_le om];rfl
 refine Jb Z HM ((JF∘JX∘JG∘JP∘Jp 1∘Jl∘Jp 2) (Je (fun rH=>?_) fun rH=>?_))
 ·
  exact (Jv 9 [(6,.bool true)]∘dR∘Jj∘JZ∘bB) fun HM=>by exact ⟨by rw [Wq om hrt,qyc om],HM.below⟩
 refine (Jp 1) ?_
 repeat (first|clear Z|clear HM)
 intro a Z HM
 obtain ⟨gA,oA,rfl,_⟩:=hr.qm (Nat.lt_of_le_of_lt (Nat.zero_le _) (show 0<n from by omega)) de
 exact Jb Z HM ((Jy (v:=vP gA oA) (h:=by exact Yl.indexAddr (ad:=⟨gA,oA,none⟩) (y:=0) (sz:=12) rfl rfl rfl om kr)∘Jf 0∘Jf 2∘Jy (v:=vB ((l.getD 0 It.zero).e.cpu)) (h:=by exact Yl.qn rfl rfl kr (fun _ h=>(h.old hr).partAt zn (k:=0) (j:=2) (x:=(l.getD 0 It.zero)) ((getD_at It.zero (k:=0) (by first|omega|(simp;omega)))) rfl))∘Jp 4∘aI∘Jj∘JZ∘bB) fun HM=>by exact ⟨by rw [Wq om hrt,que om];congr 2;rw [Bool.eq_iff_iff,beq_iff_eq,decide_eq_true_eq];omega,HM.below⟩)
theorem YE (cpu:Nat) (A:Option Addr) (n c:Nat) (l:List It) (opn:Int) (k:Nat) (hG:bQ cpu l opn) (hk:k≤n) (g1 g2 g3:Nat) (w:World) (hg1:w.heap[g1]?=some (.cells #[vB cpu] 5 (0,0))) (hg2:w.heap[g2]?=some (.cells #[.slice A n c] 65 (0,0))) (hg3:w.heap[g3]?=some (.cells #[vI opn] 3 (0,0))) (hr:Rd w w.heap.size 12 A l.length (l.flatMap bV)) (hc:n≤c) (hln:l.length=n) (hn:n≤1000000):
    Calls Tryz.prog 119 #[vI k,vP g1 0,vP g2 0,vP g3 0] w (q6w w (aT cpu l opn k)):=by
 refine (uY Tryz.func119 40) ?_
 refine (JP∘JA #[vB 0,vB 0,vI 0,vI 0,vN]) fun w5 g5=>(Jj) fun a Z HM=>?_
 refine qw (fun aS wS=>∃(lY:Option Addr) (c13:Nat) (g6:Nat),Fr aS 40 [] [(6,vP g6 0),(5,vP g5 0),(0,vI k),(2,vP g2 0),(3,vP g3 0)]∧Mem w wS [.blk g6 #[vB 1,vB cpu,vI 0,vI 0,.slice lY k c13] 85,.row (.slice lY k c13) k ((aJ (l.take k)).flatMap aN) 73 11,.blk g5 #[vB 0,vB 0,vI 0,vI 0,vN] 85]∧(k≤c13)) ?_ ?_
 ·
  refine Jb Z HM ((Vs .n [7]) fun wd1=>(Vp [2]∘Vy 0 (v:=vB cpu) (h:=by exact Yl.qn rfl rfl kr (fun _ h=>h.qy hg1 rfl))∘Vy 1 (v:= .slice A n c) (h:=by exact Yl.qn rfl rfl kr (fun _ h=>h.qy hg2 rfl))∘Vy 3 (h:=by exact Yl.q0 gJ (j:=k) rfl rfl rfl om)) fun a Z HM HS=>?_)
  refine pE [4,6] kr rfl ?_
  refine all_cons ?_ ?_
  ·refine jl Z (i:=4) rfl rfl ?_
   refine mo Z HM [.slice A k c] (Ki A k c (l.take k) _ (HM.old (Rd.Ah zn hr om)) (by rw [List.length_take];omega) om) fun lY c13 nD pU HM a Z=>?_
   refine aK (HM.pk [1]) (fun HS=>?_)
   refine Vb Z HM HS ((Vy 5 (v:= .agg #[vB 1,vB cpu,vI 0,vI 0,.slice lY k c13]) (h:=by exact Yl.build (vs:=[(0,vB 1),(1,vB cpu),(4,.slice lY k c13)]) rfl kr kr)∘VA 6 (.f .n) #[vB 0,vB 0,vI 0,vI 0,vN]) fun w6 g6=>fun a Z HM HS=>?_)
   refine s_on Z 7 rfl (bN Z HM 0 rfl rfl rfl rfl rfl aA rfl rfl (by simp [Value.oneCell']) fun Au HM=>?_)
   refine fZ kr ?_
   refine qd kr ?_
   exact ⟨lY,c13,g6,Z.sub kr,HM.pk [0,1,2],pU⟩
  refine all_cons ?_ all_nil
  refine jl Z (i:=6) rfl rfl ?_
  refine kF Z HM #[vB 0,vB 0,vI 0,vI 0,vN] ?_
  clear Z HM;intro a w6 g6 Z HM
  refine aK (HM.pk [1]) (fun HS=>?_)
  refine Vb Z HM HS ((VK 4 (.f .n) (h:=by exact fun HM=>Ki A k c (l.take k) _ (HM.old (Rd.Ah zn hr om)) (by rw [List.length_take];omega) om)) fun lY c13 nD pU=>(Vy 5 (v:= .agg #[vB 1,vB cpu,vI 0,vI 0,.slice lY k c13]) (h:=by exact Yl.build (vs:=[(0,vB 1),(1,vB cpu),(4,.slice lY k c13)]) rfl kr kr)) fun a Z HM HS=>?_)
  refine s_on Z 7 rfl (bN Z HM 1 rfl rfl rfl rfl rfl aA rfl rfl (by simp [Value.oneCell']) fun Au HM=>?_)
  refine fZ kr ?_
  refine qd kr ?_
  exact ⟨lY,c13,g6,Z.sub kr,HM.pk [1,0,2],pU⟩
 clear Z HM;rintro a w1 ⟨lY,c13,g6,Z,HM,pU⟩
 refine Jb Z HM ((JQ∘JP∘Jy (v:= .slice A n c) (h:=by exact Yl.qn rfl rfl kr (fun _ h=>h.qy hg2 rfl))∘Jp 1∘Jy (h:=by exact Yl.q0 gJ (j:=k) rfl rfl rfl om)∘JK (h:=by exact fun HM=>Wv A k c (l.take k) _ (HM.old (Rd.Ah zn hr om)) (by rw [List.length_take];omega) om)) fun KO c18 qJ hc18=>(Jl∘Jp 1∘Jq) fun a Z HM=>?_)
 have hbl:(aW (l.take k)).length=k:=by rw [Wn,List.length_take];omega
 refine Jb Z HM ((JG∘JB) fun a Z HM=>?_)
 refine qc (fun mS aS wS=>∃(j:Nat),(j≤k)∧mS=k-j∧Fr aS 40 [] [(20,vI j),(19,vI k),(18,.slice KO k c18),(6,vP g6 0),(5,vP g5 0),(0,vI k),(2,vP g2 0),(3,vP g3 0)]∧Mem w wS [.row (.slice KO k c18) k ((aW (l.take k)).map dQ) 3 1,.blk g6 #[vB 1,vB cpu,vI (bO (aW (l.take j))),vI 0,.slice lY k c13] 85,.row (.slice lY k c13) k ((aJ (l.take k)).flatMap aN) 73 11,.blk g5 #[vB 0,vB 0,vI 0,vI 0,vN] 85]) (m:=k-0) ⟨0,Nat.zero_le _,rfl,Z.sub kr,HM.pk [0,1,2,3]⟩ ?_
 clear Z HM;rintro mS a w_ ⟨j,hj,rfl,Z,HM⟩
 refine Jb Z HM ((JP∘Jp 1∘Jj∘JQ) (Ju (fun dF=>?_) fun dF=>?_))
 ·
  intro a Z HM
  have gF:=of_decide_eq_true dF
  have hj21:j<k:=by omega
  have ho0:=hG.o0
  have hp0:=hG.part j
  have hp1:=hG.part (j+1)
  have hps:=Ws (l:=l) (k:=k) (j:=j) om om
  refine Jb Z HM ((JT∘aF∘JQ∘JB∘JP) ?_)
  repeat (first|clear Z|clear HM)
  intro a Z HM
  obtain ⟨Py,rfl⟩:=zb (HM.own (i:=0) rfl) (Nat.lt_of_le_of_lt (Nat.zero_le _) (show j<k from by omega))
  refine Jb Z HM ((Jy (h:=by exact Yl.j6 Py j 1 rfl rfl rfl)∘Jy (h:=by exact Yl.r1 0 j 0 (by first|omega|(simp;omega)) rfl rfl rfl)∘Jp 1∘aY∘Jj∘JR∘Jg 2 O1∘Jp 2∘Jo (vI (bO (aW (l.take (j+1))))) (by rw [Ws (k:=k) om om];exact oH ⟨by omega,by omega⟩)∘Jf 2∘JW dO fF) fun Pz=>(yN∘Jj∘JR∘cK 1∘Jp 1∘aR∘Jq) fun a Z HM=>?_)
  exact ⟨_,om,j+1,by omega,rfl,Z.sub kr,HM.pk [0,1,2,3]⟩
 intro a Z HM
 have gF:=of_decide_eq_false dF
 revert HM;revert a;repeat (first|clear Z|clear HM)
 intro a Z HM
 obtain rfl:j=k:=by omega
 have hp0:=hG.part j
 have ho0:=hG.o0
 refine Jb Z HM ((JF∘JX∘JG∘JQ∘JP∘Jp 1∘Jy (v:= .slice A n c) (h:=by exact Yl.qn rfl rfl kr (fun _ h=>h.qy hg2 rfl))∘Jl∘Jp 1∘bT∘Jj) (Ju (fun oo=>?_) fun oo=>?_))
 ·
  intro a Z HM
  have oq:=eq_of_beq oo
  have hlo:=Wt (cpu:=cpu) (opn:=opn) (l:=l) (k:=j) om
  refine Jb Z HM ((JT∘JR∘Jg 2 O1∘Jy (v:=vI opn) (h:=by exact Yl.qn rfl rfl kr (fun _ h=>h.qy hg3 rfl))∘Jp 1∘Jo (vI ((bO (aW (l.take j)))+opn)) (by exact oH ⟨by omega,by omega⟩)∘Jf 2∘JW dO fF) fun Gh=>(yN∘Jr∘Jy (v:= .agg #[vB 1,vB cpu,vI ((bO (aW (l.take j)))+opn),vI 0,.slice lY j c13]) (h:=by exact Yl.qg rfl rfl aA rfl (fun _ h=>qb (h.blk (i:=1) rfl)))∘JV aA jm) fun Bn=>(kg∘Jj∘JZ) fun a Z HM=>?_)
  exact iy rfl Z (.cellS (i:=3) Z HM rfl rfl aA rfl) (⟨⟨lY,c13,by rw [←Kg om (by rw [hlo])],by rw [pW om];exact HM.own (i:=2) rfl,by rw [pW om];omega⟩,HM.below⟩)
 intro a Z HM
 have oq:=ne_of_beq_false oo
 have hlo:=Wu (cpu:=cpu) (opn:=opn) (l:=l) (k:=j) om
 refine Jb Z HM ((JF∘aF∘JP∘Jy (v:= .agg #[vB 1,vB cpu,vI (bO (aW (l.take j))),vI 0,.slice lY j c13]) (h:=by exact Yl.qg rfl rfl aA rfl (fun _ h=>qb (h.blk (i:=1) rfl)))∘JV aA jm) fun Bn=>(kg∘Jj∘JZ) fun a Z HM=>?_)
 exact iy rfl Z (.cellS (i:=3) Z HM rfl rfl aA rfl) (⟨⟨lY,c13,by rw [←Kg om (by rw [hlo])],by rw [pW om];exact HM.own (i:=2) rfl,by rw [pW om];omega⟩,HM.below⟩)
theorem YF (A:Option Addr) (n c:Nat) (l:List It) (w:World) (hr:Rd w w.heap.size 12 A n (l.flatMap bV)) (hln:l.length=n) (hn:n≤1000000):
  Calls Tryz.prog 120 #[.slice A n c] w fun r w'=>(∃A c,r= .returned (.slice A (aJ l).length c)∧w'.ownsRow w.heap.size 73 11 (.slice A (aJ l).length c) (aJ l).length ((aJ l).flatMap aN)∧(aJ l).length≤c)∧Below w.heap.size w w':=by
 have e:(aJ l).length=n:=by rw [CV];exact hln
 rw [e]
 exact Ki A n c l w hr hln hn
theorem q2r (b:Bk) (hok:b.Ok) (hf:b.fits=true) (A:Option Addr) (c B:Nat) (w:World) (hL:aL B w) (hB:B≤w.heap.size) (hr:Rd w w.heap.size 11 A b.evs.length (b.evs.flatMap aN)) (hn:b.evs.length≤1000000):
  Calls Tryz.prog 122 #[.agg (b.cells A c)] w (Is w (.tuple #[vI (b.oU:Int),vI 0])):=by
 have h:=qzh b hok A c B w hL hB hr hn
 unfold Bk.fill at h
 rwa [if_neg (by rw [hf];decide)] at h
theorem qzm (cpu:Nat) (bA:cpu<256) (A:Option Addr) (n c:Nat) (l:List It) (opn limit:Int) (hok:∀x∈l,x.Ok) (ho:aM opn) (hlm:aM limit) (B:Nat) (w:World) (hL:aL B w) (hB:B≤w.heap.size) (hr:Rd w w.heap.size 12 A n (l.flatMap bV)) (hc:n≤c) (hln:l.length=n) (hn:n≤1000000):
    Calls Tryz.prog 57 #[vB cpu,.slice A n c,vI opn,vI limit] w (rV 73 85 w (bH cpu l opn limit).2 (bH cpu l opn limit).1):=by
 subst hln
 refine (uY Tryz.func57 87) ?_
 refine (JP∘uX) fun w4 g4=>(uX) fun w5 g5=>(uX) fun w6 g6=>(Jp 2∘Jj∘JQ∘JB∘JP∘Jc O2∘Jp 2) (Ji (fun fK=>?_) fun fK=>?_)
 ·
  exact (Jv 8 [(14,.bool true)]∘bT∘Jj∘JT∘JP∘Jp 2∘Jj∘JZ∘bY) fun HM=>by rw [CX om];exact rW HM rfl
 refine (Jp 4) (Ji (fun gF=>?_) fun gF=>?_)
 ·
  exact (Jp 4∘aI∘Jj∘JT∘JP∘Jp 2∘Jj∘JZ∘bY) fun HM=>by rw [CX om];exact rW HM rfl
 refine (Jp 4∘aI∘Jj) (Ji (fun gG=>?_) fun gG=>?_)
 ·
  exact (JT∘JP∘Jp 2∘Jj∘JZ∘bY) fun HM=>by rw [CX om];exact rW HM rfl
 refine (JF∘JP∘Jc O2∘Jc O1∘Jc O0∘JI (h:=by exact fun HM=>qro cpu A l.length c l opn hok ho B _ (hL.mem HM hB) (HM.le hB) (HM.old hr) rfl om)) fun EU hbw=>(Jp 2∘fJ∘Jj) (Ju (fun iI=>?_) fun iI=>?_)
 ·
  intro a Z HM
  have hbad:zo cpu l opn=false:=by simpa using iI
  exact Jb Z HM ((JT∘JP∘Jp 2∘Jj∘JZ∘bY) fun HM=>by rw [V3 om hbad];exact rW HM rfl)
 intro a Z HM
 have hgood:zo cpu l opn=true:=by simpa using iI
 have hG:=bQ.of om hok hgood
 refine Jb Z HM ((JF∘JP∘Jc O1∘Jl∘Jp 2) (Je (fun lN=>?_) fun lN=>?_))
 ·
  refine (Jc O0∘Jp 3∘aI∘Jj) (Je (fun hd31=>?_) fun hd31=>?_)
  ·
   exact (JT∘JP∘Jp 2∘Jj∘JZ∘bY) fun HM=>by rw [V4 om hgood om om];exact rW HM rfl
  refine (JF∘JP∘Jc O1∘Jl∘Jp 2∘bT∘Jj) (Ju (fun gV=>?_) fun gV=>?_)
  ·
   intro a Z HM
   have hd39:=eq_of_beq gV
   exact Jb Z HM ((JT∘JP∘Jc O2∘Jc O0∘Jy (v:= .agg #[vB 1,vB cpu,vI opn,vI 0,vN]) (h:=by exact Yl.build (vs:=[(0,vB 1),(1,vB cpu),(2,vI opn)]) rfl kr kr)∘JU sw #[vB 1,vB cpu,vI opn,vI 0,vN]) fun Eu g46=>(Jp 2∘Jj∘JZ∘bY) fun HM=>by rw [V5 om hgood om om];exact q1x HM (i:=0) rfl)
  intro a Z HM
  have hd39:=ne_of_beq_false gV
  exfalso;omega
 refine (Jp 4∘aI∘Jj∘JF∘JP∘Jc O1∘Jl∘Jp 2∘bT∘Jj) (Ju (fun gV=>?_) fun gV=>?_)
 ·
  intro a Z HM
  have hd39:=eq_of_beq gV
  exfalso;omega
 intro a Z HM
 have hd39:=ne_of_beq_false gV
 refine Jb Z HM ((JF∘aF∘JP∘Jy (h:=by exact Yl.makeFunc (fst:=[]) (caps:=[vP g4 0,vP g5 0,vP g6 0]) rfl rfl rfl)∘Jp 1∘aR∘Jr∘Jp 1∘Jq) ?_)
 repeat (first|clear Z|clear HM)
 intro a Z HM
 obtain ⟨lim,rfl⟩:∃k:Nat,limit=(k:Int):=⟨limit.toNat,by omega⟩
 replace HM:=HM.nil 85 5
 replace HM:Mem w _ (.row (vN) 0 [] 85 5:: .blk g6 #[vI opn] 3:: .blk g5 #[.slice A l.length c] 65:: .blk g4 #[vB cpu] 5::bG 73 []):=HM
 refine Jb Z HM ((JG∘JQ∘JB) fun a Z HM=>?_)
 refine qc (fun mS aS wS=>∃(r:List It) (X:Option Addr) (cc:Nat) (q:List Hb) (f:Nat) (Ao:Option Addr) (co:Nat),(Rd w w.heap.size 12 X r.length (r.flatMap bV))∧(r.length≤cc)∧(bQ cpu r opn)∧(r.length≤l.length)∧(r.length≤f)∧(q.map Hb.b++dX cpu opn lim f r=dX cpu opn lim l.length l)∧(q.length≤co)∧(q.length+r.length≤l.length)∧mS=r.length∧Fr aS 87 [] [(11,.slice Ao q.length co),(10,.func (.func 119) #[] #[vP g4 0,vP g5 0,vP g6 0]),(39,.bool false),(31,.bool false),(25,.bool false),(14,.bool false),(9,vI 0),(8,vN),(6,vP g6 0),(5,vP g5 0),(4,vP g4 0),(3,vI lim)]∧Mem w wS (.row (.slice Ao q.length co) q.length (q.flatMap hbL) 85 5:: .blk g6 #[vI opn] 3:: .blk g5 #[.slice X r.length cc] 65:: .blk g4 #[vB cpu] 5::bG 73 q)) (m:=l.length) ⟨l,A,c,[],l.length,none,0,hr,by omega,hG,by omega,Nat.le_refl _,List.nil_append _,Nat.le_refl _,by simp,rfl,Z.sub kr,HM.pt 4 [0,1,2,3]⟩ ?_
 clear Z HM;rintro mS a w_ ⟨r,X,cc,q,f,Ao,co,hX,hcc,qB,hrn,hf,hq,hco,kW,rfl,Z,HM⟩
 refine Jb Z HM ((JQ∘JP∘Jc O2∘Jl∘Jp 1∘aY∘Jj) (Ju (fun fD=>?_) fun fD=>?_))
 ·
  intro a Z HM
  have Bo:=of_decide_eq_true fD
  have hr0:0<r.length:=by omega
  obtain ⟨m0,hm0⟩:∃m,m=min r.length lim:=⟨_,rfl⟩
  obtain ⟨hmf,hmo,hmb,hmp,hma⟩:=VZ qB (m:=m0) om om
  have hml:(bZ cpu r m0).evs.length=m0:=by show (aJ (r.take m0)).length=m0;rw [CV,List.length_take];omega
  have hcf:=qx7 qB (limit:=lim) om hr0
  rw [←hm0] at hcf
  obtain ⟨hcp,hcl,hce⟩:=NP qB (limit:=lim) om hr0
  have hst:=NQ (cpu:=cpu) (limit:=lim) (opn:=opn) hr0 (f:=f) om
  refine Jb Z HM ((JT∘aF∘JB∘JP∘Jc O2∘Jl∘Jp 1∘Jy (v:=vI (if (lim:Int)<(r.length:Int) then (lim:Int) else (r.length:Int))) (h:=by exact Yl.min rfl rfl rfl)∘Jo (vI m0) (by rw [hm0];congr 1;split<;>omega)∘Jp 1∘dR∘Jj) fun a Z HM=>?_)
  refine qw (fun aS wS=>∃(jd:Option Addr) (c59:Nat) (g13:Nat),Fr aS 87 [] [(13,vP g13 0),(12,vI m0),(50,.bool true),(11,.slice Ao q.length co),(10,.func (.func 119) #[] #[vP g4 0,vP g5 0,vP g6 0]),(39,.bool false),(31,.bool false),(25,.bool false),(14,.bool false),(9,vI 0),(8,vN),(6,vP g6 0),(5,vP g5 0),(4,vP g4 0),(3,vI lim)]∧Mem w wS (.blk g13 #[vB 1,vB cpu,vI 0,vI 0,.slice jd ((aJ (r.take m0)).length) c59] 85:: .row (.slice jd ((aJ (r.take m0)).length) c59) ((aJ (r.take m0)).length) ((aJ (r.take m0)).flatMap aN) 73 11:: .row (.slice Ao q.length co) q.length (q.flatMap hbL) 85 5:: .blk g6 #[vI opn] 3:: .blk g5 #[.slice X r.length cc] 65:: .blk g4 #[vB cpu] 5::bG 73 q)∧((aJ (r.take m0)).length≤c59)) ?_ ?_
  ·
   refine Jb Z HM ((Vs .n [7]) fun sj=>(Vp [2]∘Vc 0 O3∘Vc 1 O2∘Vy 3 (h:=by exact Yl.q0 gJ (j:=m0) rfl rfl rfl om)) fun a Z HM HS=>?_)
   refine pE [4,6] kr rfl ?_
   refine all_cons ?_ ?_
   ·refine jl Z (i:=4) rfl rfl ?_
    refine mo Z HM [.slice X m0 cc] (YF X m0 cc (r.take m0) _ (HM.old (Rd.Ah zn hX om)) (by rw [List.length_take];omega) om) fun jd c59 OZ mV HM a Z=>?_
    refine aK (HM.pt 5 [1,2,3,4]) (fun HS=>?_)
    refine Vb Z HM HS ((Vy 5 (v:= .agg #[vB 1,vB cpu,vI 0,vI 0,.slice jd ((aJ (r.take m0)).length) c59]) (h:=by exact Yl.build (vs:=[(0,vB 1),(1,vB cpu),(4,.slice jd ((aJ (r.take m0)).length) c59)]) rfl kr kr)∘VA 6 (.f .n) #[vB 0,vB 0,vI 0,vI 0,vN]) fun nD g13=>fun a Z HM HS=>?_)
    refine s_on Z 7 rfl (bN Z HM 0 rfl rfl rfl rfl rfl aA rfl rfl (by simp [Value.oneCell']) fun xY HM=>?_)
    refine fZ kr ?_
    refine qd kr ?_
    exact ⟨jd,c59,g13,Z.sub kr,HM.pt 6 [0,1,2,3,4,5],mV⟩
   refine all_cons ?_ all_nil
   refine jl Z (i:=6) rfl rfl ?_
   refine kF Z HM #[vB 0,vB 0,vI 0,vI 0,vN] ?_
   clear Z HM;intro a nD g13 Z HM
   refine aK (HM.pt 5 [1,2,3,4]) (fun HS=>?_)
   refine Vb Z HM HS ((VK 4 (.f .n) (h:=by exact fun HM=>YF X m0 cc (r.take m0) _ (HM.old (Rd.Ah zn hX om)) (by rw [List.length_take];omega) om)) fun jd c59 OZ mV=>(Vy 5 (v:= .agg #[vB 1,vB cpu,vI 0,vI 0,.slice jd ((aJ (r.take m0)).length) c59]) (h:=by exact Yl.build (vs:=[(0,vB 1),(1,vB cpu),(4,.slice jd ((aJ (r.take m0)).length) c59)]) rfl kr kr)) fun a Z HM HS=>?_)
   refine s_on Z 7 rfl (bN Z HM 1 rfl rfl rfl rfl rfl aA rfl rfl (by simp [Value.oneCell']) fun xY HM=>?_)
   refine fZ kr ?_
   refine qd kr ?_
   exact ⟨jd,c59,g13,Z.sub kr,HM.pt 6 [1,0,2,3,4,5],mV⟩
  clear Z HM;rintro a nD ⟨jd,c59,g13,Z,HM,mV⟩
  refine Jb Z HM ((JP∘Jy (v:= .agg #[vB 1,vB cpu,vI 0,vI 0,.slice jd ((aJ (r.take m0)).length) c59]) (h:=by exact Yl.qg rfl rfl aA rfl (fun _ h=>qb (h.blk (i:=0) rfl)))∘JI (h:=by exact fun HM=>q2r (bZ cpu r m0) hmo hmf jd c59 B _ (hL.mem HM hB) (HM.le hB) (HM.rd (i:=1) rfl) (by rw [hml];omega))) fun w63 hbw=>(Jp 1∘Jx∘Jx∘Jp 1∘fJ∘Jj∘JQ∘JB) fun a Z HM=>?_)
  refine qc (fun mS aS wS=>∃(m:Nat),(m≤r.length)∧(gP cpu r opn lim≤m)∧(gP cpu r opn lim=ji (fun n=>decide ((aT cpu r opn n).err=0)) m)∧mS=0+m∧Fr aS 87 [] [(12,vI m),(13,vP g13 0),(50,.bool true),(11,.slice Ao q.length co),(10,.func (.func 119) #[] #[vP g4 0,vP g5 0,vP g6 0]),(39,.bool false),(31,.bool false),(25,.bool false),(14,.bool false),(9,vI 0),(8,vN),(6,vP g6 0),(5,vP g5 0),(4,vP g4 0),(3,vI lim)]∧Mem w wS (.blk g13 #[vB 1,vB cpu,vI 0,vI 0,.slice jd ((aJ (r.take m0)).length) c59] 85:: .row (.slice jd ((aJ (r.take m0)).length) c59) ((aJ (r.take m0)).length) ((aJ (r.take m0)).flatMap aN) 73 11:: .row (.slice Ao q.length co) q.length (q.flatMap hbL) 85 5:: .blk g6 #[vI opn] 3:: .blk g5 #[.slice X r.length cc] 65:: .blk g4 #[vB cpu] 5::bG 73 q)) (m:=0+((bZ cpu r m0).oU)) ⟨(bZ cpu r m0).oU,by omega,by rw [hcf];exact Ag _ _,hcf,rfl,Z.sub kr,HM.pt 6 [0,1,2,3,4,5]⟩ ?_
  clear Z HM;rintro mS a w_ ⟨m,hm,hmc,hdn,rfl,Z,HM⟩
  refine Jb Z HM ((JQ∘JP∘Jp 2) fun a Z HM=>?_)
  refine fo Z 2 rfl rfl ?_
  refine qX Z (f:=119) (vs:=[vI m]) (fst:=[]) (caps:=[vP g4 0,vP g5 0,vP g6 0]) rfl rfl rfl kr rfl de (YE cpu X r.length cc r opn m qB om g4 g5 g6 _ (HM.blk (i:=5) rfl) (HM.blk (i:=4) rfl) (HM.blk (i:=3) rfl) (HM.old hX) hcc rfl om) ?_
  rintro _ OT ⟨⟨AO,AP,rfl,ho,AQ⟩,hbw⟩
  refine ⟨_,rfl,?_⟩
  replace HM:=HM.aQ hbw ho
  clear Z;intro a Z
  refine Jb Z HM ((JI (h:=by exact fun HM=>qxy (aT cpu r opn m) (NK qB m) AO AP B _ (hL.mem HM hB) (HM.le hB) (HM.rd (i:=0) rfl) (by rw [pW om];omega) rfl)) fun w69 hbw=>(Jp 1∘dR∘Jj) (Ju (fun Bp=>?_) fun Bp=>?_))
  ·
   intro a Z HM
   have Bf:=bne_iff_ne.1 Bp
   have hdd:=V7 (p:=(fun n=>decide ((aT cpu r opn n).err=0))) (m:=m) (by rw [decide_eq_false_iff_not];omega) om
   have hle:=Ag (fun n=>decide ((aT cpu r opn n).err=0)) (m-1)
   refine Jb Z HM ((JT∘aF∘JB∘JR∘Jp 1∘yO 1∘Jp 1∘aY∘Jq) fun a Z HM=>?_)
   exact ⟨_,om,(m-1),by omega,by rw [hdn,hdd];exact hle,hdn.trans hdd,rfl,Z.sub kr,HM.pt 7 [1,2,3,4,5,6]⟩
  intro a Z HM
  have Bf:=bne_eq_false_iff_eq.1 Bp
  have sZ:=V8 (p:=(fun n=>decide ((aT cpu r opn n).err=0))) (m:=m) (by rw [decide_eq_true_eq];omega)
  rw [hdn,sZ] at hst
  refine Jb Z HM ((JF∘JX∘JG∘JP∘Jp 3) fun a Z HM=>?_)
  refine fo Z 3 rfl rfl ?_
  refine qX Z (f:=119) (vs:=[vI m]) (fst:=[]) (caps:=[vP g4 0,vP g5 0,vP g6 0]) rfl rfl rfl kr rfl de (YE cpu X r.length cc r opn m qB om g4 g5 g6 _ (HM.blk (i:=6) rfl) (HM.blk (i:=5) rfl) (HM.blk (i:=4) rfl) (HM.old hX) hcc rfl om) ?_
  rintro _ w76 ⟨⟨kX,c76,rfl,ho,ah7⟩,hbw⟩
  refine ⟨_,rfl,?_⟩
  replace HM:=HM.aQ hbw ho
  clear Z;intro a Z
  refine Jb Z HM ((JU sw ((aT cpu r opn m).cells kX c76)) fun w77 PD=>(JD (hbL (⟨aT cpu r opn m,kX,c76⟩:Hb)) 5 (fun _ _=>Cn) sw (hr:=by exact fun HM=>HM.aU (i:=0) (n:=1) (size:=5) rfl rfl) (h1:=by exact zy _ _ _)) fun w78 Gi Gj Gl=>(Jp 1∘aI∘Jq) fun a Z HM=>?_)
  have tq:q.length+1=(q++[(⟨aT cpu r opn m,kX,c76⟩:Hb)]).length:=by rw [List.length_append];rfl
  replace HM:=HM.aV (i:=5) (ys:=(q++[(⟨aT cpu r opn m,kX,c76⟩:Hb)]).flatMap hbL) rfl tq (by rw [List.flatMap_append,List.flatMap_cons,List.flatMap_nil,List.append_nil])
  rw [tq] at Gl
  replace Z:=Z.sp 11 (.slice Gi ((q++[(⟨aT cpu r opn m,kX,c76⟩:Hb)]).length) Gj) rfl (by rw [tq])
  replace HM:=Mem.Ns (a:=[.blk PD ((aT cpu r opn m).cells kX c76) 85,.row (.slice AO ((aT cpu r opn m).evs.length) AP) ((aT cpu r opn m).evs.length) ((aT cpu r opn m).evs.flatMap aN) 73 11,.blk g13 #[vB 1,vB cpu,vI 0,vI 0,.slice jd ((aJ (r.take m0)).length) c59] 85,.row (.slice jd ((aJ (r.take m0)).length) c59) ((aJ (r.take m0)).length) ((aJ (r.take m0)).flatMap aN) 73 11,.row (.slice Gi ((q++[(⟨aT cpu r opn m,kX,c76⟩:Hb)]).length) Gj) ((q++[(⟨aT cpu r opn m,kX,c76⟩:Hb)]).length) ((q++[(⟨aT cpu r opn m,kX,c76⟩:Hb)]).flatMap hbL) 85 5,.blk g6 #[vI opn] 3,.blk g5 #[.slice X r.length cc] 65,.blk g4 #[vB cpu] 5]) (q:=q) (HM.pt (fs':=(.row (.slice kX ((aT cpu r opn m).evs.length) c76) ((aT cpu r opn m).evs.length) ((aT cpu r opn m).evs.flatMap aN) 73 11:: .blk PD ((aT cpu r opn m).cells kX c76) 85:: .row (.slice AO ((aT cpu r opn m).evs.length) AP) ((aT cpu r opn m).evs.length) ((aT cpu r opn m).evs.flatMap aN) 73 11:: .blk g13 #[vB 1,vB cpu,vI 0,vI 0,.slice jd ((aJ (r.take m0)).length) c59] 85:: .row (.slice jd ((aJ (r.take m0)).length) c59) ((aJ (r.take m0)).length) ((aJ (r.take m0)).flatMap aN) 73 11:: .row (.slice Gi ((q++[(⟨aT cpu r opn m,kX,c76⟩:Hb)]).length) Gj) ((q++[(⟨aT cpu r opn m,kX,c76⟩:Hb)]).length) ((q++[(⟨aT cpu r opn m,kX,c76⟩:Hb)]).flatMap hbL) 85 5:: .blk g6 #[vI opn] 3:: .blk g5 #[.slice X r.length cc] 65:: .blk g4 #[vB cpu] 5::bG 73 q)) 9 [1,0,2,3,4,5,6,7,8]) rfl
  replace HM:Mem w _ (.blk PD ((aT cpu r opn m).cells kX c76) 85:: .row (.slice AO ((aT cpu r opn m).evs.length) AP) ((aT cpu r opn m).evs.length) ((aT cpu r opn m).evs.flatMap aN) 73 11:: .blk g13 #[vB 1,vB cpu,vI 0,vI 0,.slice jd ((aJ (r.take m0)).length) c59] 85:: .row (.slice jd ((aJ (r.take m0)).length) c59) ((aJ (r.take m0)).length) ((aJ (r.take m0)).flatMap aN) 73 11:: .row (.slice Gi ((q++[(⟨aT cpu r opn m,kX,c76⟩:Hb)]).length) Gj) ((q++[(⟨aT cpu r opn m,kX,c76⟩:Hb)]).length) ((q++[(⟨aT cpu r opn m,kX,c76⟩:Hb)]).flatMap hbL) 85 5:: .blk g6 #[vI opn] 3:: .blk g5 #[.slice X r.length cc] 65:: .blk g4 #[vB cpu] 5::bG 73 (q++[(⟨aT cpu r opn m,kX,c76⟩:Hb)])):=HM
  refine Jb Z HM ((JG∘JR∘Jc O6∘Jp 1∘Jc O6∘Jl∘Jc O6∘Jl∘Jy (v:= .slice (if r.length=m then X else X.map (·.add (m*12))) (r.length-m) (r.length-m)) (h:=by exact Yl.q7d gJ (i:=m) (j:=r.length) (q:=r.length) rfl rfl rfl rfl rfl om om om)∘Jo (.slice (if r.length=m then X else X.map (·.add (m*12))) ((r.drop m).length) ((r.drop m).length)) (by rw [List.length_drop])∘JW yM aZ) fun YG=>(qI∘Jq) fun a Z HM=>?_)
  exact ⟨_,(by rw [List.length_drop];omega),(r.drop m),if r.length=m then X else X.map (·.add (m*12)),(r.drop m).length,(q++[(⟨aT cpu r opn m,kX,c76⟩:Hb)]),(f-1),Gi,Gj,Rd.Wj zn hX om (Nat.le_refl _),Nat.le_refl _,qB.drop m,by rw [List.length_drop];omega,by rw [List.length_drop];omega,by rw [←hq,hst,List.map_append,List.append_assoc];rfl,Gl,by rw [List.length_append,List.length_drop,List.length_singleton];omega,rfl,Z.sub kr,HM.pt 8 [4,5,6,7]⟩
 intro a Z HM
 have Bo:=of_decide_eq_false fD
 have hq2:q.map Hb.b=dX cpu opn lim l.length l:=by rw [←hq,NR om,List.append_nil]
 refine Jb Z HM ((JF∘JX∘JG∘JP∘Jp 3∘Jj∘JZ) fun a Z HM=>?_)
 replace HM:=HM.pt (fs':=(.row (.slice Ao q.length co) q.length (q.flatMap hbL) 85 5::bG 73 q)) 4 [0]
 exact jC rfl Z rfl rfl (by rw [V6 om hgood om,←hq2];exact Jt HM hco)
theorem qpz (cpu:Nat) (A:Option Addr) (n c:Nat) (l:List It) (opn:Int) (hok:∀x∈l,x.Ok) (ho:aM opn) (w:World) (hr:Rd w w.heap.size 12 A n (l.flatMap bV)) (hln:l.length=n) (hn:n≤1000000):
    Calls Tryz.prog 123 #[vB cpu,.slice A n c,vI opn] w (Is w (.bool (uI cpu l opn))):=by
 refine (Co Tryz.func123 73) ?_
 refine (JP∘Jp 1∘Jr∘Jp 1∘Jq) fun a Z HM=>?_
 replace HM:=HM.nil 242 11
 refine Jb Z HM ((JG∘JQ∘JP∘Jp 3) (Ji (fun gG=>?_) fun gG=>?_))
 ·
  exact (Jp 3∘fJ∘Jj∘JT∘JP∘Jp 1∘Jj∘JZ∘bB) fun HM=>by exact ⟨by rw [Wd om],HM.below⟩
 refine (Jp 3∘fJ∘Jj) (Ji (fun fK=>?_) fun fK=>?_)
 ·
  exact (JT∘JP∘Jp 1∘Jj∘JZ∘bB) fun HM=>by exact ⟨by rw [Wd om],HM.below⟩
 refine (JF∘aF∘JP∘Jp 2∘aR∘Jj∘JQ∘JP∘Jp 1∘Jj∘JB) fun a Z HM=>?_
 refine qc (fun mS aS wS=>∃(k:Nat) (u:Int) (Ak:Option Addr) (ck:Nat),(k≤n)∧(k≤ck)∧(0≤u)∧(u≤281474976710656)∧(oV cpu opn l=oV cpu u (l.drop k))∧mS=n-k∧Fr aS 73 [] [(9,vI k),(8,vI u),(17,.bool false),(7,.slice Ak k ck),(6,.bool false),(0,vB cpu),(1,.slice A n c),(2,vI opn)]∧Mem w wS [.row (.slice Ak k ck) k ((aJ (l.take k)).flatMap aN) 242 11]) (m:=n-0) ⟨0,opn,none,0,Nat.zero_le _,Nat.le_refl _,by omega,by omega,rfl,rfl,Z.sub kr,HM.pk [0]⟩ ?_
 clear Z HM;rintro mS a w_ ⟨k,u,Ak,ck,hk,hck,hu0,hu1,hup,rfl,Z,HM⟩
 refine Jb Z HM ((JQ∘JP∘Jp 2∘Jl∘Jp 1∘bT∘Jj) (Ju (fun fM=>?_) fun fM=>?_))
 ·
  intro a Z HM
  have lF:=of_decide_eq_true fM
  have ajs:k<n:=by omega
  have hat:=quc (cpu:=cpu) (s:=u) (l:=l) (k:=k) It.zero om
  refine Jb Z HM ((JT∘aF∘JQ∘JB∘JQ∘JP∘Jp 2) ?_)
  repeat (first|clear Z|clear HM)
  intro a Z HM
  obtain ⟨gA,oA,rfl,_⟩:=hr.qm (Nat.lt_of_le_of_lt (Nat.zero_le _) (show k<n from by omega)) de
  refine Jb Z HM ((Jy (h:=by exact Yl.ix gA oA k 12 rfl rfl rfl)∘Jf 11∘Jy (v:=vI ((l.getD k It.zero).before)) (h:=by exact Yl.qn rfl rfl kr (fun _ h=>(h.old hr).partAt zn (k:=k) (j:=11) (x:=(l.getD k It.zero)) ((getD_at It.zero (k:=k) (by first|omega|(simp;omega)))) rfl))∘Jp 2) (Ji (fun hd31=>?_) fun hd31=>?_))
  ·
   exact (Jv 19 [(50,.bool true)]∘aI∘Jj∘JT∘JP∘Jp 1∘Jj∘JZ∘bB) fun HM=>by exact ⟨by rw [NT (by rw [hup,hat,decide_eq_false om,Bool.false_and])],HM.below⟩
  refine (Jp 2∘Jy (h:=by exact Yl.ix gA oA k 12 rfl rfl rfl)∘Jf 11∘Jy (v:=vI ((l.getD k It.zero).before)) (h:=by exact Yl.qn rfl rfl kr (fun _ h=>(h.old hr).partAt zn (k:=k) (j:=11) (x:=(l.getD k It.zero)) ((getD_at It.zero (k:=k) (by first|omega|(simp;omega)))) rfl))∘Jp 2∘Jo (vI (281474976710656-u)) (by exact oH ⟨by omega,by omega⟩)∘Jp 3) (Ji (fun AV=>?_) fun AV=>?_)
  ·
   exact (Jv 9 [(50,.bool true)]∘aI∘Jj∘JT∘JP∘Jp 1∘Jj∘JZ∘bB) fun HM=>by exact ⟨by rw [NT (by rw [hup,hat,decide_eq_false om,Bool.false_and])],HM.below⟩
  refine (Jp 2∘Jy (h:=by exact Yl.ix gA oA k 12 rfl rfl rfl)∘Jf 0∘Jf 2∘Jy (v:=vB ((l.getD k It.zero).e.cpu)) (h:=by exact Yl.qn rfl rfl kr (fun _ h=>(h.old hr).partAt zn (k:=k) (j:=2) (x:=(l.getD k It.zero)) ((getD_at It.zero (k:=k) (by first|omega|(simp;omega)))) rfl))∘Jp 3∘aI∘Jj) (Ju (fun fD=>?_) fun fD=>?_)
  ·
   intro a Z HM
   have Bo:=bne_iff_ne.1 fD
   exact Jb Z HM ((JT∘JP∘Jp 1∘Jj∘JZ∘bB) fun HM=>by exact ⟨by rw [NT (by rw [hup,hat,decide_eq_false om,Bool.false_and])],HM.below⟩)
  intro a Z HM
  have Bo:=bne_eq_false_iff_eq.1 fD
  have Qy:oV cpu opn l=oV cpu (u+(l.getD k It.zero).before) (l.drop (k+1)):=by rw [hup,hat,decide_eq_true ⟨by omega,by omega,by omega⟩,Bool.true_and]
  refine Jb Z HM ((JF∘aF∘JP∘Jp 3∘Jy (h:=by exact Yl.ix gA oA k 12 rfl rfl rfl)∘Jf 11∘Jy (v:=vI ((l.getD k It.zero).before)) (h:=by exact Yl.qn rfl rfl kr (fun _ h=>(h.old hr).partAt zn (k:=k) (j:=11) (x:=(l.getD k It.zero)) ((getD_at It.zero (k:=k) (by first|omega|(simp;omega)))) rfl))∘Jp 1∘Jo (vI (u+((l.getD k It.zero).before))) (by exact oH ⟨by omega,by omega⟩)∘Jp 1∘aI∘Jj∘JR∘Jp 3∘Jy (h:=by exact Yl.ix gA oA k 12 rfl rfl rfl)∘Jf 0∘Jy (v:= .agg ((l.getD k It.zero).e.cells)) (h:=by exact Yl.qg rfl rfl ⟨kr,kr⟩ rfl (fun _ h=>(h.old hr).Wm zn (k:=k) (j:=0) (m:=11) (x:=(l.getD k It.zero)) ((getD_at It.zero (k:=k) (by first|omega|(simp;omega)))) rfl))∘JU xI (l.getD k It.zero).e.cells) fun w64 g64=>(JD (aN (l.getD k It.zero).e) 1 (fun _ _=>dO) xI (hr:=by exact fun HM=>HM.aU (i:=0) (n:=1) (size:=11) rfl rfl) (h1:=by exact zf _)) fun w65 A65 c65 Qz=>fun a Z HM=>?_)
  rw [show ((aJ (l.take k)).flatMap aN)++(aN (l.getD k It.zero).e)=(aJ (l.take (k+1))).flatMap aN from by rw [NV om]] at HM
  refine Jb Z HM ((Jp 1∘aI∘Jj∘JR∘Jp 1∘cK 1∘Jp 1∘aY∘Jq) fun a Z HM=>?_)
  exact ⟨_,om,k+1,(u+(l.getD k It.zero).before),A65,c65,by omega,Qz,by omega,by omega,Qy,rfl,Z.sub kr,HM.pk [1]⟩
 intro a Z HM
 have lF:=of_decide_eq_false fM
 have hkn:k=n:=by omega
 have hut:oV cpu opn l=true:=by rw [hup,List.drop_of_length_le om];rfl
 replace HM:=HM.aV (i:=0) (n':=n) (ys:=(aJ l).flatMap aN) rfl om (by rw [hkn,List.take_of_length_le om])
 replace Z:=Z.sp 7 (.slice Ak n ck) rfl (by rw [hkn])
 refine Jb Z HM ((JF∘JX∘JG∘JP∘Jp 1∘JL (h:=by exact fun HM=>(KJ Ak n ck (aJ l) (Wo hok) _ (HM.rd (i:=0) rfl) om (by rw [CV];exact hln)))) ?_)
 rintro HM _ OT ⟨rfl,hbw⟩
 refine ⟨_,rfl,_,HM.call hbw,?_⟩
 exact (Jp 1∘Jx∘Jx∘Jp 2∘aI∘Jr∘Jp 3∘bT∘Jj∘JZ∘bB) fun HM=>by exact ⟨by rw [qx8 om hut];congr 2;rw [Bool.eq_iff_iff,beq_iff_eq,decide_eq_true_eq];omega,HM.below⟩
theorem Zh (A:Option Addr) (n c:Nat) (l:List It) (w:World) (hr:Rd w w.heap.size 12 A n (l.flatMap bV)) (hln:l.length=n) (hn:n≤1000000):
    Calls Tryz.prog 59 #[.slice A n c] w fun r w'=>(∃A c,r= .returned (.slice A n c)∧w'.ownsRow w.heap.size 244 12 (.slice A n c) n (l.flatMap bV)∧n≤c)∧Below w.heap.size w w':=by
 refine (dh Tryz.func59 22) ?_
 refine (JP∘Jp 1∘Jr∘Jp 1∘Jq) fun a Z HM=>?_
 replace HM:=HM.nil 244 12
 refine Jb Z HM ((JG∘JQ∘JP∘Jp 1∘Jl∘Jp 1∘Jj∘JB) fun a Z HM=>?_)
 refine qc (fun mS aS wS=>∃(k:Nat) (Ak:Option Addr) (ck:Nat),(k≤n)∧(k≤ck)∧mS=n-k∧Fr aS 22 [] [(8,vI k),(7,vI n),(6,.slice A n c),(3,.slice Ak k ck),(2,vN)]∧Mem w wS [.row (.slice Ak k ck) k ((l.take k).flatMap bV) 244 12]) (m:=n-0) ⟨0,none,0,Nat.zero_le _,Nat.le_refl _,rfl,Z.sub kr,HM.pk [0]⟩ ?_
 clear Z HM;rintro mS a w_ ⟨k,Ak,ck,hk,hck,rfl,Z,HM⟩
 refine Jb Z HM ((JP∘Jp 1∘Jj∘JQ) (Ju (fun iT=>?_) fun iT=>?_))
 ·
  intro a Z HM
  have rT:=of_decide_eq_true iT
  have qM:k<n:=by omega
  refine Jb Z HM ((JT∘aF∘JQ∘JB∘JP) ?_)
  repeat (first|clear Z|clear HM)
  intro a Z HM
  obtain ⟨gA,oA,rfl,_⟩:=hr.qm (Nat.lt_of_le_of_lt (Nat.zero_le _) (show k<n from by omega)) de
  refine Jb Z HM ((Jy (h:=by exact Yl.ix gA oA k 12 rfl rfl rfl)∘Jy (v:= .agg ((l.getD k It.zero).cells)) (h:=by exact Yl.qg rfl rfl jc rfl (fun _ h=>(h.old hr).q8 zn ((getD_at It.zero (k:=k) (by first|omega|(simp;omega))))))∘JA #[vI 0,vI 0,vB 0,vB 0,vI 0,vI 0,vI 0,vI 0,vI 0,vQ 0,vI 0,vI 0]) fun w5 g5=>(JV jc aZ (h1:=by exact CZ (l.getD k It.zero))) fun Al=>(aY∘Jj∘JR∘Jp 1∘Jf 0∘Jy (v:= .agg #[vI ((l.getD k It.zero).e.seq),vI ((l.getD k It.zero).e.time),vB ((l.getD k It.zero).e.cpu),vB ((l.getD k It.zero).e.kind),vI ((l.getD k It.zero).e.task),vI ((l.getD k It.zero).e.group),vI ((l.getD k It.zero).e.to),vI ((l.getD k It.zero).e.weight),vI ((l.getD k It.zero).e.ticks),vQ ((l.getD k It.zero).e.mask),vI ((l.getD k It.zero).e.got)]) (h:=by exact Yl.qg rfl rfl ⟨kr,kr⟩ rfl (fun _ h=>h.sub (i:=0) rfl 0 rfl))∘Jg 11 O0∘Jy (v:= .agg #[vI ((l.getD k It.zero).e.seq),vI ((l.getD k It.zero).e.time),vB ((l.getD k It.zero).e.cpu),vB ((l.getD k It.zero).e.kind),vI ((l.getD k It.zero).e.task),vI ((l.getD k It.zero).e.group),vI ((l.getD k It.zero).e.to),vI ((l.getD k It.zero).e.weight),vI ((l.getD k It.zero).e.ticks),vQ ((l.getD k It.zero).e.mask),vI ((l.getD k It.zero).e.got),vI ((l.getD k It.zero).before)]) (h:=by exact Yl.build (vs:=[(0,.agg #[vI ((l.getD k It.zero).e.seq),vI ((l.getD k It.zero).e.time),vB ((l.getD k It.zero).e.cpu),vB ((l.getD k It.zero).e.kind),vI ((l.getD k It.zero).e.task),vI ((l.getD k It.zero).e.group),vI ((l.getD k It.zero).e.to),vI ((l.getD k It.zero).e.weight),vI ((l.getD k It.zero).e.ticks),vQ ((l.getD k It.zero).e.mask),vI ((l.getD k It.zero).e.got)]),(1,vI ((l.getD k It.zero).before))]) rfl kr kr)∘JU NU #[vI ((l.getD k It.zero).e.seq),vI ((l.getD k It.zero).e.time),vB ((l.getD k It.zero).e.cpu),vB ((l.getD k It.zero).e.kind),vI ((l.getD k It.zero).e.task),vI ((l.getD k It.zero).e.group),vI ((l.getD k It.zero).e.to),vI ((l.getD k It.zero).e.weight),vI ((l.getD k It.zero).e.ticks),vQ ((l.getD k It.zero).e.mask),vI ((l.getD k It.zero).e.got),vI ((l.getD k It.zero).before)]) fun qJ g18=>(JD (bV (l.getD k It.zero)) 2 (fun _ _=>fF) NU (hr:=by exact fun HM=>HM.aU (i:=0) (n:=1) (size:=12) rfl rfl) (h1:=by exact CZ _)) fun uJ gL c19 hc19=>fun a Z HM=>?_)
  rw [show ((l.take k).flatMap bV)++(bV (l.getD k It.zero))=(l.take (k+1)).flatMap bV from by rw [CY It.zero (by omega:k<l.length),List.flatMap_append,List.flatMap_singleton]] at HM
  refine Jb Z HM ((Jp 1∘aI∘Jj∘JR∘cK 1∘Jp 1∘aR∘Jq) fun a Z HM=>?_)
  exact ⟨_,om,k+1,gL,c19,by omega,hc19,rfl,Z.sub kr,HM.pk [2]⟩
 intro a Z HM
 have rT:=of_decide_eq_false iT
 have hkn:k=n:=by omega
 exact Jb Z HM ((JF∘JX∘JG∘JP∘Jp 2∘aR∘Jj∘JZ∘bB) fun HM=>by exact ⟨⟨Ak,ck,by rw [hkn],by have h:=HM.own (i:=0) rfl;rw [hkn,List.take_of_length_le om] at h;exact h,by omega⟩,HM.below⟩)
theorem Ww:SI Tryz.prog 255 6:=⟨by kernel_rfl,by kernel_rfl⟩
theorem Wx (W w:World) (gb lp B:Nat) (A:Option Addr) (c:Nat) (l:List Nat) (Inv:List Nat→List Fact→Prop) (Stop:List Fact→Prop) (F0:List Fact) (hL:aL B W) (hB:B≤W.heap.size) (hr:Rd W W.heap.size 1 A l.length (l.map B8)) (hc:l.length≤c) (hl:∀b∈l,b<256) (hn:l.length≤100000000)
    (hy:N7 W lp Inv Stop) (hI0:Inv l F0) (HM:Mem W w (.blk gb #[.slice A l.length c] 30::F0)):
    Calls Tryz.prog 178 (.func (.yield lp) #[] #[]:: [vP gb 0]).toArray w (qyg W Inv Stop):=by
 refine uT Tryz.func178 [.func (.yield lp) #[] #[],vP gb 0] [(0,.func (.yield lp) #[] #[]),(1,vP gb 0)] fun a Z=>?_
 refine Jb Z HM ((JB) fun a Z HM=>?_)
 refine qc (fun mS aS wS=>∃(rest:List Nat) (X:Option Addr) (cc:Nat) (F:List Fact),(Inv rest F)∧(Rd W W.heap.size 1 X rest.length (rest.map B8))∧(rest.length≤cc)∧(∀b∈rest,b<256)∧(rest.length≤l.length)∧mS=rest.length∧Fr aS 29 [] [(0,.func (.yield lp) #[] #[]),(1,vP gb 0)]∧Mem W wS (.blk gb #[.slice X rest.length cc] 30::F)) (m:=l.length) ⟨l,A,c,F0,hI0,hr,hc,hl,Nat.le_refl _,rfl,Z.sub kr,HM.pt 1 [0]⟩ ?_
 clear Z HM;rintro mS a w_ ⟨rest,X,cc,F,hI,hX,hcc,hrl,hrn,rfl,Z,HM⟩
 refine Jb Z HM ((JQ∘JP∘Jc O0∘Jl∘Jp 1∘aY∘Jj) (Ju (fun jO=>?_) fun jO=>?_))
 ·
  intro a Z HM
  have pR:=of_decide_eq_true jO
  have hne:0<rest.length:=by omega
  obtain ⟨b,m,er,hq⟩:∃b m er,bg rest=(b,m,er):=⟨_,_,_,rfl⟩
  refine Jb Z HM ((JT∘aF∘JB∘JP∘Jc O0∘JK (h:=by exact fun HM=>Nz X rest.length cc rest B _ (hL.mem HM hB) (HM.le hB) (HM.old hX) hcc rfl om hrl hq)) fun kU c11 mF lQ=>(Jp 1∘Jx∘Jx∘Jx∘JA #[vB 0,vB 0,vI 0,vI 0,vN]) fun w3 g3=>(JV aA aZ (h1:=by exact zy _ _ _)) fun Au=>(Jp 2∘Jj∘JQ) fun a Z HM=>?_)
  refine wp_seq ?_
  refine SS (i:=5) ?_
  refine Jb Z HM ((Jp 1∘Jy (v:= .agg (b.cells kU c11)) (h:=by exact Yl.qg rfl rfl aA rfl (fun _ h=>qb (h.blk (i:=0) rfl)))∘Jp 1∘Jy (v:= .agg #[vB b.kind,vB b.cpu,vI b.lost,vI b.next,.slice kU b.evs.length c11,vI m]) (h:=by exact Yl.build (vs:=[(0,.agg (b.cells kU c11)),(1,vI m)]) rfl kr kr)∘Jp 1∘Jq) fun a Z HM=>?_)
  refine SV Z (i:=5) (vs:=[.agg #[vB b.kind,vB b.cpu,vI b.lost,vI b.next,.slice kU b.evs.length c11,vI m],vI er]) rfl rfl rfl rfl rfl rfl de (hy rest F _ _ kU c11 b m er hI hq hne hrl lQ (Mem.q5s (es:=[.blk g3 (b.cells kU c11) 85,.blk gb #[.slice X rest.length cc] 30]) (HM.pt (fs':=(.row (.slice kU b.evs.length c11) b.evs.length (b.evs.flatMap aN) 73 11:: .blk g3 (b.cells kU c11) 85:: .blk gb #[.slice X rest.length cc] 30::F)) 3 [1,0,2]))) qko ?_
  clear Z HM;rintro v pK a ⟨F2,HM,(⟨he,hv,hI2⟩|⟨he,hv,hS2⟩)⟩ Z<;>injection hv with hv<;>subst hv
  ·
   replace HM:Mem W pK (.blk g3 (b.cells kU c11) 85:: .blk gb #[.slice X rest.length cc] 30::F2):=Mem.Em (es:=[.blk g3 (b.cells kU c11) 85,.blk gb #[.slice X rest.length cc] 30]) HM
   have hq0:=hq;rw [he] at hq0;have hof:=CQ hrl hq0;have vF:=hof.least;have hml:=hof.len;have hst:(rest.drop m).length<rest.length:=by rw [List.length_drop];omega
   refine Jb Z HM ((Jp 4∘Jo (.bool false) (by rw [he];simp)∘Jp 1∘aI∘Jq∘JF∘aF∘JR∘Jc O1∘Jp 1∘Jy (v:= .slice (if cc=m then X else X.map (·.add (m*1))) (rest.length-m) (cc-m)) (h:=by exact Yl.sliceFrom aB (j:=m) rfl rfl rfl om)∘Jo (.slice (if cc=m then X else X.map (·.add (m*1))) ((rest.drop m).length) (cc-m)) (by rw [List.length_drop])∘JW dO aZ) fun rX=>(uV∘Jq) fun a Z HM=>?_)
   exact ⟨_,hst,(rest.drop m),if cc=m then X else X.map (·.add (m*1)),cc-m,F2,hI2,Rd.q7l hX hml hcc,by rw [List.length_drop];omega,zj hrl m,by omega,rfl,Z.sub kr,HM.pt 2 [1]⟩
  ·
   replace HM:Mem W pK (.blk g3 (b.cells kU c11) 85:: .blk gb #[.slice X rest.length cc] 30::F2):=Mem.Em (es:=[.blk g3 (b.cells kU c11) 85,.blk gb #[.slice X rest.length cc] 30]) HM
   refine Jb Z HM ((Jp 5∘aI∘Jq∘JT∘JZ) fun a Z HM=>?_)
   exact yQ rfl Z (⟨_,rfl,F2,Mem.Md [.blk g3 (b.cells kU c11) 85,.blk gb #[.slice X rest.length cc] 30] HM,.inr hS2⟩)
 intro a Z HM
 have pR:=of_decide_eq_false jO
 have hr0:rest=[]:=List.length_eq_zero_iff.1 om
 refine Jb Z HM ((JF∘JX) ?_)
 repeat (first|clear Z|clear HM)
 intro a Z HM
 subst hr0
 exact wW rfl Z (⟨_,rfl,F,Mem.Md [.blk gb #[.slice X ([]:List Nat).length cc] 30] HM,.inl hI⟩)
theorem Wy (A:Option Addr) (n c:Nat) (w:World):
    Calls Tryz.prog 132 #[.slice A n c] w fun r w'=>∃g,r= .returned (.func (.func 178) #[] #[vP g 0])∧Mem w w' [.blk g #[.slice A n c] 30]:=by
 refine (dh Tryz.func132 4) ?_
 exact (JP∘uX) fun w1 g1=>(Jp 1∘Jr∘Jy (h:=by exact Yl.makeFunc (fst:=[]) (caps:=[vP g1 0]) rfl rfl rfl)∘Jp 1∘aR∘Jj∘JZ∘bB) fun HM=>by exact ⟨_,rfl,HM⟩
theorem q48 (A:Option Addr) (c:Nat) (l:List Nat) (BB:Nat) (w:World) (hL:aL BB w) (hB:BB≤w.heap.size) (hr:Rd w w.heap.size 1 A l.length (l.map B8)) (hc:l.length≤c) (hl:∀b∈l,b<256) (hn:l.length≤100000000):
    Calls Tryz.prog 72 #[.slice A l.length c] w (Is w (.tuple #[vI ((ku l).1.length:Int),vI ((ku l).2.1:Int),vI ((ku l).2.2:Int)])):=by
 refine Mf (vs:=[.slice A l.length c]) Tryz.func72 rfl rfl kr (σ0:=[(0,.slice A l.length c)]) rfl ?_
 intro a Z
 have HM:=Mem.start w
 refine Jb Z HM ((JP∘JA #[vI 0]) fun w2 g2=>(JA #[vI 0]) fun w3 g3=>(JA #[vI 0]) fun w4 g4=>(Jj∘JQ∘JP∘Jp 1∘Jl∘Jp 1∘aY∘Jj) (Ji (fun jD=>?_) fun jD=>?_))
 ·
  refine (JT∘JP∘JW fF aZ) fun EB=>(JW dO aZ) fun pJ=>(JW aZ aZ) fun MK=>(Jj∘JZ) fun a Z HM=>?_
  refine En ?_
  exact bE rfl Z (.cell1 (i:=2) Z HM rfl rfl kr rfl) (.cell1 (i:=1) Z HM rfl rfl kr rfl) (.cell1 (i:=0) Z HM rfl rfl kr rfl) (⟨by rw [show ku l=([],0,3) from if_pos om];rfl,HM.below⟩)
 refine (JF∘aF∘JP∘JA #[vI 0]) fun w5 g5=>(JA #[vI 0]) fun w6 g6=>(JW dO aZ) fun vC=>(JW aZ aZ) fun rX=>(Jj∘JQ∘JP∘Jp 1∘JL (h:=by exact fun HM=>Wy A l.length c _)) ?_
 rintro HM _ nD ⟨gp,rfl,hm⟩
 refine ⟨_,rfl,_,HM.join hm,?_⟩
 refine (aR∘Jj∘JB) fun a Z HM=>?_
 refine Me Z HM (fun F=>∃(k:Nat) (p:Nat) (f:Nat),(([]:List Nat).length≤f)∧((qf l.length l).1.length=k+(qf f ([]:List Nat)).1.length)∧((qf l.length l).2.1=p+(qf f ([]:List Nat)).2.1)∧((qf l.length l).2.2=(qf f ([]:List Nat)).2.2)∧(k+([]:List Nat).length≤l.length)∧(p+([]:List Nat).length≤l.length)∧F=[.blk g6 #[vI p] 3,.blk g5 #[vI k] 3,.blk g4 #[vI 0] 27,.blk g3 #[vI 0] 3,.blk g2 #[vI 0] 3]) (fun c F=>c= .ret∧∃(k:Nat) (p:Nat) (e:Nat),((qf l.length l).1.length=k)∧((qf l.length l).2.1=p)∧((qf l.length l).2.2=e)∧F=[.blk g6 #[vI p] 3,.blk g5 #[vI k] 3,.blk g4 #[vI e] 27,.blk g3 #[vI p] 3,.blk g2 #[vI k] 3]) rfl kr ?_ ?_ ?_
 ·
  clear Z HM;intro lp B rec w1 hrec HM
  have hy:N7 w lp (fun rest F=>∃(k:Nat) (p:Nat) (f:Nat),(rest.length≤f)∧((qf l.length l).1.length=k+(qf f rest).1.length)∧((qf l.length l).2.1=p+(qf f rest).2.1)∧((qf l.length l).2.2=(qf f rest).2.2)∧(k+rest.length≤l.length)∧(p+rest.length≤l.length)∧F=(.obj lp (.loop (rec .ready none)):: .obj B (.deferred (some [])):: [.blk g6 #[vI p] 3,.blk g5 #[vI k] 3,.blk g4 #[vI 0] 27,.blk g3 #[vI 0] 3,.blk g2 #[vI 0] 3])) (fun F=>∃(k:Nat) (p:Nat) (e:Nat),((qf l.length l).1.length=k)∧((qf l.length l).2.1=p)∧((qf l.length l).2.2=e)∧F=(.obj lp (.loop (rec .done (some .ret))):: .obj B (.deferred (some [])):: [.blk g6 #[vI p] 3,.blk g5 #[vI k] 3,.blk g4 #[vI e] 27,.blk g3 #[vI p] 3,.blk g2 #[vI k] 3])):=by
   rintro rest F fr w3 A9 c9 b m er ⟨k,p,f,hf,hk,hp,he,hkn,hpn,rfl⟩ hq hne hrl hcb HM
   replace HM:=HM.pt (fs':=(.obj lp (.loop (rec .ready none)):: .row (.slice A9 b.evs.length c9) b.evs.length (b.evs.flatMap aN) 73 11:: .obj B (.deferred (some [])):: .blk g6 #[vI p] 3:: .blk g5 #[vI k] 3:: .blk g4 #[vI 0] 27:: .blk g3 #[vI 0] 3:: .blk g2 #[vI 0] 3::fr)) 8 [1,0,2,3,4,5,6,7]
   refine Ma (v1:= .agg #[vB (b.kind:Int),vB (b.cpu:Int),vI b.lost,vI b.next,.slice A9 b.evs.length c9,vI m]) (v2:=vI er) hrec HM de de fun a Z=>?_
   refine wpIn_seq ?_
   refine qp ?_
   refine Jb Z HM ((JA #[vB 0,vB 0,vI 0,vI 0,vN,vI 0]) fun w7 g7=>(JV Ww aZ) fun Ay=>(Jq) fun a Z HM=>?_)
   refine qp ?_
   refine Jb Z HM ((Jp 1∘Jq) fun a Z HM=>?_)
   refine ⟨(.blk g7 #[vB (b.kind:Int),vB (b.cpu:Int),vI b.lost,vI b.next,.slice A9 b.evs.length c9,vI m] 255:: .row (.slice A9 b.evs.length c9) b.evs.length (b.evs.flatMap aN) 73 11:: .obj B (.deferred (some [])):: .blk g6 #[vI p] 3:: .blk g5 #[vI k] 3:: .blk g4 #[vI 0] 27:: .blk g3 #[vI 0] 3:: .blk g2 #[vI 0] 3::fr),HM.pt (fs':=(.obj lp (.loop (rec .ready none)):: .blk g7 #[vB (b.kind:Int),vB (b.cpu:Int),vI b.lost,vI b.next,.slice A9 b.evs.length c9,vI m] 255:: .row (.slice A9 b.evs.length c9) b.evs.length (b.evs.flatMap aN) 73 11:: .obj B (.deferred (some [])):: .blk g6 #[vI p] 3:: .blk g5 #[vI k] 3:: .blk g4 #[vI 0] 27:: .blk g3 #[vI 0] 3:: .blk g2 #[vI 0] 3::fr)) 9 [1,0,2,3,4,5,6,7,8],fun w4 HM=>?_⟩
   refine wpIn_block ?_
   refine wpIn_seq ?_
   refine wpIn_seq ?_
   refine qp ?_
   refine Jb Z HM ((Jp 2∘aR∘Jq) (Ju (fun iF=>?_) fun iF=>?_))
   ·
    intro a Z HM
    have fK:=bne_iff_ne.1 iF
    have hg:=Kh (f:=f) om hne hq om
    rw [hg] at hk hp he
    simp only [List.length_nil,Nat.add_zero] at hk hp
    refine Ej Z rfl ?_
    refine wpIn_seq ?_
    refine SL HM (.obj lp (.loop (rec .busy none)):: .blk g7 #[vB (b.kind:Int),vB (b.cpu:Int),vI b.lost,vI b.next,.slice A9 b.evs.length c9,vI m] 255:: .row (.slice A9 b.evs.length c9) b.evs.length (b.evs.flatMap aN) 73 11:: .obj B (.deferred (some [])):: .blk g6 #[vI p] 3:: .blk g5 #[vI k] 3:: .blk g4 #[vI 0] 27:: .blk g3 #[vI 0] 3::fr) 9 [0,1,2,3,4,5,6,7] [4,5] fun HM HS=>?_
    refine ap Z (fun _=>HS) [2] (bf 6 [2]) [(20,vI er)] fun a Z=>?_
    refine jA Z HS 0 5 fun a Z=>?_
    refine jA Z HS 1 4 fun a Z=>?_
    refine s_on Z 3 rfl (gu Z HM 8 fun ahP HM=>?_)
    refine aK (HM.pt 9 [0,1,2,3,4,5,6,7]) (fun HS=>?_)
    refine s_on Z 4 rfl (gu Z HM 7 fun Pw HM=>?_)
    refine fZ kr ?_
    refine s_on Z 5 rfl (gu Z HM 6 fun Gh HM=>?_)
    refine fZ kr ?_
    refine qd kr ?_
    refine wpIn_ret ?_
    refine ⟨(.obj B (.deferred (some [])):: .blk g6 #[vI p] 3:: .blk g5 #[vI k] 3:: .blk g4 #[vI er] 27:: .blk g3 #[vI p] 3:: .blk g2 #[vI k] 3::fr),HM.pt (fs':=(.obj lp (.loop (rec .busy none)):: .obj B (.deferred (some [])):: .blk g6 #[vI p] 3:: .blk g5 #[vI k] 3:: .blk g4 #[vI er] 27:: .blk g3 #[vI p] 3:: .blk g2 #[vI k] 3::fr)) 9 [0,3,4,5,6,7,8],fun w5 HM=>?_⟩
    exact ⟨(.obj lp (.loop (rec .done (some .ret))):: .obj B (.deferred (some [])):: .blk g6 #[vI p] 3:: .blk g5 #[vI k] 3:: .blk g4 #[vI er] 27:: .blk g3 #[vI p] 3:: .blk g2 #[vI k] 3:: []),HM,.inr ⟨om,rfl,k,p,er,hk,hp,he,rfl⟩⟩
   intro a Z HM
   have fK:=bne_eq_false_iff_eq.1 iF
   have he0:er=0:=by omega
   have hq0:=hq
   rw [he0] at hq0
   have hg:=NZ (f:=f) om hne hq0
   have hof:=CQ hrl hq0
   have vF:=hof.least
   have hml:=hof.len
   rw [hg] at hk hp he
   dsimp only at hk hp he
   rw [List.length_cons] at hk
   refine El Z rfl ?_
   refine wpIn_skip ?_
   refine wpIn_seq ?_
   refine qp ?_
   refine Jb Z HM ((Jc O5∘cK 1∘JW Cn aZ) fun ahQ=>(SF∘Jq) fun a Z HM=>?_)
   refine qp ?_
   refine Jb Z HM ((Jc O4∘Jg 5 O1∘Ja∘JW yL aZ) fun YA=>(uV∘Jq) fun a Z HM=>?_)
   refine ⟨(.obj B (.deferred (some [])):: .blk g6 #[vI (p+m:Nat)] 3:: .blk g5 #[vI (k+1:Nat)] 3:: .blk g4 #[vI 0] 27:: .blk g3 #[vI 0] 3:: .blk g2 #[vI 0] 3::fr),HM.pt (fs':=(.obj lp (.loop (rec .busy none)):: .obj B (.deferred (some [])):: .blk g6 #[vI (p+m:Nat)] 3:: .blk g5 #[vI (k+1:Nat)] 3:: .blk g4 #[vI 0] 27:: .blk g3 #[vI 0] 3:: .blk g2 #[vI 0] 3::fr)) 9 [0,3,4,5,6,7,8],fun w5 HM=>?_⟩
   exact ⟨(.obj lp (.loop (rec .ready none)):: .obj B (.deferred (some [])):: .blk g6 #[vI (p+m:Nat)] 3:: .blk g5 #[vI (k+1:Nat)] 3:: .blk g4 #[vI 0] 27:: .blk g3 #[vI 0] 3:: .blk g2 #[vI 0] 3:: []),HM,.inl ⟨om,rfl,k+1,p+m,(f-1),by rw [List.length_drop];omega,by omega,by omega,he,by rw [List.length_drop];omega,by rw [List.length_drop];omega,rfl⟩⟩
  refine (Wx w w1 gp lp BB A c l _ _ _ hL hB hr hc hl om hy ⟨0,0,l.length,Nat.le_refl _,(Nat.zero_add _).symm,(Nat.zero_add _).symm,rfl,by omega,by omega,rfl⟩ (HM.pk [2,0,1,3,4,5,6,7])).mono ?_
  rintro r w2 ⟨v,rfl,F2,eP,(⟨k,p,f,hf,hk,hp,he,hkn,hpn,rfl⟩|⟨k,p,e,hk,hp,he,rfl⟩)⟩
  ·exact ⟨v,rfl,.inl ⟨_,⟨k,p,f,hf,hk,hp,he,hkn,hpn,rfl⟩,eP⟩⟩
  ·exact ⟨v,rfl,.inr ⟨.ret,_,⟨rfl,k,p,e,hk,hp,he,rfl⟩,eP⟩⟩
 ·
  clear Z HM;rintro B a w6 _ ⟨k,p,f,hf,hk,hp,he,hkn,hpn,rfl⟩ Z HM
  have hz:=NY (f:=f) (l:=[]) rfl
  rw [hz] at hk hp he
  simp only [List.length_nil,Nat.add_zero] at hk hp
  refine wp_seq ?_
  refine Jb Z HM ((Vs (.t (.t (.t (.t (.t (.f .n)))))) [3,4]) fun yY=>(Vc 0 O2∘Vc 1 O1) fun a Z HM HS=>?_)
  refine s_on Z 2 rfl (gu Z HM 5 fun YB HM=>?_)
  refine aK (HM.pk [0,1,2,3,4]) (fun HS=>?_)
  refine s_on Z 3 rfl (gu Z HM 4 fun YC HM=>?_)
  refine fZ kr ?_
  refine s_on Z 4 rfl (gu Z HM 3 fun YD HM=>?_)
  refine fZ kr ?_
  refine qd kr ?_
  refine Jb Z HM ((JZ) fun a Z HM=>?_)
  refine Cr Z HM (i:=0) rfl fun a w7 Z HM=>?_
  exact bE rfl Z (.cell1 (i:=5) Z HM rfl rfl kr rfl) (.cell1 (i:=4) Z HM rfl rfl kr rfl) (.cell1 (i:=3) Z HM rfl rfl kr rfl) (⟨by rw [show ku l=qf l.length l from if_neg om,hk,hp,he];rfl,HM.below⟩)
 ·
  clear Z HM;rintro _ B a w6 _ ⟨rfl,k,p,e,hk,hp,he,rfl⟩ Z HM
  refine wp_ret ?_
  refine Cr Z HM (i:=0) rfl fun a w7 Z HM=>?_
  exact bE rfl Z (.cell1 (i:=5) Z HM rfl rfl kr rfl) (.cell1 (i:=4) Z HM rfl rfl kr rfl) (.cell1 (i:=3) Z HM rfl rfl kr rfl) (⟨by rw [show ku l=qf l.length l from if_neg om,hk,hp,he];rfl,HM.below⟩)
def bD (bs:List Bk):List Nat:=bs.flatMap Bk.out
def cO:List Bk→Nat
 |[]=>0
 |b::t=>if b.err=0 then cO t else b.err
def q9 (bs:List Bk):List Nat×Nat:=if cO bs≠0 then ([],cO bs) else if 524288<(bD bs).length then ([],3) else (bD bs,0)
theorem N8 {bs:List Bk} (h:cO bs≠0):q9 bs=([],cO bs):=by unfold q9;rw [if_pos h]
theorem N9 {bs:List Bk} (h:cO bs=0) (h2:524288<(bD bs).length):q9 bs=([],3):=by unfold q9;rw [if_neg om,if_pos h2]
theorem Kj {bs:List Bk} (h:cO bs=0) (h2:¬524288<(bD bs).length):q9 bs=(bD bs,0):=by unfold q9;rw [if_neg om,if_neg h2]
theorem Wz (bs:List Bk):(q9 bs).1.length≤524288:=by
 unfold q9
 split
 ·exact Nat.zero_le _
 ·split
  ·exact Nat.zero_le _
  ·dsimp only;omega
theorem Oa {q:List Hb} {k:Nat} (h:k<q.length):cO ((q.drop k).map Hb.b)=if (q.getD k Hb.zero).b.err=0 then cO ((q.drop (k+1)).map Hb.b) else (q.getD k Hb.zero).b.err:=by
 rw [NW Hb.zero h,List.map_cons,cO]
theorem Ob {q:List Hb} {k:Nat} (h:k<q.length):bD ((q.take (k+1)).map Hb.b)=bD ((q.take k).map Hb.b)++(q.getD k Hb.zero).b.out:=by
 unfold bD
 rw [CY Hb.zero h,List.map_append,List.flatMap_append]
 simp
theorem q2a (bs:List Bk):(bD bs).length≤4096*bs.length:=by
 unfold bD
 induction bs with
 |nil=>exact Nat.zero_le _
 |cons b t ih=>
  rw [List.flatMap_cons,List.length_append,List.length_cons]
  have:=E8 b
  omega
theorem qyj {q:List Hb} (k:Nat):(bD ((q.take k).map Hb.b)).length≤4096*q.length:=by
 have h:=q2a ((q.take k).map Hb.b)
 rw [List.length_map,List.length_take] at h
 have:min k q.length≤q.length:=Nat.min_le_right _ _
 omega
theorem WA (a b:List Bk):bD (a++b)=bD a++bD b:=by unfold bD;rw [List.flatMap_append]
def qu (out:List Nat) (bs:List Bk):List Nat×Nat:=if (q9 bs).2≠0 then (out,(q9 bs).2) else if 524288<out.length+(q9 bs).1.length then (out,3) else (out++(q9 bs).1,0)
theorem quf {out:List Nat} {bs:List Bk} (h:(q9 bs).2≠0):qu out bs=(out,(q9 bs).2):=by unfold qu;rw [if_pos h]
theorem qra {out:List Nat} {bs:List Bk} (h:(q9 bs).2=0) (h2:524288<out.length+(q9 bs).1.length):qu out bs=(out,3):=by unfold qu;rw [if_neg om,if_pos h2]
theorem qyk {out:List Nat} {bs:List Bk} (h:(q9 bs).2=0) (h2:¬524288<out.length+(q9 bs).1.length):qu out bs=(out++(q9 bs).1,0):=by unfold qu;rw [if_neg om,if_neg h2]
theorem WB {out:List Nat} {bs:List Bk} (h:out.length≤524288):(qu out bs).1.length≤524288:=by
 unfold qu
 split
 ·exact h
 ·split
  ·exact h
  ·dsimp only;rw [List.length_append];omega
def cZ (next:Int):Bk:=⟨2,0,0,next,[]⟩
theorem Kk {next:Int} (h:aM next):(cZ next).Ok:=⟨by show 2<256;decide,by show 0<256;decide,by show aM 0;unfold aM;decide,h,by intro e he;cases he⟩
def fB (out:List Nat) (lim:Int) (cpu:Nat) (l:List It) (opn:Int):List Nat×Nat×Nat:=
 if (bH cpu l opn lim).2≠0 then (out,0,(bH cpu l opn lim).2)
 else if (qu out (bH cpu l opn lim).1).2≠0 then (out,0,(qu out (bH cpu l opn lim).1).2)
 else ((qu out (bH cpu l opn lim).1).1,(bH cpu l opn lim).1.length,0)
theorem q2b {out:List Nat} {lim:Int} {cpu:Nat} {l:List It} {opn:Int} (h:(bH cpu l opn lim).2≠0):fB out lim cpu l opn=(out,0,(bH cpu l opn lim).2):=by unfold fB;rw [if_pos h]
theorem q2c {out:List Nat} {lim:Int} {cpu:Nat} {l:List It} {opn:Int} (h:(bH cpu l opn lim).2=0) (h2:(qu out (bH cpu l opn lim).1).2≠0):fB out lim cpu l opn=(out,0,(qu out (bH cpu l opn lim).1).2):=by unfold fB;rw [if_neg om,if_pos h2]
theorem q4z {out:List Nat} {lim:Int} {cpu:Nat} {l:List It} {opn:Int} (h:(bH cpu l opn lim).2=0) (h2:(qu out (bH cpu l opn lim).1).2=0):fB out lim cpu l opn=((qu out (bH cpu l opn lim).1).1,(bH cpu l opn lim).1.length,0):=by unfold fB;rw [if_neg om,if_neg om]
theorem qo0 {out:List Nat} {bs:List Bk} (h:(qu out bs).2≠0):(qu out bs).1=out:=by
 unfold qu at h⊢
 split
 ·rfl
 ·split
  ·rfl
  ·rename_i h1 h2
   rw [if_neg h1,if_neg h2] at h
   exact absurd rfl h
def nextR (l:List Nat) (p:Nat):Bk×Nat×Nat:=if p=l.length then (Bk.zero,0,6) else bg (l.drop p)
def readAll (l:List Nat):List Bk×Nat:=if (ku l).2.2≠0 then ([],(ku l).2.2) else ((ku l).1,0)
theorem WC {l:List Nat} (h:524288<l.length):readAll l=([],3):=by unfold readAll ku;rw [if_pos h];rfl
theorem WE {l:List Nat} {e:Nat} (h:¬524288<l.length) (he:(qf l.length l).2.2=e) (hen:e≠0):readAll l=([],e):=by unfold readAll ku;rw [if_neg h,if_pos om,he]
theorem qug {l:List Nat} (h:¬524288<l.length) (he:(qf l.length l).2.2=0):readAll l=((qf l.length l).1,0):=by unfold readAll ku;rw [if_neg h,if_neg om]
section
variable {W w:World} {fs:List Fact} {t bt:TypeId}
theorem Kl {w w':World} {p:List Nat×Nat} {er:Nat} {n:Int} (hb:Below w.heap.size w w') (he:p=([],er)) (hn:n=er):za w p.2 p.1 (.returned (.tuple #[vN,vI n])) w':=by
 subst he;subst hn
 exact ⟨⟨none,0,rfl,World.ownsRow_nil _ _ _ _,Nat.le_refl _⟩,hb⟩
theorem WG {p:List Bk×Nat} {er:Nat} {n:Int} (h:Mem W w fs) (he:p=([],er)) (hn:n=er):rV t bt W p.2 p.1 (.returned (.tuple #[vN,vI n])) w:=by
 subst he;exact rW h hn
end
section
variable {W w w':World} {fs gs:List Fact} {f g1 g2:Fact}
theorem Mem.q7g (h:Mem W w (f::(gs++(g1::g2::fs)))):Mem W w (f::g1::g2::(gs++fs)):=by
 refine h.perm (List.Perm.cons f ?_)
 have h1:(gs++(g1::g2::fs)).Perm (g1::(gs++(g2::fs))):=List.perm_middle
 exact h1.trans (List.Perm.cons g1 List.perm_middle)
end
def jS (W:World) (tw:TypeId) (g:Nat) (lim:Int) (out:List Nat) (fs:List Fact) (v:Value) (r:Ending) (w':World):Prop:=
 r= .returned v∧∃A c,out.length≤c∧Mem W w' (.blk g #[vI lim,.slice A out.length c] tw:: .row (.slice A out.length c) out.length (out.map B8) 5 1::fs)
theorem jS.as {W w':World} {tw:TypeId} {g:Nat} {lim:Int} {out out':List Nat} {fs:List Fact} {v v':Value} {r:Ending} (h:jS W tw g lim out fs v r w') (h1:out=out') (h2:v=v'):jS W tw g lim out' fs v' r w':=by subst h1;subst h2;exact h
theorem WH {out R:List Nat} {bs:List Bk} {er:Nat} (h:q9 bs=(R,er)) (he:er≠0):qu out bs=(out,er):=by have h1:=quf (out:=out) (bs:=bs) (by rw [h];exact he);rw [h] at h1;exact h1
theorem Km {out R:List Nat} {bs:List Bk} {er:Nat} (h:q9 bs=(R,er)) (he:er=0) (h2:524288<out.length+R.length):qu out bs=(out,3):=qra (by rw [h];exact he) (by rw [h];exact h2)
theorem Oc {out R:List Nat} {bs:List Bk} {er:Nat} (h:q9 bs=(R,er)) (he:er=0) (h2:¬524288<out.length+R.length):qu out bs=(out++R,0):=by have h1:=qyk (out:=out) (bs:=bs) (by rw [h];exact he) (by rw [h];exact h2);rw [h] at h1;exact h1
theorem Kn {W w':World} {tw:TypeId} {g c:Nat} {lim n:Int} {A:Option Addr} {out:List Nat} {er:Nat} {fs:List Fact} {p:List Nat×Nat} (h:p=(out,er)) (hn:n=er) (hc:out.length≤c) (hm:Mem W w' (.blk g #[vI lim,.slice A out.length c] tw:: .row (.slice A out.length c) out.length (out.map B8) 5 1::fs)):jS W tw g lim p.1 fs (vI (p.2:Int)) (.returned (vI n)) w':=by
 subst h;subst hn
 exact ⟨rfl,A,c,hc,hm⟩
theorem Od {W w':World} {tw:TypeId} {g c k:Nat} {lim n m:Int} {A:Option Addr} {out:List Nat} {er:Nat} {fs:List Fact} {p:List Nat×Nat×Nat} (h:p=(out,k,er)) (hm':m=k) (hn:n=er) (hc:out.length≤c) (hm:Mem W w' (.blk g #[vI lim,.slice A out.length c] tw:: .row (.slice A out.length c) out.length (out.map B8) 5 1::fs)):jS W tw g lim p.1 fs (.tuple #[vI (p.2.1:Int),vI (p.2.2:Int)]) (.returned (.tuple #[vI m,vI n])) w':=by
 subst h;subst hn;subst hm'
 exact ⟨rfl,A,c,hc,hm⟩
section
variable {W w w':World} {fs gs:List Fact} {f1 f2:Fact}
theorem Mem.drop2 (h:Mem W w (f1::f2::(gs++fs))):Mem W w (f1::f2::fs):=h.rz (List.Sublist.cons_cons _ (List.Sublist.cons_cons _ (List.sublist_append_right gs fs)))
theorem Mem.q7m (h:Mem W w []) (k:Mem w w' gs):Mem W w' gs:=by have h1:=h.join k;rwa [List.append_nil] at h1
end
theorem WI {out:List Nat} {lim:Int} {cpu:Nat} {l:List It} {opn:Int} {bs:List Bk} {e:Nat} (h:bH cpu l opn lim=(bs,e)) (he:e≠0):fB out lim cpu l opn=(out,0,e):=by have h1:=q2b (out:=out) (lim:=lim) (cpu:=cpu) (l:=l) (opn:=opn) (by rw [h];exact he);rw [h] at h1;exact h1
theorem Oe {out o2:List Nat} {lim:Int} {cpu:Nat} {l:List It} {opn:Int} {bs:List Bk} {e we:Nat} (h:bH cpu l opn lim=(bs,e)) (he:e=0) (h2:qu out bs=(o2,we)) (hw:we≠0):fB out lim cpu l opn=(o2,0,we):=by
 have h1:=q2c (out:=out) (lim:=lim) (cpu:=cpu) (l:=l) (opn:=opn) (by rw [h];exact he) (by rw [h,h2];exact hw)
 have h3:=qo0 (out:=out) (bs:=bs) (by rw [h2];exact hw)
 rw [h2] at h3
 rw [h,h2] at h1
 rw [h1]
 exact congrArg (·,0,we) h3.symm
theorem WJ {out o2:List Nat} {lim:Int} {cpu:Nat} {l:List It} {opn:Int} {bs:List Bk} {e we:Nat} (h:bH cpu l opn lim=(bs,e)) (he:e=0) (h2:qu out bs=(o2,we)) (hw:we=0):fB out lim cpu l opn=(o2,bs.length,0):=by
 have h1:=q4z (out:=out) (lim:=lim) (cpu:=cpu) (l:=l) (opn:=opn) (by rw [h];exact he) (by rw [h,h2];exact hw)
 rw [h,h2] at h1
 exact h1
theorem quh {l:List Nat} {b:Bk} {m er:Nat} (hl:∀x∈l,x<256) (h:bg l=(b,m,er)):m≤l.length:=by
 by_cases he:er=0
 ·subst he;exact (CQ hl h).len
 ·have:=(qxv h he).2;omega
theorem WK {l:List Nat} {p:Nat} {b:Bk} {m er:Nat} (hl:∀x∈l,x<256) (hp:p≤l.length) (h:nextR l p=(b,m,er)):p+m≤l.length:=by
 unfold nextR at h
 split at h
 ·injection h with _ h;injection h with h _;omega
 ·have:=quh (zj hl p) h
  rw [List.length_drop] at this
  omega
def WL (W:World) (tr:TypeId) (g p:Nat) (l:List Nat) (A:Option Addr) (c:Nat) (fs:List Fact) (q:Bk×Nat×Nat) (r:Ending) (w':World):Prop:=
 ∃A' c',r= .returned (.tuple #[.agg (q.1.cells A' c'),vI (q.2.2:Int)])∧q.1.evs.length≤c'∧Mem W w' (.row (.slice A' q.1.evs.length c') q.1.evs.length (q.1.evs.flatMap aN) 73 11:: .blk g #[.bool true,vI ((p+q.2.1:Nat):Int),.slice A l.length c] tr:: .row (.slice A l.length c) l.length (l.map B8) 5 1::fs)
theorem WM {W w':World} {tr:TypeId} {g p c c' m er:Nat} {l:List Nat} {A A':Option Addr} {fs:List Fact} {q:Bk×Nat×Nat} {b:Bk} (h:q=(b,m,er)) {n:Int} (hn:n=er) (hc:b.evs.length≤c') (hm:Mem W w' (.row (.slice A' b.evs.length c') b.evs.length (b.evs.flatMap aN) 73 11:: .blk g #[.bool true,vI ((p+m:Nat):Int),.slice A l.length c] tr:: .row (.slice A l.length c) l.length (l.map B8) 5 1::fs)):
  WL W tr g p l A c fs q (.returned (.tuple #[.agg (b.cells A' c'),vI n])) w':=by
 subst h;subst hn
 exact ⟨A',c',rfl,hc,hm⟩
theorem Rd.q5v {w:World} {B:Nat} {l:List Nat} (h:Rd w B 1 none l.length (l.map B8)):l=[]:=by
 rcases Nat.eq_zero_or_pos l.length with h0|h0
 ·exact List.length_eq_zero_iff.1 h0
 ·obtain ⟨a,ha,_⟩:=h.row h0
  cases ha
theorem aL.mem2 {B:Nat} {W w w':World} {fs gs:List Fact} (h:aL B w) (HW:Mem W w fs) (HM:Mem W w' gs) (hB:B≤W.heap.size):aL B w':=h.l7 fun p hp=>by
 rw [HM.below.cell om,HW.below.cell om]
theorem Mem.KP {W w:World} {a b:List Fact} {t:TypeId} {q:List Hb} (h:Mem W w (a++(bG t q++b))):fA w q:=h.Fb fun _ hf=>List.mem_append_right _ (List.mem_append_left _ hf)
theorem YH {cpu lim:Nat} {opn:Int} (hl:0<lim):∀(f:Nat) (l:List It),bQ cpu l opn→(∀b∈dX cpu opn lim f l,b.Ok∧b.evs.length≤l.length)∧(dX cpu opn lim f l).length≤l.length
 |0,l,_=>⟨fun b hb=>(by cases hb),Nat.zero_le _⟩
 | f + 1, l, h => by
  rcases Nat.eq_zero_or_pos l.length with h0|h0
  ·rw [NR h0];exact ⟨fun b hb=>(by cases hb),Nat.zero_le _⟩
  ·rw [NQ h0 om]
   obtain ⟨h1,h2,_⟩:=NP h hl h0
   obtain ⟨i1,i2⟩:=YH hl f _ (h.drop (gP cpu l opn lim))
   rw [List.length_drop] at i2
   refine ⟨fun b hb=>?_,?_⟩
   ·rcases List.mem_cons.1 hb with rfl|hb
    ·exact ⟨NK h _,by rw [pW h2];exact h2⟩
    ·have h3:=i1 b hb
     rw [List.length_drop] at h3
     exact ⟨h3.1,by omega⟩
   ·rw [List.length_cons,Nat.add_sub_cancel];omega
theorem PE {cpu:Nat} {l:List It} {opn lim:Int} {bs:List Bk} {ce:Nat} (bA:cpu<256) (hok:∀x∈l,x.Ok) (ho:aM opn) (h:bH cpu l opn lim=(bs,ce)):(∀b∈bs,b.Ok)∧(∀b∈bs,b.evs.length≤l.length)∧bs.length≤l.length+1:=by
 have nil:(∀b∈([]:List Bk),b.Ok)∧(∀b∈([]:List Bk),b.evs.length≤l.length)∧([]:List Bk).length≤l.length+1:=⟨fun b hb=>(by cases hb),fun b hb=>(by cases hb),Nat.zero_le _⟩
 unfold bH at h
 split at h
 ·injection h with h _;subst h;exact nil
 ·rename_i h1
  split at h
  ·injection h with h _;subst h;exact nil
  ·rename_i h2
   split at h
   ·injection h with h _
    subst h
    split
    ·exact nil
    ·refine ⟨fun b hb=>?_,fun b hb=>?_,by simp⟩
     ·rw [List.mem_singleton] at hb;subst hb
      exact ⟨by show 1<256;decide,bA,ho,by show aM 0;unfold aM;decide,fun e he=>by cases he⟩
     ·rw [List.mem_singleton] at hb;subst hb;exact Nat.zero_le _
   ·injection h with h _
    subst h
    have hG:=bQ.of om hok (show zo cpu l opn=true by simpa using h2)
    obtain ⟨i1,i2⟩:=YH (cpu:=cpu) (lim:=lim.toNat) (opn:=opn) om l.length l hG
    exact ⟨fun b hb=>(i1 b hb).1,fun b hb=>(i1 b hb).2,by omega⟩
def mY:Ev:={Ev.zero with seq:=9,time:=340,cpu:=2,kind:=6}
def Bq:List It:=[⟨mM,3⟩,⟨mY,0⟩]
theorem YQ:mY.Ok:=⟨⟨by decide,by decide⟩,⟨by decide,by decide⟩,by decide,by decide,⟨by decide,by decide⟩,⟨by decide,by decide⟩,⟨by decide,by decide⟩,⟨by decide,by decide⟩,⟨by decide,by decide⟩,by decide,⟨by decide,by decide⟩⟩
theorem YR:∀x∈Bq,x.Ok:=by
 intro x hx
 simp only [Bq,List.mem_cons,List.not_mem_nil,or_false] at hx
 rcases hx with rfl|rfl
 ·exact ⟨VE,by show aM 3;unfold aM;decide⟩
 ·exact ⟨YQ,by show aM 0;unfold aM;decide⟩
theorem sa1:bH 2 Bq 2 1=([⟨1,2,3,0,[mM]⟩,⟨1,2,2,0,[mY]⟩],0):=by decide+kernel
theorem sa2:bH 2 Bq 2 2=([⟨1,2,5,0,[mM,mY]⟩],0):=by decide+kernel
theorem sa3:bH 2 [] 0 1=([],0):=by decide+kernel
theorem sa4:bH 2 [] 2 1=([⟨1,2,2,0,[]⟩],0):=by decide+kernel
theorem sa5:qu [] [cZ 0]=([],107):=by decide+kernel
theorem sa6:qu [] [cZ 7]=(mO,0):=by decide+kernel
theorem sa7:ku (mO++[1])=([⟨2,0,0,7,[]⟩],13,100):=by decide+kernel
theorem sa8:nextR mO 0=(⟨2,0,0,7,[]⟩,13,0):=by decide+kernel
theorem sa9:nextR mO 13=(Bk.zero,0,6):=by decide+kernel
theorem q49:∀b∈mO++[1],b<256:=by decide
theorem Br {q:List Hb} {b:Bk} (h:q.map Hb.b=[b]):∃x,q=[x]∧x.b=b:=by
 cases q with
 |nil=>cases h
 |cons x r=>
  cases r with
  |nil=>injection h with h _;exact ⟨x,rfl,h⟩
  |cons y r=>injection h with _ h;cases h
theorem PN {q:List Hb} {b d:Bk} (h:q.map Hb.b=[b,d]):∃x y,q=[x,y]∧x.b=b∧y.b=d:=by
 cases q with
 |nil=>cases h
 |cons x r=>
  injection h with h1 h2
  obtain ⟨y,rfl,h3⟩:=Br h2
  exact ⟨x,y,rfl,h1,h3⟩
section
variable {W w:World} {a b c:List Fact} {t:TypeId} {q:List Hb}
theorem Mem.Qq (h:Mem W w (a++(c++(bG t q++b)))):fA w q:=h.Fb fun _ hf=>List.mem_append_right _ (List.mem_append_right _ (List.mem_append_left _ hf))
theorem Mem.q7i (h:Mem W w (a++(c++b))):Mem W w (a++b):=h.rz (List.Sublist.append_left (List.sublist_append_right c b) a)
end
instance Za:DecidableEq It:=fun ⟨a,b⟩ ⟨c,d⟩=>decidable_of_iff (a=c∧b=d) (by rw [It.mk.injEq])
theorem q2y (x y:It):nC Tryz.prog 4 75 (.agg x.cells) (.agg y.cells)=some (decide (x=y)):=by
 have h:nC Tryz.prog 4 75 (.agg x.cells) (.agg y.cells)=some (((x.e.seq==y.e.seq)&& ((x.e.time==y.e.time)&& (((x.e.cpu:Int)==y.e.cpu)&& (((x.e.kind:Int)==y.e.kind)&& ((x.e.task==y.e.task)&& ((x.e.group==y.e.group)&& ((x.e.to==y.e.to)&& ((x.e.weight==y.e.weight)&& ((x.e.ticks==y.e.ticks)&& (((x.e.mask:Int)==y.e.mask)&& ((x.e.got==y.e.got)&&true)))))))))))&& ((x.before==y.before)&&true)):=by kernel_rfl
 refine h.trans (congrArg some ?_)
 clear h
 obtain ⟨⟨a0,a1,a2,a3,a4,a5,a6,a7,a8,a9,I4⟩,a11⟩:=x
 obtain ⟨⟨b0,b1,b2,b3,b4,b5,b6,b7,b8,b9,b10⟩,b11⟩:=y
 rw [Bool.eq_iff_iff]
 simp only [Bool.and_eq_true,beq_iff_eq,decide_eq_true_eq,It.mk.injEq,Ev.mk.injEq,and_true]
 omega
structure kN where
 fin:Bool
 cpu:Nat
 A:Option Addr
 c:Nat
 l:List It
 opn:Int
 next:Int
def kN.zero:kN:=⟨false,0,none,0,[],0,0⟩
def kN.cells (x:kN):Array Value:= #[.bool x.fin,.int .u8 (x.cpu:Int),.slice x.A x.l.length x.c,.int .i64 x.opn,.int .i64 x.next]
def QE (x:kN):List Value:=x.cells.toList
theorem q5g (x:kN):(QE x).length=5:=rfl
theorem q60 (x:kN):∀v∈x.cells.toList,v.oneCell'=true:=by simp [kN.cells,Value.oneCell']
structure ng (W:World) (x:kN):Prop where
 cpu:x.cpu<256
 ok:∀y∈x.l,y.Ok
 opn:aM x.opn
 next:aM x.next
 hc:x.l.length≤x.c
 hm:x.c≤maxLen
 rd:Rd W W.heap.size 12 x.A x.l.length (x.l.flatMap bV)
def tZ (W:World) (lim:Int) (o2:List Nat) (fs:List Fact) (we:Nat) (r:Ending) (w':World):Prop:=
 ∃A c,r= .returned (.tuple #[.agg #[.int .i64 lim,.slice A o2.length c],.int .i64 (we:Int)])∧o2.length≤c∧Mem W w' (.row (.slice A o2.length c) o2.length (o2.map B8) 5 1::fs)
def BI (W:World) (lim:Int) (o2:List Nat) (fs:List Fact) (k we:Nat) (r:Ending) (w':World):Prop:=
 ∃A c,r= .returned (.tuple #[.agg #[.int .i64 lim,.slice A o2.length c],.int .i64 (k:Int),.int .i64 (we:Int)])∧o2.length≤c∧Mem W w' (.row (.slice A o2.length c) o2.length (o2.map B8) 5 1::fs)
section
variable {W w w':World} {c k er:Nat} {lim n m:Int} {A:Option Addr} {out:List Nat} {fs:List Fact} {f g:Fact}
theorem KX {p:List Nat×Nat} (h:p=(out,er)) (hn:n=er) (hc:out.length≤c) (hm:Mem W w' (.row (.slice A out.length c) out.length (out.map B8) 5 1::fs)):tZ W lim p.1 fs p.2 (.returned (.tuple #[.agg #[.int .i64 lim,.slice A out.length c],.int .i64 n])) w':=by
 subst h;subst hn
 exact ⟨A,c,rfl,hc,hm⟩
theorem QF {p:List Nat×Nat×Nat} (h:p=(out,k,er)) (hk:m=k) (hn:n=er) (hc:out.length≤c) (hm:Mem W w' (.row (.slice A out.length c) out.length (out.map B8) 5 1::fs)):BI W lim p.1 fs p.2.1 p.2.2 (.returned (.tuple #[.agg #[.int .i64 lim,.slice A out.length c],.int .i64 m,.int .i64 n])) w':=by
 subst h;subst hn;subst hk
 exact ⟨A,c,rfl,hc,hm⟩
theorem Mem.wm (HW:Mem W w (f::fs)) (HM:Mem w w' [g]):Mem W w' (g::fs):=
 (HW.join HM).rz (List.Sublist.cons_cons _ (List.sublist_cons_self _ _))
theorem hbx {a b:Nat} (h:a=b):((a:Int)==(b:Int))=true:=by subst h;simp
end
theorem q2z {out:List Nat} {lim:Int} {cpu:Nat} {l:List It} {opn:Int} (h:out.length≤524288):(fB out lim cpu l opn).1.length≤524288:=by
 unfold fB
 split
 ·exact h
 ·split
  ·exact h
  ·exact WB h
theorem q5h {q:List Hb} {k:Nat} (h:k<q.length) (h0:cO (q.map Hb.b)=cO ((q.drop k).map Hb.b)) (hz:(q.getD k Hb.zero).b.err≠0):cO (q.map Hb.b)=(q.getD k Hb.zero).b.err:=by rw [h0,Oa h,if_neg hz]
theorem q5i {q:List Hb} {k:Nat} (h:k<q.length) (h0:cO (q.map Hb.b)=cO ((q.drop k).map Hb.b)) (hz:(q.getD k Hb.zero).b.err=0):cO (q.map Hb.b)=cO ((q.drop (k+1)).map Hb.b):=by rw [h0,Oa h,if_pos hz]
theorem qzu {L:List Nat} {b:Bk} {m er:Nat} (hl:∀x∈L,x<256) (h:bg L=(b,m,er)) (he:er≠0):b=Bk.zero∧m=0:=by
 rw [←Nw hl] at h
 unfold jR at h
 split at h
 ·injection h with h1 h;injection h with h2 _;exact ⟨h1.symm,h2.symm⟩
 ·split at h
  ·injection h with _ h;injection h with _ h;exact absurd h.symm he
  ·injection h with h1 h;injection h with h2 _;exact ⟨h1.symm,h2.symm⟩
theorem Qh {f:Nat} {L:List Nat} {b:Bk} {t:List Bk} {P e:Nat} (h:qf f L=(b::t,P,e)):∃m,bg L=(b,m,0)∧0<L.length∧0<f∧m≤P∧qf (f-1) (L.drop m)=(t,P-m,e):=by
 cases f with
 |zero=>cases h
 | succ f =>
  rw [qf] at h
  split at h
  ·cases h
  ·rename_i h1
   split at h
   ·cases h
   ·rename_i h2
    obtain ⟨b',m,er,hq⟩:∃b m er,bg L=(b,m,er):=⟨_,_,_,rfl⟩
    rw [hq] at h h2
    dsimp only at h h2
    injection h with h3 h4
    injection h3 with h5 h6
    injection h4 with h7 h8
    subst h5
    refine ⟨m,by rw [hq,show er=0 by omega],by omega,by omega,by omega,?_⟩
    rw [Nat.add_sub_cancel,←h6,←h8,←h7,Nat.add_sub_cancel_left]
theorem q6y {f:Nat} {L:List Nat} {P e:Nat} (hl:∀x∈L,x<256) (hf:L.length≤f) (h:qf f L=([],P,e)):P=0∧((L.length=0∧e=0)∨(0<L.length∧e≠0∧bg L=(Bk.zero,0,e))):=by
 cases f with
 |zero=>
  injection h with _ h;injection h with h1 h2
  exact ⟨h1.symm,.inl ⟨by omega,h2.symm⟩⟩
 | succ f =>
  rw [qf] at h
  split at h
  ·rename_i h0
   injection h with _ h;injection h with h1 h2
   exact ⟨h1.symm,.inl ⟨h0,h2.symm⟩⟩
  ·rename_i h0
   split at h
   ·rename_i h2
    obtain ⟨b',m,er,hq⟩:∃b m er,bg L=(b,m,er):=⟨_,_,_,rfl⟩
    rw [hq] at h h2
    dsimp only at h h2
    injection h with _ h;injection h with h3 h4
    obtain ⟨rfl,rfl⟩:=qzu hl hq h2
    exact ⟨h3.symm,.inr ⟨by omega,by rw [←h4];exact h2,by rw [hq,h4]⟩⟩
   ·cases h
theorem q5a {l:List Nat} {p f:Nat} {b:Bk} {t:List Bk} {P e:Nat} (h:qf f (l.drop p)=(b::t,P,e)):∃m,nextR l p=(b,m,0)∧p<l.length∧0<f∧m≤P∧qf (f-1) (l.drop (p+m))=(t,P-m,e):=by
 obtain ⟨m,h1,h2,h3,h4,h5⟩:=Qh h
 rw [List.length_drop] at h2
 refine ⟨m,?_,by omega,h3,h4,?_⟩
 ·unfold nextR
  rw [if_neg om,h1]
 ·rw [←List.drop_drop];exact h5
def tL (e:Nat):Nat:=if e=0 then 6 else e
theorem qzv {l:List Nat} {p f P e:Nat} (hl:∀x∈l,x<256) (hp:p≤l.length) (hf:l.length-p≤f) (h:qf f (l.drop p)=([],P,e)):P=0∧nextR l p=(Bk.zero,0,tL e):=by
 obtain ⟨h0,h1⟩:=q6y (zj hl p) (by rw [List.length_drop];exact hf) h
 refine ⟨h0,?_⟩
 unfold nextR tL
 rw [List.length_drop] at h1
 rcases h1 with ⟨h1,h2⟩|⟨h1,h2,h3⟩
 ·rw [if_pos om,if_pos h2]
 ·rw [if_neg om,if_neg h2,h3]
theorem qvb {l:List Nat} (h:l.length≤6000):ku l=qf l.length l:=if_neg om
theorem q5b {q:List Hb} {k:Nat} (h:k<q.length):(q.map Hb.b).getD k Bk.zero=(q.getD k Hb.zero).b:=by
 rw [List.getD_eq_getElem?_getD,List.getElem?_map,List.getD_eq_getElem?_getD,List.getElem?_eq_getElem h]
 rfl
theorem q5c {bs:List Bk} {k:Nat} (h:k<bs.length):bs.drop k=bs.getD k Bk.zero::bs.drop (k+1):=NW Bk.zero h
theorem Y0:∀{f:Nat} {L:List Nat} {bs:List Bk} {P e:Nat},qf f L=(bs,P,e)→bs.length≤f
 |0,_,_,_,_,h=>by injection h with h _;subst h;exact Nat.le_refl _
 |f+1,L,[],_,_,_=>Nat.zero_le _
 |f+1,L,b::t,P,e,h=>by
  obtain ⟨m,_,_,_,_,h5⟩:=Qh h
  have:=Y0 h5
  rw [List.length_cons];omega
theorem qrb (A:Option Addr) (c:Nat) (l:List Nat) (BB:Nat) (w:World) (hL:aL BB w) (hB:BB≤w.heap.size) (hr:Rd w w.heap.size 1 A l.length (l.map B8)) (hc:l.length≤c) (hl:∀b∈l,b<256) (hn:l.length≤100000000):
    Calls Tryz.prog 71 #[.slice A l.length c] w (rV 73 85 w (readAll l).2 (readAll l).1):=by
 refine Mf (vs:=[.slice A l.length c]) Tryz.func71 rfl rfl kr (σ0:=[(0,.slice A l.length c)]) rfl ?_
 intro a Z
 have HM:=Mem.start w
 refine Jb Z HM ((JP∘JA #[vN]) fun w2 g2=>(JA #[vI 0]) fun w3 g3=>(Jj∘JQ∘JP∘Jp 1∘Jl∘Jp 1∘aY∘Jj) (Ji (fun rT=>?_) fun rT=>?_))
 ·
  refine (JT∘JP∘JW dO aZ) fun EB=>(JW aZ aZ) fun pJ=>(Jj∘JZ) fun a Z HM=>?_
  refine En ?_
  exact dP rfl Z (.cell1 (i:=1) Z HM rfl rfl kr rfl) (.cell1 (i:=0) Z HM rfl rfl kr rfl) (WG HM (WC om) rfl)
 refine (JF∘aF∘JP∘JA #[vN]) fun w4 g4=>(Jj∘JQ∘JP∘Jp 1∘JL (h:=by exact fun HM=>Wy A l.length c _)) ?_
 rintro HM _ mF ⟨gp,rfl,hm⟩
 refine ⟨_,rfl,_,HM.join hm,?_⟩
 refine (aR∘Jq) fun a Z HM=>?_
 replace HM:=HM.nil 85 5
 replace HM:Mem w _ (.row (vN) 0 [] 85 5:: .blk gp #[.slice A l.length c] 30:: .blk g4 #[vN] 51:: .blk g3 #[vI 0] 27:: .blk g2 #[vN] 51::bG 73 []):=HM
 refine Jb Z HM ((JG∘JB) fun a Z HM=>?_)
 refine Me Z HM (fun F=>∃(q:List Hb) (f:Nat) (Ao:Option Addr) (co:Nat),(([]:List Nat).length≤f)∧(q.map Hb.b++(qf f ([]:List Nat)).1=(qf l.length l).1)∧((qf l.length l).2.2=(qf f ([]:List Nat)).2.2)∧(q.length≤co)∧(q.length+([]:List Nat).length≤l.length)∧F=(.row (.slice Ao q.length co) q.length (q.flatMap hbL) 85 5:: .blk g4 #[.slice Ao q.length co] 51:: .blk g3 #[vI 0] 27:: .blk g2 #[vN] 51::bG 73 q)) (fun c F=>c= .ret∧∃(q:List Hb) (e:Nat),(e≠0)∧((qf l.length l).2.2=e)∧F=(.blk g3 #[vI e] 27:: .blk g2 #[vN] 51::bG 73 q)) rfl kr ?_ ?_ ?_
 ·
  clear Z HM;intro lp B rec w1 hrec HM
  have hy:N7 w lp (fun rest F=>∃(q:List Hb) (f:Nat) (Ao:Option Addr) (co:Nat),(rest.length≤f)∧(q.map Hb.b++(qf f rest).1=(qf l.length l).1)∧((qf l.length l).2.2=(qf f rest).2.2)∧(q.length≤co)∧(q.length+rest.length≤l.length)∧F=(.obj lp (.loop (rec .ready none)):: .obj B (.deferred (some []))::(.row (.slice Ao q.length co) q.length (q.flatMap hbL) 85 5:: .blk g4 #[.slice Ao q.length co] 51:: .blk g3 #[vI 0] 27:: .blk g2 #[vN] 51::bG 73 q))) (fun F=>∃(q:List Hb) (e:Nat),(e≠0)∧((qf l.length l).2.2=e)∧F=(.obj lp (.loop (rec .done (some .ret))):: .obj B (.deferred (some []))::(.blk g3 #[vI e] 27:: .blk g2 #[vN] 51::bG 73 q))):=by
   rintro rest F fr w3 A9 c9 b m er ⟨q,f,Ao,co,hf,hk,he,hco,kW,rfl⟩ hq hne hrl hcb HM
   replace HM:=HM.pt (fs':=(.obj lp (.loop (rec .ready none)):: .row (.slice A9 b.evs.length c9) b.evs.length (b.evs.flatMap aN) 73 11:: .obj B (.deferred (some [])):: .row (.slice Ao q.length co) q.length (q.flatMap hbL) 85 5:: .blk g4 #[.slice Ao q.length co] 51:: .blk g3 #[vI 0] 27:: .blk g2 #[vN] 51::(bG 73 q++(fr)))) 7 [1,0,2,3,4,5,6]
   refine Ma (v1:= .agg #[vB (b.kind:Int),vB (b.cpu:Int),vI b.lost,vI b.next,.slice A9 b.evs.length c9,vI m]) (v2:=vI er) hrec HM de de fun a Z=>?_
   refine wpIn_seq ?_
   refine qp ?_
   refine Jb Z HM ((JA #[vB 0,vB 0,vI 0,vI 0,vN,vI 0]) fun w5 g5=>(JV Ww aZ) fun Ay=>(Jq) fun a Z HM=>?_)
   refine qp ?_
   refine Jb Z HM ((Jp 1∘Jq) fun a Z HM=>?_)
   refine ⟨(.blk g5 #[vB (b.kind:Int),vB (b.cpu:Int),vI b.lost,vI b.next,.slice A9 b.evs.length c9,vI m] 255:: .row (.slice A9 b.evs.length c9) b.evs.length (b.evs.flatMap aN) 73 11:: .obj B (.deferred (some [])):: .row (.slice Ao q.length co) q.length (q.flatMap hbL) 85 5:: .blk g4 #[.slice Ao q.length co] 51:: .blk g3 #[vI 0] 27:: .blk g2 #[vN] 51::(bG 73 q++(fr))),HM.pt (fs':=(.obj lp (.loop (rec .ready none)):: .blk g5 #[vB (b.kind:Int),vB (b.cpu:Int),vI b.lost,vI b.next,.slice A9 b.evs.length c9,vI m] 255:: .row (.slice A9 b.evs.length c9) b.evs.length (b.evs.flatMap aN) 73 11:: .obj B (.deferred (some [])):: .row (.slice Ao q.length co) q.length (q.flatMap hbL) 85 5:: .blk g4 #[.slice Ao q.length co] 51:: .blk g3 #[vI 0] 27:: .blk g2 #[vN] 51::(bG 73 q++(fr)))) 8 [1,0,2,3,4,5,6,7],fun w4 HM=>?_⟩
   refine wpIn_block ?_
   refine wpIn_seq ?_
   refine wpIn_seq ?_
   refine qp ?_
   refine Jb Z HM ((Jp 2∘aR∘Jq) (Ju (fun eF=>?_) fun eF=>?_))
   ·
    intro a Z HM
    have iR:=bne_iff_ne.1 eF
    have hg:=Kh (f:=f) om hne hq om
    rw [hg] at he
    refine Ej Z rfl ?_
    refine wpIn_seq ?_
    refine qp ?_
    refine Jb Z HM ((Jp 1∘JW Iy aZ) fun rG=>(JW yM aZ) fun afx=>(kg∘Jq) fun a Z HM=>?_)
    refine wpIn_ret ?_
    refine ⟨(.obj B (.deferred (some [])):: .blk g3 #[vI er] 27:: .blk g2 #[vN] 51::(bG 73 q++(fr))),HM.pt (fs':=(.obj lp (.loop (rec .busy none)):: .obj B (.deferred (some [])):: .blk g3 #[vI er] 27:: .blk g2 #[vN] 51::(bG 73 q++(fr)))) 8 [0,3,6,7],fun w5 HM=>?_⟩
    exact ⟨(.obj lp (.loop (rec .done (some .ret))):: .obj B (.deferred (some [])):: .blk g3 #[vI er] 27:: .blk g2 #[vN] 51::bG 73 q),HM,.inr ⟨om,rfl,q,er,by omega,he,rfl⟩⟩
   intro a Z HM
   have iR:=bne_eq_false_iff_eq.1 eF
   have he0:er=0:=by omega
   have hq0:=hq
   rw [he0] at hq0
   have hg:=NZ (f:=f) om hne hq0
   have hof:=CQ hrl hq0
   have vF:=hof.least
   have hml:=hof.len
   rw [hg] at hk he
   dsimp only at hk he
   refine El Z rfl ?_
   refine wpIn_skip ?_
   refine qp ?_
   refine Jb Z HM ((Jc O5∘Jf 0∘Jy (v:= .agg #[vB b.kind,vB b.cpu,vI b.lost,vI b.next,.slice A9 b.evs.length c9]) (h:=by exact Yl.qg rfl rfl aA rfl (fun _ h=>h.sub (i:=1) rfl 0 rfl))∘JU sw #[vB b.kind,vB b.cpu,vI b.lost,vI b.next,.slice A9 b.evs.length c9]) fun pK g20=>(JD (hbL (⟨b,A9,c9⟩:Hb)) 5 (fun _ _=>Cn) sw (hr:=by exact fun HM=>HM.aU (i:=0) (n:=1) (size:=5) rfl rfl) (h1:=by exact zy _ _ _)) fun Az eU c21 hc21=>(JW yM aZ) fun Og=>(Ee∘Jq) fun a Z HM=>?_)
   have sD:q.length+1=(q++[(⟨b,A9,c9⟩:Hb)]).length:=by rw [List.length_append];rfl
   replace HM:=HM.aV (i:=5) (ys:=(q++[(⟨b,A9,c9⟩:Hb)]).flatMap hbL) rfl sD (by rw [List.flatMap_append,List.flatMap_cons,List.flatMap_nil,List.append_nil])
   rw [sD] at hc21
   replace HM:=HM.oK (i:=6) (ds:= #[.slice eU (q++[(⟨b,A9,c9⟩:Hb)]).length c21]) rfl (by rw [sD];try rfl)
   replace HM:=Mem.zY (a:=[.blk g20 #[vB b.kind,vB b.cpu,vI b.lost,vI b.next,.slice A9 b.evs.length c9] 85,.obj lp (.loop (rec .busy none)),.blk g5 #[vB (b.kind:Int),vB (b.cpu:Int),vI b.lost,vI b.next,.slice A9 b.evs.length c9,vI m] 255,.obj B (.deferred (some [])),.row (.slice eU ((q++[(⟨b,A9,c9⟩:Hb)]).length) c21) ((q++[(⟨b,A9,c9⟩:Hb)]).length) ((q++[(⟨b,A9,c9⟩:Hb)]).flatMap hbL) 85 5,.blk g4 #[.slice eU ((q++[(⟨b,A9,c9⟩:Hb)]).length) c21] 51,.blk g3 #[vI 0] 27,.blk g2 #[vN] 51]) (q:=q) (b:=fr) (HM.pt (fs':=(.row (.slice A9 b.evs.length c9) b.evs.length (b.evs.flatMap aN) 73 11:: .blk g20 #[vB b.kind,vB b.cpu,vI b.lost,vI b.next,.slice A9 b.evs.length c9] 85:: .obj lp (.loop (rec .busy none)):: .blk g5 #[vB (b.kind:Int),vB (b.cpu:Int),vI b.lost,vI b.next,.slice A9 b.evs.length c9,vI m] 255:: .obj B (.deferred (some [])):: .row (.slice eU ((q++[(⟨b,A9,c9⟩:Hb)]).length) c21) ((q++[(⟨b,A9,c9⟩:Hb)]).length) ((q++[(⟨b,A9,c9⟩:Hb)]).flatMap hbL) 85 5:: .blk g4 #[.slice eU ((q++[(⟨b,A9,c9⟩:Hb)]).length) c21] 51:: .blk g3 #[vI 0] 27:: .blk g2 #[vN] 51::(bG 73 q++(fr)))) 9 [3,0,1,2,4,5,6,7,8])
   replace HM:Mem w _ (.blk g20 #[vB b.kind,vB b.cpu,vI b.lost,vI b.next,.slice A9 b.evs.length c9] 85:: .obj lp (.loop (rec .busy none)):: .blk g5 #[vB (b.kind:Int),vB (b.cpu:Int),vI b.lost,vI b.next,.slice A9 b.evs.length c9,vI m] 255:: .obj B (.deferred (some [])):: .row (.slice eU ((q++[(⟨b,A9,c9⟩:Hb)]).length) c21) ((q++[(⟨b,A9,c9⟩:Hb)]).length) ((q++[(⟨b,A9,c9⟩:Hb)]).flatMap hbL) 85 5:: .blk g4 #[.slice eU ((q++[(⟨b,A9,c9⟩:Hb)]).length) c21] 51:: .blk g3 #[vI 0] 27:: .blk g2 #[vN] 51::(bG 73 (q++[(⟨b,A9,c9⟩:Hb)])++(fr))):=HM
   refine ⟨(.obj B (.deferred (some [])):: .row (.slice eU ((q++[(⟨b,A9,c9⟩:Hb)]).length) c21) ((q++[(⟨b,A9,c9⟩:Hb)]).length) ((q++[(⟨b,A9,c9⟩:Hb)]).flatMap hbL) 85 5:: .blk g4 #[.slice eU ((q++[(⟨b,A9,c9⟩:Hb)]).length) c21] 51:: .blk g3 #[vI 0] 27:: .blk g2 #[vN] 51::(bG 73 (q++[(⟨b,A9,c9⟩:Hb)])++(fr))),HM.pt (fs':=(.obj lp (.loop (rec .busy none)):: .obj B (.deferred (some [])):: .row (.slice eU ((q++[(⟨b,A9,c9⟩:Hb)]).length) c21) ((q++[(⟨b,A9,c9⟩:Hb)]).length) ((q++[(⟨b,A9,c9⟩:Hb)]).flatMap hbL) 85 5:: .blk g4 #[.slice eU ((q++[(⟨b,A9,c9⟩:Hb)]).length) c21] 51:: .blk g3 #[vI 0] 27:: .blk g2 #[vN] 51::(bG 73 (q++[(⟨b,A9,c9⟩:Hb)])++(fr)))) 8 [1,3,4,5,6,7],fun w5 HM=>?_⟩
   exact ⟨(.obj lp (.loop (rec .ready none)):: .obj B (.deferred (some [])):: .row (.slice eU ((q++[(⟨b,A9,c9⟩:Hb)]).length) c21) ((q++[(⟨b,A9,c9⟩:Hb)]).length) ((q++[(⟨b,A9,c9⟩:Hb)]).flatMap hbL) 85 5:: .blk g4 #[.slice eU ((q++[(⟨b,A9,c9⟩:Hb)]).length) c21] 51:: .blk g3 #[vI 0] 27:: .blk g2 #[vN] 51::bG 73 (q++[(⟨b,A9,c9⟩:Hb)])),HM,.inl ⟨om,rfl,(q++[(⟨b,A9,c9⟩:Hb)]),(f-1),eU,c21,by rw [List.length_drop];omega,by rw [←hk,List.map_append,List.append_assoc];rfl,he,hc21,by rw [List.length_append,List.length_drop,List.length_singleton];omega,rfl⟩⟩
  refine (Wx w w1 gp lp BB A c l _ _ _ hL hB hr hc hl om hy ⟨[],l.length,none,0,Nat.le_refl _,List.nil_append _,rfl,Nat.le_refl _,by simp,rfl⟩ (HM.pt 7 [3,0,1,2,4,5,6])).mono ?_
  rintro r w2 ⟨v,rfl,F2,eP,(⟨q,f,Ao,co,hf,hk,he,hco,kW,rfl⟩|⟨q,e,hen,he,rfl⟩)⟩
  ·exact ⟨v,rfl,.inl ⟨_,⟨q,f,Ao,co,hf,hk,he,hco,kW,rfl⟩,eP⟩⟩
  ·exact ⟨v,rfl,.inr ⟨.ret,_,⟨rfl,q,e,hen,he,rfl⟩,eP⟩⟩
 ·
  clear Z HM;rintro B a w6 _ ⟨q,f,Ao,co,hf,hk,he,hco,kW,rfl⟩ Z HM
  have hz:=NY (f:=f) (l:=[]) rfl
  rw [hz] at hk he
  dsimp only at hk he
  rw [List.append_nil] at hk
  refine Jb Z HM ((JG∘JP∘Jc O2∘JW yL aZ) fun oO=>(JW jm aZ) fun WO=>(kg∘Jj∘JZ) fun a Z HM=>?_)
  refine Cr Z HM (i:=0) rfl fun a w7 Z HM=>?_
  exact dP rfl Z (.cell1 (i:=4) Z HM rfl rfl kr rfl) (.cell1 (i:=3) Z HM rfl rfl kr rfl) (by rw [qug om he,←hk];exact Jt (HM.pt (fs':=(.row (.slice Ao q.length co) q.length (q.flatMap hbL) 85 5::bG 73 q)) 5 [1]) hco)
 ·
  clear Z HM;rintro _ B a w6 _ ⟨rfl,q,e,hen,he,rfl⟩ Z HM
  refine wp_ret ?_
  refine Cr Z HM (i:=0) rfl fun a w7 Z HM=>?_
  exact dP rfl Z (.cell1 (i:=2) Z HM rfl rfl kr rfl) (.cell1 (i:=1) Z HM rfl rfl kr rfl) (WG HM (WE om he hen) rfl)
theorem qrq (A:Option Addr) (c:Nat) (q:List Hb) (B:Nat) (w:World) (hL:aL B w) (hB:B≤w.heap.size) (hr:Rd w w.heap.size 5 A q.length (q.flatMap hbL)) (hQ:fA w q) (hok:∀h∈q,h.b.Ok) (hev:∀h∈q,h.b.evs.length≤1000000) (hn:q.length≤1000000):
    Calls Tryz.prog 47 #[.slice A q.length c] w (za w (q9 (q.map Hb.b)).2 (q9 (q.map Hb.b)).1):=by
 refine (dh Tryz.func47 41) ?_
 refine (JP∘Jp 2∘Jr∘Jp 1∘Jr∘Jp 1∘Jq) fun a Z HM=>?_
 replace HM:=HM.nil 5 1
 refine Jb Z HM ((JG∘JQ∘JP∘Jp 1∘Jl∘Jp 1∘Jj∘JB) fun a Z HM=>?_)
 refine qc (fun mS aS wS=>∃(k:Nat) (lg:Bool) (R:List Nat) (Ao:Option Addr) (co:Nat),(k≤q.length)∧(cO (q.map Hb.b)=cO ((q.drop k).map Hb.b))∧(lg=decide (524288<(bD ((q.take k).map Hb.b)).length))∧(lg=false→R=bD ((q.take k).map Hb.b))∧(R.length≤524288)∧(R.length≤co)∧mS=q.length-k∧Fr aS 41 [] [(12,vI k),(11,vI q.length),(10,.slice A q.length c),(5,.bool lg),(4,.slice Ao R.length co),(3,vI 0),(2,vN)]∧Mem w wS [.row (.slice Ao R.length co) R.length (R.map B8) 5 1]) (m:=q.length-0) ⟨0,false,[],none,0,Nat.zero_le _,by rw [List.drop_zero],rfl,by intro _;rfl,by simp,Nat.le_refl _,rfl,Z.sub kr,HM.pk [0]⟩ ?_
 clear Z HM;rintro mS a w_ ⟨k,lg,R,Ao,co,hk,her,Di,hR,hRl,hco,rfl,Z,HM⟩
 refine Jb Z HM ((JP∘Jp 1∘Jj∘JQ) (Ju (fun jV=>?_) fun jV=>?_))
 ·
  intro a Z HM
  have sV:=of_decide_eq_true jV
  have oz:k<q.length:=by omega
  have hat:=Oa oz
  have hoq:=congrArg List.length (Ob oz)
  rw [List.length_append] at hoq
  have hol:=E8 (q.getD k Hb.zero).b
  have htk:=qyj (q:=q) k
  refine Jb Z HM ((JT∘aF∘JQ∘JB∘JP) ?_)
  repeat (first|clear Z|clear HM)
  intro a Z HM
  obtain ⟨gA,oA,rfl,_⟩:=hr.qm (Nat.lt_of_le_of_lt (Nat.zero_le _) (show k<q.length from by omega)) de
  refine Jb Z HM ((Jy (h:=by exact Yl.ix gA oA k 5 rfl rfl rfl)∘Jy (v:= .agg ((q.getD k Hb.zero).b.cells (q.getD k Hb.zero).A (q.getD k Hb.zero).c)) (h:=by exact Yl.qg rfl rfl aA rfl (fun _ h=>(h.old hr).q8 nQ ((getD_at Hb.zero (k:=k) (by first|omega|(simp;omega))))))∘JA #[vB 0,vB 0,vI 0,vI 0,vN]) fun w7 g7=>(JV aA aZ (h1:=by exact zy _ _ _)) fun Fh=>(aY∘Jr∘Jy (v:= .agg ((q.getD k Hb.zero).b.cells (q.getD k Hb.zero).A (q.getD k Hb.zero).c)) (h:=by exact Yl.qg rfl rfl aA rfl (fun _ h=>qb (h.blk (i:=0) rfl)))∘JK (h:=by exact fun HM=>qxx (q.getD k Hb.zero).b (hok _ (q7 Hb.zero oz)) ((q.getD k Hb.zero).A) (q.getD k Hb.zero).c B _ (hL.mem HM hB) (HM.le hB) (HM.old (hQ.at oz)) (hev _ (q7 Hb.zero oz)) rfl rfl)) fun KO c18 qJ hc18=>(Jp 1∘Jx∘Jx∘Jp 2∘Jj∘JQ∘JP∘Jp 2∘aR∘Jj) (Ju (fun fM=>?_) fun fM=>?_))
  ·
   intro a Z HM
   have lF:=bne_iff_ne.1 fM
   have hE:cO (q.map Hb.b)=(q.getD k Hb.zero).b.err:=by rw [her,hat,if_neg om]
   exact Jb Z HM ((JT∘JP∘Jp 3∘Jj∘JZ∘bY) fun HM=>Kl HM.below (N8 (by rw [hE];omega)) (by rw [hE]))
  intro a Z HM
  have lF:=bne_eq_false_iff_eq.1 fM
  have hE:cO (q.map Hb.b)=cO ((q.drop (k+1)).map Hb.b):=by rw [her,hat,if_pos om]
  refine Jb Z HM ((JF∘aF∘JP∘Jp 2) (Ju (fun iI=>?_) fun iI=>?_))
  ·
   intro a Z HM
   have hlong:524288<(bD ((q.take k).map Hb.b)).length:=of_decide_eq_true (Di.symm.trans iI)
   refine Jb Z HM ((Jv 8 [(5,.bool true)]∘aY∘Jr∘Jp 2∘aR∘Jj∘JF∘aF∘JR∘cK 1∘Jp 1∘aR∘Jq) fun a Z HM=>?_)
   exact ⟨_,om,k+1,true,R,Ao,co,by omega,hE,(decide_eq_true om).symm,(by intro h;cases h),hRl,hco,rfl,Z.sub kr,HM.pk [2]⟩
  intro a Z HM
  have hlong:¬524288<(bD ((q.take k).map Hb.b)).length:=of_decide_eq_false (Di.symm.trans iI)
  have hRe:=hR iI
  have ah9:R.length=(bD ((q.take k).map Hb.b)).length:=by rw [hRe]
  refine Jb Z HM ((Jp 1∘Jl∘Jp 1∘Jl∘Ja∘Jp 3∘aI∘Jr∘Jp 2∘aR∘Jj) (Ju (fun iL=>?_) fun iL=>?_))
  ·
   intro a Z HM
   have hd34:=of_decide_eq_false ((Bool.not_eq_true' _).mp iL)
   replace Z:=Z.on 5 ((Bool.not_eq_true' _).mp iL)
   refine Jb Z HM ((JT∘JR∘Jp 2∘JD ((q.getD k Hb.zero).b.out.map B8) 2 (fun _ _=>fF) aB (hr:=by exact fun HM=>HM.rd (i:=0) rfl) (h1:=by exact zk _)) fun zR vo c37 vv=>fun a Z HM=>?_)
   rw [show (R.map B8)++((q.getD k Hb.zero).b.out.map B8)=(R++(q.getD k Hb.zero).b.out).map B8 from by rw [List.map_append]] at HM
   refine Jb Z HM ((Jp 1∘bT∘Jq) fun a Z HM=>?_)
   have tu:R.length+((q.getD k Hb.zero).b.out.length)=(R++(q.getD k Hb.zero).b.out).length:=by rw [List.length_append]
   replace HM:=HM.aV (i:=2) (ys:=(R++(q.getD k Hb.zero).b.out).map B8) rfl tu (rfl)
   rw [tu] at vv
   replace Z:=Z.sp 4 (.slice vo ((R++(q.getD k Hb.zero).b.out).length) c37) rfl (by rw [tu])
   refine Jb Z HM ((JG∘JR∘cK 1∘Jp 1∘aR∘Jq) fun a Z HM=>?_)
   exact ⟨_,om,k+1,false,(R++(q.getD k Hb.zero).b.out),vo,c37,by omega,hE,(decide_eq_false om).symm,(by intro _;rw [hRe,Ob oz]),(by rw [List.length_append];omega),vv,rfl,Z.sub kr,HM.pk [2]⟩
  intro a Z HM
  have hd34:=of_decide_eq_true ((Bool.not_eq_false' _).mp iL)
  replace Z:=Z.on 5 ((Bool.not_eq_false' _).mp iL)
  refine Jb Z HM ((JF∘aF∘JR∘cK 1∘Jp 1∘aR∘Jq) fun a Z HM=>?_)
  exact ⟨_,om,k+1,true,R,Ao,co,by omega,hE,(decide_eq_true om).symm,(by intro h;cases h),hRl,hco,rfl,Z.sub kr,HM.pk [2]⟩
 intro a Z HM
 have sV:=of_decide_eq_false jV
 have hkn:k=q.length:=by omega
 have hdn:cO (q.map Hb.b)=0:=by rw [her,List.drop_of_length_le om];rfl
 have htn:q.take k=q:=List.take_of_length_le om
 rw [htn] at Di hR
 refine Jb Z HM ((JF∘JX∘JG∘JQ∘JP∘Jp 1∘Jj) (Ju (fun gV=>?_) fun gV=>?_))
 ·
  intro a Z HM
  have hlong:524288<(bD (q.map Hb.b)).length:=of_decide_eq_true (Di.symm.trans gV)
  exact Jb Z HM ((JT∘JP∘Jp 2∘Jj∘JZ∘bY) fun HM=>Kl HM.below (N9 hdn hlong) rfl)
 intro a Z HM
 have hlong:¬524288<(bD (q.map Hb.b)).length:=of_decide_eq_false (Di.symm.trans gV)
 have hRe:=hR gV
 exact Jb Z HM ((JF∘aF∘JP∘Jp 3∘Jj∘JZ∘bY) fun HM=>by rw [Kj hdn hlong,←hRe];exact ⟨⟨Ao,co,rfl,HM.own (i:=0) rfl,hco⟩,HM.below⟩)
theorem YI (g:Nat) (lim:Int) (A:Option Addr) (n c:Nat) (w:World) (hg:w.heap[g]?=some (.cells #[vI lim,.slice A n c] 171 (0,0))):
    Calls Tryz.prog 125 #[vP g 0] w (Is w (.bool (lim==0))):=by
 refine (dh Tryz.func125 12) ?_
 exact (JP∘Jp 1∘Jr∘Jp 1∘Jy (v:= .bool false) (h:=by exact Yl.oI rfl rfl rfl)∘Jp 2∘Jn∘Jf 0∘Jy (v:=vI lim) (h:=by exact Yl.qn rfl rfl kr (fun _ h=>h.qy hg rfl))∘Jp 3∘aI∘Jj∘JZ) iX
theorem KQ (g:Nat) (lim:Int) (A:Option Addr) (n c:Nat) (w:World) (hg:w.heap[g]?=some (.cells #[vI lim,.slice A n c] 171 (0,0))) (hlim:lim≠0):
  Calls Tryz.prog 125 #[vP g 0] w (Is w (.bool false)):=by
 have h:=YI g lim A n c w hg
 rwa [beq_false_of_ne hlim] at h
theorem KR (w:World):Calls Tryz.prog 125 #[.pointer none] w (Is w (.bool true)):=by
 refine (dh Tryz.func125 12) ?_
 exact (JP∘Jp 1∘Jr∘Jp 1∘Jy (v:= .bool true) (h:=by exact Yl.oI rfl rfl rfl)∘Jv 8 [(2,.bool true)]∘aY∘Jj∘JZ) iX
theorem YJ (A:Option Addr) (c:Nat) (l:List Nat) (w:World) (hr:Rd w w.heap.size 1 A l.length (l.map B8)) (hn:l.length≤100000000):
    Calls Tryz.prog 128 #[.slice A l.length c] w (zh w l):=by
 refine (dh Tryz.func128 8) ?_
 refine (JP∘Jp 1∘Jj∘JQ∘JP∘Jp 1∘Jy (v:= .bool A.isNone) (h:=by exact Yl.q7j rfl rfl rfl)∘aR∘Jj) (Ju (fun hb4=>?_) fun hb4=>?_)
 ·
  repeat (first|clear Z|clear HM)
  intro a Z HM
  obtain rfl:A=none:=by cases A with|none=>rfl|some a=>cases hb4
  revert HM;revert a;repeat (first|clear Z|clear HM)
  intro a Z HM
  obtain rfl:l=[]:=hr.q5v
  exact Jb Z HM ((JT∘JP∘Jp 1∘Jj∘JZ∘bB) fun HM=>by exact ⟨⟨none,0,rfl,World.ownsRow_nil _ _ _ _,Nat.le_refl _⟩,HM.below⟩)
 refine (JF∘aF∘JP) fun a Z HM=>?_
 refine fo Z 0 rfl rfl ?_
 refine Cc Z HM rfl aB rfl de ?_
 clear Z HM;intro a w5 g5 Z HM
 exact Jb Z HM ((Jp 1∘JD (l.map B8) 0 (fun _ _=>aZ) aB (hr:=by exact fun HM=>HM.old hr) (h1:=by exact zk _)) fun w7 A7 c7 U7=>(Jp 1∘bT∘Jj∘JZ∘bB) fun HM=>by exact ⟨⟨A7,c7,by rw [Nat.zero_add],by have h:=HM.own (i:=0) rfl;rwa [Nat.zero_add,List.nil_append] at h,by omega⟩,HM.below⟩)
def PG (w:World) (lim:Int) (r:Ending) (w':World):Prop:=((lim<1∨4096<lim)∧Is w (.tuple #[.pointer none,vI 2]) r w')∨(¬(lim<1∨4096<lim)∧∃g,r= .returned (.tuple #[vP g 0,vI 0])∧Mem w w' [.blk g #[vI lim,vN] 171])
theorem YK {w w':World} {lim:Int} (h:lim<1∨4096<lim) (hb:Below w.heap.size w w'):PG w lim (.returned (.tuple #[.pointer none,vI 2])) w':= .inl ⟨h,rfl,hb⟩
theorem qzo {w w':World} {lim:Int} {g:Nat} (h:¬(lim<1∨4096<lim)) (hm:Mem w w' [.blk g #[vI lim,vN] 171]):PG w lim (.returned (.tuple #[vP g 0,vI 0])) w':= .inr ⟨h,g,rfl,hm⟩
theorem YL (lim:Int) (hl:aM lim) (w:World):
    Calls Tryz.prog 61 #[vI lim] w (PG w lim):=by
 refine (dh Tryz.func61 13) ?_
 refine (JP∘Jp 2∘Jj∘JQ∘JP∘Jp 3) (Ji (fun hd6=>?_) fun hd6=>?_)
 ·
  exact (Jp 3∘fJ∘Jj∘JT∘JP∘Jp 2∘Jj∘JZ∘bY) fun HM=>YK om HM.below
 refine (Jp 3∘fJ∘Jj) (Ji (fun rT=>?_) fun rT=>?_)
 ·
  exact (JT∘JP∘Jp 2∘Jj∘JZ∘bY) fun HM=>YK om HM.below
 exact (JF∘aF∘JP∘Jp 1∘Jy (v:= .agg #[vI lim,vN]) (h:=by exact Yl.build (vs:=[(0,vI lim)]) rfl kr kr)∘JE) fun Cx g12=>(Jp 2∘Jj∘JZ∘bY) fun HM=>qzo om (HM.pk [0])
theorem YM (A:Option Addr) (c:Nat) (q:List Hb) (B:Nat) (w:World) (hL:aL B w) (hB:B≤w.heap.size) (hr:Rd w w.heap.size 5 A q.length (q.flatMap hbL)) (hQ:fA w q) (hok:∀h∈q,h.b.Ok) (hev:∀h∈q,h.b.evs.length≤1000000) (hn:q.length≤1000000) {R:List Nat} {er:Nat} (h:q9 (q.map Hb.b)=(R,er)):
  Calls Tryz.prog 47 #[.slice A q.length c] w (za w er R):=by
 have h1:=qrq A c q B w hL hB hr hQ hok hev hn
 rw [h] at h1
 exact h1
theorem qpx (W w:World) (g:Nat) (lim:Int) (A:Option Addr) (c:Nat) (out:List Nat) (fs:List Fact) (HW:Mem W w (.blk g #[vI lim,.slice A out.length c] 171:: .row (.slice A out.length c) out.length (out.map B8) 5 1::fs)) (hc:out.length≤c) (hout:out.length≤524288) (A2:Option Addr) (c2:Nat) (q:List Hb) (B:Nat) (hL:aL B w) (hBW:B≤W.heap.size) (hr:Rd w w.heap.size 5 A2 q.length (q.flatMap hbL)) (hQ:fA w q) (hok:∀h∈q,h.b.Ok) (hev:∀h∈q,h.b.evs.length≤1000000) (hn:q.length≤1000000):
    Calls Tryz.prog 126 #[vP g 0,.slice A2 q.length c2] w (jS W 171 g lim (qu out (q.map Hb.b)).1 fs (vI ((qu out (q.map Hb.b)).2:Int))):=by
 have hg:=HW.blk (i:=0) rfl
 have hB:=Nat.le_trans hBW HW.size
 have tC:=HW.rd (i:=1) rfl
 refine (iG Tryz.func126 33) ?_
 refine (JP∘Jp 1∘Jq) fun a Z HM=>?_
 obtain ⟨R,er,hws⟩:∃R er,q9 (q.map Hb.b)=(R,er):=⟨_,_,rfl⟩
 have hRl:R.length≤524288:=by have h:=Wz (q.map Hb.b);rw [hws] at h;exact h
 refine Jb Z HM ((JG∘JP∘Jp 1∘JK (h:=by exact fun HM=>YM A2 c2 q B _ (hL.mem HM hB) (HM.le hB) (HM.old hr) (fA.old hQ HM) hok hev hn hws)) fun A9 c9 w9 DU=>(Jp 1∘Jx∘Jx∘Jp 2∘Jj∘JQ∘JP∘Jp 2∘aR∘Jj) (Jh (fun sV=>?_) fun sV=>?_))
 ·
  exact (JT∘JP∘Jp 2∘aR∘Jj∘JZ∘bB) fun HM=>Kn (WH hws om) rfl hc (HW.call HM.below)
 refine (JF∘aF∘JQ∘JP∘Jp 1∘Jn∘Jf 1∘Jy (v:= .slice A out.length c) (h:=by exact Yl.qn rfl rfl kr (fun _ h=>h.qy hg rfl))∘Jl∘Jp 1∘Jl∘Ja∘Jp 1∘aI∘Jj) (Ju (fun eD=>?_) fun eD=>?_)
 ·
  intro a Z HM
  have lI:=of_decide_eq_true eD
  exact Jb Z HM ((JT∘JP∘Jp 1∘Jj∘JZ∘bB) fun HM=>Kn (Km hws om om) rfl hc (HW.call HM.below))
 intro a Z HM
 have lI:=of_decide_eq_false eD
 replace HM:Mem W _ (.row (.slice A9 R.length c9) R.length (R.map B8) 5 1:: .blk g #[vI lim,.slice A out.length c] 171:: .row (.slice A out.length c) out.length (out.map B8) 5 1::fs):=HW.join HM
 refine Jb Z HM ((JF∘aF∘JP∘Jp 2∘Jn∘Jg 1 O1∘Jp 1∘JD (R.map B8) 2 (fun _ _=>fF) aB (hr:=by exact fun HM=>HM.rd (i:=0) rfl) (h1:=by exact zk _)) fun I8 xu xw mJ=>fun a Z HM=>?_)
 rw [show (out.map B8)++(R.map B8)=(out++R).map B8 from by rw [List.map_append]] at HM
 refine Jb Z HM ((Jn∘Jf 1∘JW dO dO) fun Gg=>(qI∘Jq) fun a Z HM=>?_)
 have j3:out.length+R.length=(out++R).length:=by rw [List.length_append]
 replace HM:=HM.aV (i:=2) (ys:=(out++R).map B8) rfl j3 (rfl)
 rw [j3] at mJ
 replace HM:=HM.oK (i:=1) (ds:= #[vI lim,.slice xu (out++R).length xw]) rfl (by rw [j3];try rfl)
 exact Jb Z HM ((JG∘JP∘Jp 1∘aY∘Jj∘JZ∘bB) fun HM=>Kn (Oc hws om om) rfl mJ (HM.pt 3 [1,2]))
theorem YN (W w:World) (g:Nat) (lim:Int) (A:Option Addr) (c:Nat) (out:List Nat) (fs:List Fact) (HW:Mem W w (.blk g #[vI lim,.slice A out.length c] 171:: .row (.slice A out.length c) out.length (out.map B8) 5 1::fs)) (hc:out.length≤c) (hout:out.length≤524288) (A2:Option Addr) (c2:Nat) (q:List Hb) (B:Nat) (hL:aL B w) (hBW:B≤W.heap.size) (hr:Rd w w.heap.size 5 A2 q.length (q.flatMap hbL)) (hQ:fA w q) (hok:∀h∈q,h.b.Ok) (hev:∀h∈q,h.b.evs.length≤1000000) (hn:q.length≤1000000) {o2:List Nat} {we:Nat} (h:qu out (q.map Hb.b)=(o2,we)):
  Calls Tryz.prog 126 #[vP g 0,.slice A2 q.length c2] w (jS W 171 g lim o2 fs (vI we)):=by
 have h1:=qpx W w g lim A c out fs HW hc hout A2 c2 q B hL hBW hr hQ hok hev hn
 rw [h] at h1
 exact h1
theorem Dk (cpu:Nat) (bA:cpu<256) (A:Option Addr) (n c:Nat) (l:List It) (opn limit:Int) (hok:∀x∈l,x.Ok) (ho:aM opn) (hlm:aM limit) (B:Nat) (w:World) (hL:aL B w) (hB:B≤w.heap.size) (hr:Rd w w.heap.size 12 A n (l.flatMap bV)) (hc:n≤c) (hln:l.length=n) (hn:n≤1000000) {bs:List Bk} {ce:Nat} (h:bH cpu l opn limit=(bs,ce)):
  Calls Tryz.prog 57 #[vB cpu,.slice A n c,vI opn,vI limit] w (rV 73 85 w ce bs):=by
 have h1:=qzm cpu bA A n c l opn limit hok ho hlm B w hL hB hr hc hln hn
 rw [h] at h1
 exact h1
theorem qzp (W w:World) (g:Nat) (lim:Int) (A:Option Addr) (c:Nat) (out:List Nat) (fs:List Fact) (HW:Mem W w (.blk g #[vI lim,.slice A out.length c] 171:: .row (.slice A out.length c) out.length (out.map B8) 5 1::fs)) (hc:out.length≤c) (hout:out.length≤524288) (hlim:lim≠0) (hlm:aM lim) (cpu:Nat) (bA:cpu<256) (A2:Option Addr) (c2:Nat) (l:List It) (opn:Int) (hok:∀x∈l,x.Ok) (ho:aM opn) (B:Nat) (hL:aL B w) (hBW:B≤W.heap.size) (hr:Rd w w.heap.size 12 A2 l.length (l.flatMap bV)) (hc2:l.length≤c2) (hn:l.length≤999999):
    Calls Tryz.prog 64 #[vP g 0,vB cpu,.slice A2 l.length c2,vI opn] w (jS W 171 g lim (fB out lim cpu l opn).1 fs (.tuple #[vI ((fB out lim cpu l opn).2.1:Int),vI ((fB out lim cpu l opn).2.2:Int)])):=by
 have hg:=HW.blk (i:=0) rfl
 have hB:=Nat.le_trans hBW HW.size
 have tC:=HW.rd (i:=1) rfl
 refine (uY Tryz.func64 35) ?_
 refine (JP∘Jp 2∘Jq) fun a Z HM=>?_
 obtain ⟨bs,ce,hcs⟩:∃bs ce,bH cpu l opn lim=(bs,ce):=⟨_,_,rfl⟩
 obtain ⟨o2,we,hwb⟩:∃o2 we,qu out bs=(o2,we):=⟨_,_,rfl⟩
 refine Jb Z HM ((JG∘JQ∘JP∘Jp 1∘JI (h:=by exact fun HM=>KQ g lim A out.length c _ (HM.jy hg) hlim)) fun nD hbw=>(aR∘Jj∘JF∘aF∘JP∘Jp 4∘Jn∘Jf 0∘Jy (v:=vI lim) (h:=by exact Yl.qn rfl rfl kr (fun _ h=>h.qy hg rfl))∘JL (h:=by exact fun HM=>Dk cpu bA A2 l.length c2 l opn lim hok ho hlm B _ (hL.mem HM hB) (HM.le hB) (HM.old hr) hc2 rfl om hcs)) ?_)
 rintro HM _ Ew ⟨Ac,cc,q,rfl,qC,hcc,hm⟩
 have kW:bs.length=q.length:=by rw [←qC,List.length_map]
 rw [kW] at hm hcc⊢
 refine ⟨_,rfl,_,Mem.q7m HM hm,?_⟩
 refine (Jp 1∘Jx∘Jx∘Jp 2∘Jj∘JQ∘JP∘Jp 2∘aR∘Jj) (Ju (fun dG=>?_) fun dG=>?_)
 ·
  intro a Z HM
  have ow:=eq_of_beq dG
  have nE:qu out (q.map Hb.b)=(o2,we):=by rw [qC];exact hwb
  have hcg:=PE bA hok ho hcs
  have jX:∀h∈q,h.b.Ok:=fun h hh=>(hcg.1 h.b (by rw [←qC];exact List.mem_map_of_mem hh))
  have qD:∀h∈q,h.b.evs.length≤1000000:=fun h hh=>Nat.le_trans (hcg.2.1 h.b (by rw [←qC];exact List.mem_map_of_mem hh)) om
  have hbl:=hcg.2.2
  replace HM:Mem W _ (.row (.slice Ac q.length cc) q.length (q.flatMap hbL) 85 5:: .blk g #[vI lim,.slice A out.length c] 171:: .row (.slice A out.length c) out.length (out.map B8) 5 1::(bG 73 q++(fs))):=Mem.q7g (HW.join HM)
  refine Jb Z HM ((JT∘JR∘Jp 2∘JL (h:=by exact fun HM=>YN W _ g lim A c out _ (HM.pt 3 [1,2,0]) hc hout Ac cc q B (hL.mem2 HW HM hBW) hBW (HM.rd (i:=0) rfl) (Mem.KP (a:=[.row (.slice Ac q.length cc) q.length (q.flatMap hbL) 85 5,.blk g #[vI lim,.slice A out.length c] 171,.row (.slice A out.length c) out.length (out.map B8) 5 1]) HM) jX qD om nE)) ?_)
  rintro HM _ EU ⟨rfl,PI,PK,hc29,eP⟩
  refine ⟨_,rfl,_,eP,?_⟩
  refine (Jp 1∘bT∘Jj∘JQ∘JP∘Jp 2∘aR∘Jj) (Ju (fun iV=>?_) fun iV=>?_)
  ·
   intro a Z HM
   have hd31:=bne_iff_ne.1 iV
   exact Jb Z HM ((JT∘JP∘Jp 3∘Jj∘JZ∘bY) fun HM=>Od (Oe hcs om hwb om) rfl rfl hc29 (Mem.drop2 (HM.pt 3 [0,1])))
  intro a Z HM
  have hd31:=bne_eq_false_iff_eq.1 iV
  exact Jb Z HM ((JF∘aF∘JP∘Jp 1∘Jl∘Jp 2∘Jj∘JZ∘bY) fun HM=>Od (WJ hcs om hwb om) (by rw [kW]) rfl hc29 (Mem.drop2 (HM.pt 3 [0,1])))
 intro a Z HM
 have ow:=ne_of_beq_false dG
 refine Jb Z HM ((JF∘aF∘JQ∘JP∘Jp 2∘aR∘Jj) (Ju (fun iV=>?_) fun iV=>?_))
 ·
  intro a Z HM
  have hd31:=bne_iff_ne.1 iV
  exact Jb Z HM ((JT∘JP∘Jp 3∘Jj∘JZ∘bY) fun HM=>Od (WI hcs om) rfl rfl hc (HW.call HM.below))
 intro a Z HM
 have hd31:=bne_eq_false_iff_eq.1 iV
 exfalso;omega
theorem qzq (W w:World) (g:Nat) (lim:Int) (A:Option Addr) (c:Nat) (out:List Nat) (fs:List Fact) (HW:Mem W w (.blk g #[vI lim,.slice A out.length c] 171:: .row (.slice A out.length c) out.length (out.map B8) 5 1::fs)) (hc:out.length≤c) (hout:out.length≤524288) (hlim:lim≠0) (next:Int) (hnx:aM next) (B:Nat) (hL:aL B w) (hBW:B≤W.heap.size):
    Calls Tryz.prog 62 #[vP g 0,vI next] w (jS W 171 g lim (qu out [cZ next]).1 fs (vI ((qu out [cZ next]).2:Int))):=by
 have hg:=HW.blk (i:=0) rfl
 have hB:=Nat.le_trans hBW HW.size
 have tC:=HW.rd (i:=1) rfl
 refine (iG Tryz.func62 12) ?_
 refine (JP∘Jp 1∘Jj∘JQ∘JP∘Jp 1∘JI (h:=by exact fun HM=>KQ g lim A out.length c _ (HM.jy hg) hlim)) fun w6 hbw=>(aR∘Jq) fun a Z HM=>?_
 replace HM:Mem W _ (.blk g #[vI lim,.slice A out.length c] 171:: .row (.slice A out.length c) out.length (out.map B8) 5 1::fs):=HW.join HM
 obtain ⟨o2,we,nE⟩:∃o2 we,qu out [cZ next]=(o2,we):=⟨_,_,rfl⟩
 refine Jb Z HM ((JG∘JF∘aF∘JP∘Jp 2∘Jy (v:= .agg #[vB 2,vB 0,vI 0,vI next,vN]) (h:=by exact Yl.build (vs:=[(0,vB 2),(3,vI next)]) rfl kr kr)∘JU sw #[vB 2,vB 0,vI 0,vI next,vN]) fun rE g10=>(JL (h:=by exact fun HM=>YN W _ g lim A c out _ (HM.pt 3 [1,2,0]) hc hout _ 1 [⟨cZ next,none,0⟩] B (hL.mem2 HW HM hBW) hBW (HM.aU (i:=0) (n:=1) (size:=5) rfl rfl) (by intro x hx;rw [List.mem_singleton] at hx;subst hx;exact Rd.nil) (by intro x hx;rw [List.mem_singleton] at hx;subst hx;exact Kk hnx) (by intro x hx;rw [List.mem_singleton] at hx;subst hx;exact Nat.zero_le _) (by show 1≤1000000;decide) nE)) ?_)
 rintro HM _ mF ⟨rfl,kU,c11,lQ,eP⟩
 refine ⟨_,rfl,_,eP,?_⟩
 exact (Jp 1∘fJ∘Jj∘JZ∘bB) fun HM=>Kn nE rfl lQ (HM.pt 3 [0,1])
theorem PL (g:Nat) (lim:Int) (A:Option Addr) (c:Nat) (out:List Nat) (w:World) (hg:w.heap[g]?=some (.cells #[vI lim,.slice A out.length c] 171 (0,0))) (tC:Rd w w.heap.size 1 A out.length (out.map B8)) (hout:out.length≤524288) (hlim:lim≠0):
    Calls Tryz.prog 66 #[vP g 0] w (zh w out):=by
 refine (dh Tryz.func66 10) ?_
 exact (JP∘Jp 1∘Jj∘JQ∘JP∘Jp 1∘JI (h:=by exact fun HM=>KQ g lim A out.length c _ (HM.jy hg) hlim)) fun w4 hbw=>(aR∘Jj∘JF∘aF∘JP∘Jp 1∘Jn∘Jf 1∘Jy (v:= .slice A out.length c) (h:=by exact Yl.qn rfl rfl kr (fun _ h=>h.qy hg rfl))∘JK (h:=by exact fun HM=>YJ A c out _ (HM.old tC) om)) fun A9 c9 w9 DU=>(Jp 1∘fJ∘Jj∘JZ∘bB) fun HM=>by exact ⟨⟨_,_,rfl,HM.own (i:=0) rfl,DU⟩,HM.below⟩
theorem qzr (g:Nat) (lim:Int) (A:Option Addr) (c:Nat) (out:List Nat) (w:World) (hg:w.heap[g]?=some (.cells #[vI lim,.slice A out.length c] 171 (0,0))) (hlim:lim≠0):
    Calls Tryz.prog 67 #[vP g 0] w (Is w (vI (out.length:Int))):=by
 refine (dh Tryz.func67 10) ?_
 exact (JP∘Jp 1∘Jj∘JQ∘JP∘Jp 1∘JI (h:=by exact fun HM=>KQ g lim A out.length c _ (HM.jy hg) hlim)) fun w4 hbw=>(aR∘Jj∘JF∘aF∘JP∘Jp 1∘Jn∘Jf 1∘Jy (v:= .slice A out.length c) (h:=by exact Yl.qn rfl rfl kr (fun _ h=>h.qy hg rfl))∘Jl∘Jp 1∘fJ∘Jj∘JZ) iX
def q6x (w:World) (l:List Nat) (r:Ending) (w':World):Prop:=∃g A c,r= .returned (vP g 0)∧l.length≤c∧Mem w w' [.blk g #[.bool true,vI 0,.slice A l.length c] 174,.row (.slice A l.length c) l.length (l.map B8) 5 1]
theorem Mem.skip {W w:World} {f:Fact} {fs:List Fact} (h:Mem W w (f::fs)):Mem W w fs:=h.tail
theorem YO (A:Option Addr) (c:Nat) (l:List Nat) (w:World) (hr:Rd w w.heap.size 1 A l.length (l.map B8)) (hn:l.length≤100000000):
    Calls Tryz.prog 74 #[.slice A l.length c] w (q6x w l):=by
 refine (dh Tryz.func74 7) ?_
 exact (JP∘Jp 1∘Jr∘Jp 1∘JK (h:=by exact fun HM=>YJ A c l _ (HM.old hr) hn)) fun A4 c4 w4 hc4=>(Jy (v:= .agg #[.bool true,vI 0,.slice A4 l.length c4]) (h:=by exact Yl.build (vs:=[(0,.bool true),(2,.slice A4 l.length c4)]) rfl kr kr)∘JE) fun w6 g6=>(Jp 1∘dR∘Jj∘JZ∘bB) fun HM=>by exact ⟨g6,A4,c4,rfl,hc4,HM⟩
theorem YP (g p:Nat) (A:Option Addr) (c:Nat) (l:List Nat) (w:World) (hg:w.heap[g]?=some (.cells #[.bool true,vI p,.slice A l.length c] 174 (0,0))):
    Calls Tryz.prog 80 #[vP g 0] w (Is w (vI p)):=by
 refine (dh Tryz.func80 9) ?_
 exact (JP∘Jp 1∘Jj∘JQ∘JP∘Jp 1∘Jy (v:= .bool false) (h:=by exact Yl.oI rfl rfl rfl)∘aR∘Jj∘JF∘aF∘JP∘Jp 1∘Jn∘Jf 1∘Jy (v:=vI p) (h:=by exact Yl.qn rfl rfl kr (fun _ h=>h.qy hg rfl))∘Jp 1∘dR∘Jj∘JZ) iX
theorem qu9 (W w:World) (g p:Nat) (A:Option Addr) (c:Nat) (l:List Nat) (fs:List Fact) (HW:Mem W w (.blk g #[.bool true,vI p,.slice A l.length c] 174:: .row (.slice A l.length c) l.length (l.map B8) 5 1::fs)) (hp:p≤l.length) (hc:l.length≤c) (hl:∀b∈l,b<256) (hn:l.length≤100000000) (B:Nat) (hL:aL B w) (hBW:B≤W.heap.size):
    Calls Tryz.prog 77 #[vP g 0] w (WL W 174 g p l A c fs (nextR l p)):=by
 have hg:=HW.blk (i:=0) rfl
 have tC:=HW.rd (i:=1) rfl
 have hB:=Nat.le_trans hBW HW.size
 refine (dh Tryz.func77 52) ?_
 refine (JP∘JA #[vB 0,vB 0,vI 0,vI 0,vN]) fun w2 g2=>(Jp 1∘Jj∘JQ∘JP∘Jp 1∘Jy (v:= .bool false) (h:=by exact Yl.oI rfl rfl rfl)∘Jp 2∘Jn∘Jf 0∘Jy (v:= .bool true) (h:=by exact Yl.qn rfl rfl kr (fun _ h=>h.qy hg rfl))∘Jp 2∘aI∘Jj∘JF∘aF∘JQ) fun a Z HM=>?_
 refine wp_seq ?_
 refine Jb Z HM ((Vs .n []) fun wd3=>(Vp [0,4]∘Vn 1∘Vf 2 1∘Vy 3 (v:=vI p) (h:=by exact Yl.qn rfl rfl kr (fun _ h=>h.qy hg rfl))∘Vn 5∘Vf 6 2∘Vy 7 (v:= .slice A l.length c) (h:=by exact Yl.qn rfl rfl kr (fun _ h=>h.qy hg rfl))∘Vl 8∘Vp [9]∘Vd∘aI) (Ju (fun dG=>?_) fun dG=>?_))
 ·
  intro a Z HM
  have ow:=eq_of_beq dG
  have hpl:p=l.length:=by omega
  have hz:nextR l p=(Bk.zero,0,6):=if_pos hpl
  refine Jb Z HM ((JT∘JP∘Jy (v:= .agg #[vB 0,vB 0,vI 0,vI 0,vN]) (h:=by exact Yl.build (vs:=[]) rfl kr kr)∘JV aA aZ) fun zA=>(Jp 1∘aR∘Jj∘JZ) fun a Z HM=>?_)
  exact dP rfl Z (.cellS (i:=0) Z HM rfl rfl aA rfl) (.tmp Z rfl) (by have HM:=HW.join HM;exact WM (b:=Bk.zero) (A':=none) (c':=0) hz rfl (Nat.le_refl _) (Mem.nil (Mem.skip HM) _ _))
 intro a Z HM
 have ow:=ne_of_beq_false dG
 have hpl:p≠l.length:=by omega
 obtain ⟨b,m,er,hq⟩:∃b m er,bg (l.drop p)=(b,m,er):=⟨_,_,_,rfl⟩
 have hz:nextR l p=(b,m,er):=(if_neg hpl).trans hq
 have hpm:=WK hl hp hz
 refine Jb Z HM ((JF∘aF) fun a Z HM=>?_)
 refine qw (fun aS wS=>∃(dx:Option Addr) (dw:Nat) (g4:Nat),Fr aS 52 [] [(6,vI er),(5,vI m),(4,vP g4 0),(26,.bool false),(15,.bool false),(3,vI 0),(2,vP g2 0),(0,vP g 0)]∧Mem w wS [.blk g4 (b.cells dx dw) 85,.row (.slice dx b.evs.length dw) b.evs.length (b.evs.flatMap aN) 73 11,.blk g2 #[vB 0,vB 0,vI 0,vI 0,vN] 85]∧(b.evs.length≤dw)) ?_ ?_
 ·
  refine Jb Z HM ((Vs .n [15]) fun wd5=>(Vp [0,4]∘Vn 1∘Vf 2 2∘Vy 3 (v:= .slice A l.length c) (h:=by exact Yl.qn rfl rfl kr (fun _ h=>h.qy hg rfl))∘Vn 5∘Vf 6 1∘Vy 7 (v:=vI p) (h:=by exact Yl.qn rfl rfl kr (fun _ h=>h.qy hg rfl))∘Vy 8 (h:=by exact Yl.sliceFrom aB (j:=p) rfl rfl rfl om)) fun a Z HM HS=>?_)
  refine pE [9,14] kr rfl ?_
  refine all_cons ?_ ?_
  ·refine jl Z (i:=9) rfl rfl ?_
   refine mo Z HM [.slice (if c=p then A else A.map (·.add (p*1))) (l.length-p) (c-p)] (Nz (if c=p then A else A.map (·.add (p*1))) (l.length-p) (c-p) (l.drop p) B _ (hL.mem HM hB) (HM.le hB) (HM.old (tC.qZ hp hc)) om (by rw [List.length_drop]) om (zj hl p) hq) fun dx dw yX hc38 HM a Z=>?_
   refine aK (HM.pk [1]) (fun HS=>?_)
   refine Vb Z HM HS ((Vp [10]∘Vx 11∘Vx 12∘Vx 13∘VA 14 (.f .n) #[vB 0,vB 0,vI 0,vI 0,vN]) fun w4 g4=>fun a Z HM HS=>?_)
   refine s_on Z 15 rfl (bN Z HM 0 rfl rfl rfl rfl rfl aA rfl rfl (zy _ _ _) fun Gm HM=>?_)
   refine fZ kr ?_
   refine ap Z (dJ kr) [16,17] (bt 18 []) [(6,vI er),(5,vI m)] fun a Z=>?_
   refine qd kr ?_
   exact ⟨dx,dw,g4,Z.sub kr,HM.pk [0,1,2],hc38⟩
  refine all_cons ?_ all_nil
  refine jl Z (i:=14) rfl rfl ?_
  refine kF Z HM #[vB 0,vB 0,vI 0,vI 0,vN] ?_
  clear Z HM;intro a w4 g4 Z HM
  refine aK (HM.pk [1]) (fun HS=>?_)
  refine Vb Z HM HS ((VK 9 (.f .n) (h:=by exact fun HM=>Nz (if c=p then A else A.map (·.add (p*1))) (l.length-p) (c-p) (l.drop p) B _ (hL.mem HM hB) (HM.le hB) (HM.old (tC.qZ hp hc)) om (by rw [List.length_drop]) om (zj hl p) hq)) fun dx dw yX hc38=>(Vp [10]∘Vx 11∘Vx 12∘Vx 13) fun a Z HM HS=>?_)
  refine s_on Z 15 rfl (bN Z HM 1 rfl rfl rfl rfl rfl aA rfl rfl (zy _ _ _) fun Gm HM=>?_)
  refine fZ kr ?_
  refine ap Z (dJ kr) [16,17] (bt 18 []) [(6,vI er),(5,vI m)] fun a Z=>?_
  refine qd kr ?_
  exact ⟨dx,dw,g4,Z.sub kr,HM.pk [1,0,2],hc38⟩
 clear Z HM;rintro a w5 ⟨dx,dw,g4,Z,HM,hc38⟩
 skip
 ·
  replace HM:Mem W _ (.blk g4 (b.cells dx dw) 85:: .row (.slice dx b.evs.length dw) b.evs.length (b.evs.flatMap aN) 73 11:: .blk g2 #[vB 0,vB 0,vI 0,vI 0,vN] 85:: .blk g #[.bool true,vI p,.slice A l.length c] 174:: .row (.slice A l.length c) l.length (l.map B8) 5 1::fs):=HW.join HM
  refine Jb Z HM ((JP∘Jp 1∘Jn∘Jg 1 O3∘Jp 1∘Ja∘Jn∘Jf 1∘JW jm dO) fun ain=>(qI∘Jr∘Jy (v:= .agg (b.cells dx dw)) (h:=by exact Yl.qg rfl rfl aA rfl (fun _ h=>qb (h.blk (i:=0) rfl)))∘Jp 1∘JV aA fF (h1:=by exact zy _ _ _)) fun aio=>(Jp 1∘fJ∘Jj∘JZ) fun a Z HM=>?_)
  exact dP rfl Z (.cellS (i:=2) Z HM rfl rfl aA rfl) (.tmp Z rfl) (WM hz rfl hc38 (HM.pt 5 [1,3,4]))
theorem PO (lim:Int) (w:World) (h:1≤lim∧lim≤4096):Calls Tryz.prog 61 #[vI lim] w fun r w'=>∃g,r= .returned (.tuple #[vP g 0,vI 0])∧Mem w w' [.blk g #[vI lim,vN] 171]:=
 (YL lim (by unfold aM; omega) w).mono fun r w' h1 => by
  rcases h1 with ⟨h2,_⟩|⟨_,h2⟩
  ·omega
  ·exact h2
theorem Gn (W w:World) (g:Nat) (lim:Int) (A:Option Addr) (c:Nat) (out:List Nat) (fs:List Fact) (HW:Mem W w (.blk g #[vI lim,.slice A out.length c] 171:: .row (.slice A out.length c) out.length (out.map B8) 5 1::fs)) (hc:out.length≤c) (hout:out.length≤524288) (hlim:lim≠0) (next:Int) (hnx:aM next) (B:Nat) (hL:aL B w) (hBW:B≤W.heap.size) {o2:List Nat} {we:Nat} (h:qu out [cZ next]=(o2,we)):
  Calls Tryz.prog 62 #[vP g 0,vI next] w (jS W 171 g lim o2 fs (vI we)):=by
 have h1:=qzq W w g lim A c out fs HW hc hout hlim next hnx B hL hBW
 rw [h] at h1
 exact h1
theorem YS (W w:World) (g:Nat) (lim:Int) (A:Option Addr) (c:Nat) (out:List Nat) (fs:List Fact) (HW:Mem W w (.blk g #[vI lim,.slice A out.length c] 171:: .row (.slice A out.length c) out.length (out.map B8) 5 1::fs)) (hc:out.length≤c) (hout:out.length≤524288) (hlim:lim≠0) (hlm:aM lim) (cpu:Nat) (bA:cpu<256) (A2:Option Addr) (c2:Nat) (l:List It) (opn:Int) (hok:∀x∈l,x.Ok) (ho:aM opn) (B:Nat) (hL:aL B w) (hBW:B≤W.heap.size) (hr:Rd w w.heap.size 12 A2 l.length (l.flatMap bV)) (hc2:l.length≤c2) (hn:l.length≤999999) {o2:List Nat} {k we:Nat} (h:fB out lim cpu l opn=(o2,k,we)):
  Calls Tryz.prog 64 #[vP g 0,vB cpu,.slice A2 l.length c2,vI opn] w (jS W 171 g lim o2 fs (.tuple #[vI k,vI we])):=by
 have h1:=qzp W w g lim A c out fs HW hc hout hlim hlm cpu bA A2 c2 l opn hok ho B hL hBW hr hc2 hn
 rw [h] at h1
 exact h1
theorem PS (g:Nat) (lim:Int) (A:Option Addr) (c:Nat) (out:List Nat) (w:World) (hg:w.heap[g]?=some (.cells #[vI lim,.slice A out.length c] 171 (0,0))) (hlim:lim≠0) {n:Nat} (h:out.length=n):
  Calls Tryz.prog 67 #[vP g 0] w (Is w (vI n)):=by
 have h1:=qzr g lim A c out w hg hlim
 rw [h] at h1
 exact h1
theorem KS (W w:World) (g p:Nat) (A:Option Addr) (c:Nat) (l:List Nat) (fs:List Fact) (HW:Mem W w (.blk g #[.bool true,vI p,.slice A l.length c] 174:: .row (.slice A l.length c) l.length (l.map B8) 5 1::fs)) (hp:p≤l.length) (hc:l.length≤c) (hl:∀b∈l,b<256) (hn:l.length≤100000000) (B:Nat) (hL:aL B w) (hBW:B≤W.heap.size) {b:Bk} {m er:Nat} (h:nextR l p=(b,m,er)) {p2:Nat} (h2:p+m=p2:=by rfl):
  Calls Tryz.prog 77 #[vP g 0] w fun r w'=>∃A' c',r= .returned (.tuple #[.agg (b.cells A' c'),vI er])∧b.evs.length≤c'∧Mem W w' (.row (.slice A' b.evs.length c') b.evs.length (b.evs.flatMap aN) 73 11:: .blk g #[.bool true,vI ((p2:Nat):Int),.slice A l.length c] 174:: .row (.slice A l.length c) l.length (l.map B8) 5 1::fs):=by
 have h1:=qu9 W w g p A c l fs HW hp hc hl hn B hL hBW
 subst h2
 rw [h] at h1
 exact h1
theorem PU (A:Option Addr) (n c:Nat) (l:List Nat) (B:Nat) (w:World) (hL:aL B w) (hB:B≤w.heap.size) (hr:Rd w w.heap.size 1 A n (l.map B8)) (hc:n≤c) (hl:∀b∈l,b<256) (hln:l.length=n) (hn:n≤100000000) {bs:List Bk} {p er:Nat} (h:ku l=(bs,p,er)):
  Calls Tryz.prog 72 #[.slice A n c] w (Is w (.tuple #[vI (bs.length:Int),vI p,vI er])):=by
 subst hln
 have h1:=q48 A c l B w hL hB hr hc hl hn
 rw [h] at h1
 exact h1
theorem PV (w:World):Calls Tryz.prog 23 #[] w fun r w'=>∃g,r= .returned (.slice (some ⟨g,0,none⟩) 2 2)∧w'.ownsRow w.heap.size 75 12 (.slice (some ⟨g,0,none⟩) 2 2) 2 (Bq.flatMap bV)∧Below w.heap.size w w':=by
 refine (Eh Tryz.func23 6) ?_
 exact (JP∘Jp 1∘Jr∘Jy (v:= .agg #[vI 5,vI 340,vB 2,vB 5,vI 0,vI 0,vI 0,vI 0,vI 40,vQ 0,vI 7]) (h:=by exact Yl.build (vs:=[(0,vI 5),(1,vI 340),(2,vB 2),(3,vB 5),(8,vI 40),(10,vI 7)]) rfl kr kr)∘Jy (v:= .agg #[vI 5,vI 340,vB 2,vB 5,vI 0,vI 0,vI 0,vI 0,vI 40,vQ 0,vI 7,vI 3]) (h:=by exact Yl.build (vs:=[(0,.agg #[vI 5,vI 340,vB 2,vB 5,vI 0,vI 0,vI 0,vI 0,vI 40,vQ 0,vI 7]),(1,vI 3)]) rfl kr kr)∘Jy (v:= .agg #[vI 9,vI 340,vB 2,vB 6,vI 0,vI 0,vI 0,vI 0,vI 0,vQ 0,vI 0]) (h:=by exact Yl.build (vs:=[(0,vI 9),(1,vI 340),(2,vB 2),(3,vB 6)]) rfl kr kr)∘Jy (v:= .agg #[vI 9,vI 340,vB 2,vB 6,vI 0,vI 0,vI 0,vI 0,vI 0,vQ 0,vI 0,vI 0]) (h:=by exact Yl.build (vs:=[(0,.agg #[vI 9,vI 340,vB 2,vB 6,vI 0,vI 0,vI 0,vI 0,vI 0,vQ 0,vI 0])]) rfl kr kr)∘JU gJ #[vI 5,vI 340,vB 2,vB 5,vI 0,vI 0,vI 0,vI 0,vI 40,vQ 0,vI 7,vI 3,vI 9,vI 340,vB 2,vB 6,vI 0,vI 0,vI 0,vI 0,vI 0,vQ 0,vI 0,vI 0]) fun w5 g5=>(Jp 1∘fJ∘Jj∘JZ∘bB) fun HM=>by exact ⟨g5,rfl,(HM.dz (i:=0) (n:=2) (size:=12) rfl rfl de).own (i:=0) rfl,HM.below⟩
theorem qva (B:Nat) (w:World) (hL:aL B w) (hB:B≤w.heap.size):Calls Tryz.prog 30 #[] w (Is w (.bool true)):=by
 refine (Eh Tryz.func30 176) ?_
 refine (JP∘Jp 1∘Jr∘JL (h:=by exact fun HM=>PV _)) ?_
 rintro HM _ pK ⟨g20,rfl,ho,hbw⟩
 refine ⟨vS g20 2 2,rfl,_,HM.aQ hbw ho,?_⟩
 refine (JL (h:=by exact fun HM=>Dk 2 de (some ⟨g20,0,none⟩) 2 2 Bq 2 1 YR (by unfold aM;decide) (by unfold aM;decide) B _ (hL.mem HM hB) (HM.le hB) (HM.rd (i:=0) rfl) de rfl de sa1)) ?_
 rintro HM _ Az ⟨eU,c21,q21,rfl,PW,hc21,hm⟩
 obtain ⟨x1,x2,rfl,PX,PY⟩:=PN PW
 refine ⟨.tuple #[.slice eU 2 c21,vI 0],rfl,_,HM.aQ hm.below (hm.own (i:=0) rfl),?_⟩
 refine (Jp 1∘Jx∘Jx∘Jp 2∘Jr∘JL (h:=by exact fun HM=>PV _)) ?_
 rintro HM _ rM ⟨Gp,rfl,ho,hbw⟩
 refine ⟨vS Gp 2 2,rfl,_,HM.aQ hbw ho,?_⟩
 refine (JL (h:=by exact fun HM=>Dk 2 de (some ⟨Gp,0,none⟩) 2 2 Bq 2 2 YR (by unfold aM;decide) (by unfold aM;decide) B _ (hL.mem HM hB) (HM.le hB) (HM.rd (i:=0) rfl) de rfl de sa2)) ?_
 rintro HM _ Dh ⟨Bt,xZ,q26,rfl,PZ,vU,hm⟩
 obtain ⟨x3,rfl,Gq⟩:=Br PZ
 refine ⟨.tuple #[.slice Bt 1 xZ,vI 0],rfl,_,HM.aQ hm.below (hm.own (i:=0) rfl),?_⟩
 refine (Jp 1∘Jx∘Jx∘Jp 2∘Jr∘JL (h:=by exact fun HM=>Dk 2 de none 0 0 [] 0 1 (by intro x hx;cases hx) (by unfold aM;decide) (by unfold aM;decide) B _ (hL.mem HM hB) (HM.le hB) (Rd.nil) de rfl de sa3)) ?_
 rintro HM _ I8 ⟨xu,xw,q30,rfl,P5,mJ,hm⟩
 obtain rfl:=List.map_eq_nil_iff.1 P5
 refine ⟨.tuple #[.slice xu 0 xw,vI 0],rfl,_,HM.aQ hm.below (hm.own (i:=0) rfl),?_⟩
 refine (Jp 1∘Jx∘Jx∘Jp 2∘Jr∘JL (h:=by exact fun HM=>Dk 2 de none 0 0 [] 2 1 (by intro x hx;cases hx) (by unfold aM;decide) (by unfold aM;decide) B _ (hL.mem HM hB) (HM.le hB) (Rd.nil) de rfl de sa4)) ?_
 rintro HM _ U9 ⟨P6,c34,q34,rfl,P7,hc34,hm⟩
 obtain ⟨x4,rfl,P8⟩:=Br P7
 refine ⟨.tuple #[.slice P6 1 c34,vI 0],rfl,_,HM.aQ hm.below (hm.own (i:=0) rfl),?_⟩
 refine (Jp 1∘Jx∘Jx∘Jp 2∘Jj∘JQ∘JP∘Jv 10 [(46,.slice eU 2 c21),(45,.bool false)]∘Jl∘Jv 4 [(51,.slice eU 2 c21),(50,.bool false)]) ?_
 repeat (first|clear Z|clear HM)
 intro a Z HM
 obtain ⟨tF,rfl⟩:=zb (HM.own (i:=4) rfl) (Nat.lt_of_le_of_lt (Nat.zero_le _) (show 0<2 from by decide))
 refine Jb Z HM ((Jy (v:=vP tF 0) (h:=by exact Yl.indexAddr (ad:=⟨tF,0,none⟩) (y:=0) (sz:=5) rfl rfl rfl de kr)∘Jf 2∘Jy (v:=vI x1.b.lost) (h:=by exact Yl.qn rfl rfl kr (fun _ h=>h.uz nQ (i:=4) rfl (k:=0) (off:=2) (x:=x1) (rfl) rfl))∘Jo (vI 3) (by rw [PX])∘Jv 4 [(58,vS tF 2 c21),(57,.bool false)]∘Jy (v:=vP tF 5) (h:=by exact Yl.indexAddr (ad:=⟨tF,0,none⟩) (y:=1) (sz:=5) rfl rfl rfl de kr)∘Jf 2∘Jy (v:=vI x2.b.lost) (h:=by exact Yl.qn rfl rfl kr (fun _ h=>h.uz nQ (i:=4) rfl (k:=1) (off:=2) (x:=x2) (rfl) rfl))∘Jo (vI 2) (by rw [PY])∘Jv 4 [(65,.slice Bt 1 xZ),(64,.bool false)]∘Jl∘Jv 4 [(70,.slice Bt 1 xZ),(69,.bool false)]) ?_)
 repeat (first|clear Z|clear HM)
 intro a Z HM
 obtain ⟨tH,rfl⟩:=zb (HM.own (i:=2) rfl) (Nat.lt_of_le_of_lt (Nat.zero_le _) (show 0<1 from by decide))
 refine Jb Z HM ((Jy (v:=vP tH 0) (h:=by exact Yl.indexAddr (ad:=⟨tH,0,none⟩) (y:=0) (sz:=5) rfl rfl rfl de kr)∘Jf 2∘Jy (v:=vI x3.b.lost) (h:=by exact Yl.qn rfl rfl kr (fun _ h=>h.uz nQ (i:=2) rfl (k:=0) (off:=2) (x:=x3) (rfl) rfl))∘Jo (vI 5) (by rw [Gq])∘Jv 4 [(77,vS tH 1 xZ),(76,.bool false)]∘Jy (v:=vP tH 0) (h:=by exact Yl.indexAddr (ad:=⟨tH,0,none⟩) (y:=0) (sz:=5) rfl rfl rfl de kr)∘Jf 4∘Jy (v:= .slice x3.A x3.b.evs.length x3.c) (h:=by exact Yl.qn rfl rfl kr (fun _ h=>h.uz nQ (i:=2) rfl (k:=0) (off:=4) (x:=x3) (rfl) rfl))∘Jo (.slice x3.A 2 x3.c) (by rw [Gq];try rfl)∘Jl∘Jv 4 [(85,.slice xu 0 xw),(84,.bool false)]∘Jl∘Jv 4 [(90,.slice P6 1 c34),(89,.bool false)]∘Jl∘Jv 4 [(95,.slice P6 1 c34),(94,.bool false)]) ?_)
 repeat (first|clear Z|clear HM)
 intro a Z HM
 obtain ⟨Gs,rfl⟩:=zb (HM.own (i:=0) rfl) (Nat.lt_of_le_of_lt (Nat.zero_le _) (show 0<1 from by decide))
 refine Jb Z HM ((Jy (v:=vP Gs 0) (h:=by exact Yl.indexAddr (ad:=⟨Gs,0,none⟩) (y:=0) (sz:=5) rfl rfl rfl de kr)∘Jf 2∘Jy (v:=vI x4.b.lost) (h:=by exact Yl.qn rfl rfl kr (fun _ h=>h.uz nQ (i:=0) rfl (k:=0) (off:=2) (x:=x4) (rfl) rfl))∘Jo (vI 2) (by rw [P8])∘Jv 2 [(100,.bool false)]∘aI∘Jq) fun a Z HM=>?_)
 replace Z:=Z.to [(100,.bool false),(0,.bool false)]
 refine Jb Z HM ((JG∘JF∘aF∘JP∘JL (h:=by exact fun HM=>PO 9 _ de)) ?_)
 rintro HM _ aiz ⟨iO,rfl,hm⟩
 refine ⟨.tuple #[vP iO 0,vI 0],rfl,_,(HM.join hm).nil 5 1,?_⟩
 refine (Jp 1∘Jx∘Jx∘Jp 2∘Jj∘JQ∘JP∘Jv 4 [(108,vP iO 0),(107,.bool false)]∘Jy (v:= .bool false) (h:=by exact Yl.oI rfl rfl rfl)∘Jp 3∘JL (h:=by exact fun HM=>Gn (o2:=[]) (we:=107) _ _ iO 9 none 0 [] _ (HM.pk [1,0,2,3,4,5,6,7]) (by first|exact Nat.le_refl _|omega|exact Nat.zero_le _) (by first|decide|omega) de 0 (by unfold aM;decide) B (hL.mem HM hB) hB sa5)) ?_
 rintro HM _ aiA ⟨rfl,P9,Qa,hc113,eP⟩
 refine ⟨vI 107,rfl,_,eP,?_⟩
 refine (Jv 4 [(117,vP iO 0),(116,.bool false)]∘JL (h:=by exact fun HM=>Gn (o2:=mO) (we:=0) _ _ iO 9 P9 Qa [] _ (HM.pk [0,1,2,3,4,5,6,7]) (by first|exact Nat.le_refl _|omega|exact Nat.zero_le _) (by first|decide|omega) de 7 (by unfold aM;decide) B (hL.mem HM hB) hB sa6)) ?_
 rintro HM _ aiB ⟨rfl,Bu,Bv,YT,eP⟩
 refine ⟨vI 0,rfl,_,eP,?_⟩
 refine (Jv 4 [(122,vP iO 0),(121,.bool false)]∘JL (h:=by exact fun HM=>PS iO 9 Bu Bv mO _ (HM.blk (i:=0) rfl) de rfl)) ?_
 rintro HM _ aiC ⟨rfl,hbw⟩
 refine ⟨vI 13,rfl,_,HM.call hbw,?_⟩
 refine (Jv 2 [(125,.bool false)]∘aI∘Jj∘JF∘aF∘JP∘Jp 1∘JK (h:=by exact fun HM=>PL iO 9 Bu Bv mO _ (HM.blk (i:=0) rfl) (HM.rd (i:=1) rfl) (by first|decide|omega) de)) fun aiD aiE aiF YU=>(JU aB #[vB 1]) fun aiG aiH=>(JD ([1].map B8) 1 (fun _ _=>dO) aB (hr:=by exact fun HM=>HM.aU (i:=0) (n:=1) (size:=1) rfl rfl) (h1:=by exact zk _) (hb:=by decide) (h63:=by decide)) fun aiI Qb c130 Gt=>fun a Z HM=>?_
 rw [show (mO.map B8)++([1].map B8)=(mO++[1]).map B8 from by rw [List.map_append]] at HM
 refine Jb Z HM ((JI (v:=.tuple #[vI 1,vI 13,vI 100]) (h:=by exact fun HM=>PU Qb 14 c130 (mO++[1]) B _ (hL.mem HM hB) (HM.le hB) (HM.rd (i:=1) rfl) Gt q49 rfl de sa7)) fun aiJ hbw=>(Jp 1∘Jx∘Jx∘Jx∘Jp 3∘Jr∘Jp 1∘JK (h:=by exact fun HM=>PL iO 9 Bu Bv mO _ (HM.blk (i:=2) rfl) (HM.rd (i:=3) rfl) (by first|decide|omega) de)) fun Qc Qd aiK YV=>(JL (h:=by exact fun HM=>YO Qc Qd mO _ (HM.rd (i:=0) rfl) de)) ?_)
 rintro HM _ aiL ⟨tJ,Bw,Bz,rfl,YW,hm⟩
 refine ⟨vP tJ 0,rfl,_,HM.join hm,?_⟩
 refine (Jp 1∘bT∘Jr∘Jp 1∘JL (h:=by exact fun HM=>KS _ _ tJ 0 Bw Bz mO _ (HM.pk [0,1,2,3,4,5,6,7,8,9,10,11,12]) de (by first|exact Nat.le_refl _|omega|exact Nat.zero_le _) VF de B (hL.mem HM hB) hB (sa8) (p2:=13) (rfl))) ?_
 rintro HM _ aiM ⟨Qe,Qf,rfl,YX,eP⟩
 refine ⟨.tuple #[.agg #[vB 2,vB 0,vI 0,vI 7,.slice Qe 0 Qf],vI 0],rfl,_,eP,?_⟩
 refine (Jp 1∘Jx∘Jx∘JA #[vB 0,vB 0,vI 0,vI 0,vN]) fun oM g15=>(JV aA aZ) fun Gu=>(Jp 1∘Jr∘Jp 1∘JL (h:=by exact fun HM=>KS _ _ tJ 13 Bw Bz mO _ (HM.pk [2,3,0,1,4,5,6,7,8,9,10,11,12,13,14]) de (by first|exact Nat.le_refl _|omega|exact Nat.zero_le _) VF de B (hL.mem HM hB) hB (sa9) (p2:=13) (rfl))) ?_
 rintro HM _ Qg ⟨mZ,c145,rfl,tK,eP⟩
 refine ⟨.tuple #[.agg #[vB 0,vB 0,vI 0,vI 0,.slice mZ 0 c145],vI 6],rfl,_,eP,?_⟩
 exact (Jp 1∘Jx∘Jx∘JA #[vB 0,vB 0,vI 0,vI 0,vN]) fun EX g17=>(JV aA aZ) fun YZ=>(Jp 1∘aI∘Jr∘Jv 15 [(162,.bool true)]∘Jg 3 O4∘Jv 8 [(172,vP tJ 0),(171,.bool true)]∘JI (v:=vI 13) (h:=by exact fun HM=>YP tJ 13 Bw Bz mO _ (HM.blk (i:=2) rfl))) fun aiN hbw=>(Jv 3 [(0,.bool true)]∘aI∘Jj∘JZ) iX
theorem qu3 (b:Bs) (cpu:Nat) (bA:cpu<256) (A:Option Addr) (n c:Nat) (l:List Nat) (w:World) (hr:Rd w w.heap.size 1 A n (l.map B8)) (hc:n≤c) (hl:∀b∈l,b<256) (hn:n≤140737488355328) (hln:l.length=n):
    Calls Tryz.prog 291 #[.agg b.cells,vB cpu,.slice A n c] w (sF w (aG b cpu l)):=by
 refine (Co Tryz.func291 101) ?_
 refine (JP∘JE) fun w3 g3=>(JA #[vI 0,vI 0,vB 0,vB 0,vI 0,vI 0,vI 0,vI 0,vI 0,vQ 0,vI 0]) fun w6 g6=>(Jp 2∘Jr∘Jy (v:= .agg Ev.zero.cells) (h:=by exact (Yl.build (vs:=[]) rfl kr kr))∘JA #[vI 0,vI 0,vB 0,vB 0,vI 0,vI 0,vI 0,vI 0,vI 0,vQ 0,vI 0]) fun w9 g9=>(JV ⟨kr,kr⟩ aZ (h1:=by exact zf Ev.zero)) fun Na=>(aR∘Jj∘JQ∘JP∘Jy (v:= .agg b.cells) (h:=by exact Yl.qg rfl rfl ⟨kr,kr⟩ rfl (fun _ h=>qb (h.blk (i:=2) rfl)))∘JL (h:=by exact fun HM=>KL b _)) ?_
 rintro HM _ uJ ⟨rfl,hbw⟩
 refine ⟨_,rfl,_,HM.call hbw,?_⟩
 refine (Jp 1∘aY∘Jj) (Ju (fun fG=>?_) fun fG=>?_)
 ·
  intro a Z HM
  have hrf:b.right=false:=by simpa using fG
  refine Jb Z HM ((JT∘JP∘Jy (v:= .agg Ev.zero.cells) (h:=by exact Yl.qg rfl rfl ⟨kr,kr⟩ rfl (fun _ h=>qb (h.blk (i:=0) rfl)))∘JV ⟨kr,kr⟩ dO (h1:=by exact zf Ev.zero)) fun ahy=>(Jp 2∘Jj∘JZ) fun a Z HM=>?_)
  exact bE rfl Z (.cellS (i:=1) Z HM rfl rfl ⟨kr,kr⟩ rfl) (.tmp Z rfl) (.tmp Z rfl) (⟨by rw [show aG b cpu _=_ from by rw [aG,if_pos hrf]];rfl,HM.below⟩)
 intro a Z HM
 have hrt:b.right=true:=by simpa using fG
 have hbd:=qyx hrt
 refine Jb Z HM ((JF∘aF∘JQ∘JP∘Jp 1∘Jl∘Jp 1∘aY∘Jj) (Ju (fun dZ=>?_) fun dZ=>?_))
 ·
  intro a Z HM
  have hn0:l=[]:=by simp at dZ;exact List.length_eq_zero_iff.1 om
  refine Jb Z HM ((JT∘JP∘Jy (v:= .agg Ev.zero.cells) (h:=by exact Yl.qg rfl rfl ⟨kr,kr⟩ rfl (fun _ h=>qb (h.blk (i:=0) rfl)))∘JV ⟨kr,kr⟩ dO (h1:=by exact zf Ev.zero)) fun Ay=>(Jp 2∘Jj∘JZ) fun a Z HM=>?_)
  exact bE rfl Z (.cellS (i:=1) Z HM rfl rfl ⟨kr,kr⟩ rfl) (.tmp Z rfl) (.tmp Z rfl) (⟨by rw [show aG b cpu _=_ from by rw [aG,if_neg (by simp [hrt]),if_pos hn0]];rfl,HM.below⟩)
 intro a Z HM
 have hn0:0<n:=by simp at dZ;omega
 revert HM;revert a;repeat (first|clear Z|clear HM)
 intro a Z HM
 obtain ⟨kd,r,rfl⟩:∃kd r,l=kd::r:=by cases l with
   |nil=>simp at hln;omega
   |cons a b=>exact ⟨a,b,rfl⟩
 have hkd:kd<256:=hl kd (by simp)
 simp only [List.length_cons] at hln
 have uq:=qO kd
 refine Jb Z HM ((JF∘aF∘JQ∘JP∘Jp 1) ?_)
 repeat (first|clear Z|clear HM)
 intro a Z HM
 obtain ⟨gA,oA,rfl,_⟩:=hr.qm (Nat.lt_of_le_of_lt (Nat.zero_le _) (show 0<n from by omega)) de
 refine Jb Z HM ((Jy (v:=vP gA oA) (h:=by exact Yl.indexAddr (ad:=⟨gA,oA,none⟩) (y:=0) (sz:=1) rfl rfl rfl om kr)∘Jy (v:=vB kd) (h:=by exact Yl.qn rfl rfl kr (fun _ h=>(h.old hr).uD (k:=0) (lW (F:=B8) (k:=0) (x:=kd) (rfl))))∘JL (h:=by exact fun HM=>Oj kd hkd _)) ?_)
 rintro HM _ EU ⟨⟨s,rfl,hs⟩,hbw⟩
 refine ⟨_,rfl,_,HM.call hbw,?_⟩
 refine (Jp 1∘Jo (.bool (!decide (1≤kd∧kd≤10))) (by rw [R6 hs])∘dR∘Jj) (Ju (fun oh=>?_) fun oh=>?_)
 ·
  intro a Z HM
  have Dj:(aj kd).length=0:=qm5 (by simp at oh;omega)
  refine Jb Z HM ((JT∘JP∘Jy (v:= .agg Ev.zero.cells) (h:=by exact Yl.qg rfl rfl ⟨kr,kr⟩ rfl (fun _ h=>qb (h.blk (i:=0) rfl)))∘JV ⟨kr,kr⟩ dO (h1:=by exact zf Ev.zero)) fun rF=>(Jp 2∘Jj∘JZ) fun a Z HM=>?_)
  exact bE rfl Z (.cellS (i:=1) Z HM rfl rfl ⟨kr,kr⟩ rfl) (.tmp Z rfl) (.tmp Z rfl) (⟨by rw [show aG b cpu _=_ from qkp hrt Dj];rfl,HM.below⟩)
 intro a Z HM
 have Dj:(aj kd).length≠0:=qyy (by simp at oh;omega)
 refine Jb Z HM ((JF∘aF∘JP∘Jp 1∘Jr∘Jp 1∘Jq) fun a Z HM=>?_)
 replace HM:=HM.nil 41 1
 refine Jb Z HM ((JG∘JQ∘JB) fun a Z HM=>?_)
 refine qc (fun mS aS wS=>∃(u:Nat) (xs:List Nat) (Ak:Option Addr) (ck:Nat),(1+u≤n)∧(∀x∈xs,x<18446744073709551616)∧(xs.length≤(2+(aj kd).length))∧(xs.length≤ck)∧(aH (2+(aj kd).length) r=fq xs u (aH ((2+(aj kd).length)-xs.length) (r.drop u)))∧mS=(2+(aj kd).length)-xs.length∧Fr aS 101 [] [(11,.slice Ak xs.length ck),(10,vI (1+u:Nat)),(30,.bool false),(24,.bool false),(20,.bool false),(9,vP g9 0),(8,vI 0),(7,vI 0),(6,vP g6 0),(3,vP g3 0),(1,vB cpu),(2,.slice (some ⟨gA,oA,none⟩) n c)]∧Mem w wS [.row (.slice Ak xs.length ck) xs.length (xs.map dB) 41 1,.blk g9 Ev.zero.cells 242,.blk g6 #[vI 0,vI 0,vB 0,vB 0,vI 0,vI 0,vI 0,vI 0,vI 0,vQ 0,vI 0] 242,.blk g3 b.cells 249]) (m:=(2+(aj kd).length)- [].length) ⟨0,[],none,0,by omega,fun x hx=>(by cases hx),Nat.zero_le _,Nat.le_refl _,(qyu _ (qyv _ _)).symm,rfl,Z.sub kr,HM.pk [0,1,2,3]⟩ ?_
 clear Z HM;rintro mS a w_ ⟨u,xs,Ak,ck,hu,hxs,hxl,hck,hj,rfl,Z,HM⟩
 refine Jb Z HM ((JQ∘JP∘Jp 1∘Jl∘Jp 1∘Jy (v:=vP gA oA) (h:=by exact Yl.indexAddr (ad:=⟨gA,oA,none⟩) (y:=0) (sz:=1) rfl rfl rfl om kr)∘Jy (v:=vB kd) (h:=by exact Yl.qn rfl rfl kr (fun _ h=>(h.old hr).uD (k:=0) (lW (F:=B8) (k:=0) (x:=kd) (rfl))))∘JL (h:=by exact fun HM=>WT kd hkd _)) ?_)
 rintro HM _ zR ⟨⟨v,Ph,rfl,ho⟩,hbw⟩
 obtain ⟨vo,c37,rfl,vv⟩:=zw ho
 refine ⟨_,rfl,_,HM.aQ hbw ho,?_⟩
 refine (Jl∘Jp 1∘Jo (vI (2+(aj kd).length:Nat)) (by rw [IntWalk.i64_in _ om];simp)∘Jp 1∘aI∘Jj) (Ju (fun dD=>?_) fun dD=>?_)
 ·
  intro a Z HM
  have hlt:xs.length<(2+(aj kd).length):=by simp at dD;omega
  obtain ⟨q,hq⟩:∃q,av (r.drop u)=q:=⟨_,rfl⟩
  have F5:=Ib (r.drop u) (fun y hy=>hl y (List.mem_cons_of_mem _ (List.mem_of_mem_drop hy)))
  have kW:=uw (r.drop u)
  rw [List.length_drop] at kW
  rw [hq] at F5 kW
  refine Jb Z HM ((JT∘aF∘JB∘JP∘Jp 2∘Jy (h:=by exact Yl.sliceFrom aB (j:=(1+u)) rfl rfl rfl om)∘JL (h:=by exact fun HM=>(by have h:=Xt _ (n- (1+u)) (c- (1+u)) _ (r.drop u) _ (by have h:=Rd.qZ (HM.old hr) (k:=1+u) om hc;rw [show (kd::r).drop (1+u)=r.drop u from by rw [Nat.add_comm];rfl] at h;exact h) (fun y hy=>hl y (List.mem_cons_of_mem _ (List.mem_of_mem_drop hy))) om;rw [hq] at h;exact h))) ?_)
  rintro HM _ Cw ⟨rfl,rfl⟩
  refine ⟨_,rfl,_,HM,?_⟩
  refine (Jp 1∘Jx∘Jx∘Jx∘Jp 3∘Jj∘JQ∘JP∘Jp 2∘aR∘Jj) (Ju (fun fD=>?_) fun fD=>?_)
  ·
   intro a Z HM
   have hq2:q.2.2≠0:=by rw [bne_iff_ne] at fD;omega
   refine Jb Z HM ((JT∘JP∘Jy (v:= .agg Ev.zero.cells) (h:=by exact Yl.qg rfl rfl ⟨kr,kr⟩ rfl (fun _ h=>qb (h.blk (i:=2) rfl)))∘Jp 1∘JV ⟨kr,kr⟩ jm (h1:=by exact zf Ev.zero)) fun EF=>(Jp 2∘Jj∘JZ∘JM (.f .n)) fun a Z HM=>?_)
   exact bE rfl Z (.cellS (i:=2) Z HM rfl rfl ⟨kr,kr⟩ rfl) (.tmp Z rfl) (.tmp Z rfl) (⟨by rw [show aG b cpu _=_ from qpb hrt Dj hj hlt hq hq2];rfl,HM.below⟩)
  intro a Z HM
  have hq2:q.2.2=0:=by rw [bne_eq_false_iff_eq] at fD;omega
  have hjn:=q2i hj hlt hq hq2
  refine Jb Z HM ((JF∘aF∘JP∘Jp 2∘JU qbv #[vQ q.1]) fun vL g55=>(JD [dB q.1] 2 (fun _ _=>fF) qbv (hr:=by exact fun HM=>HM.aU (i:=0) (n:=1) (size:=1) rfl rfl) (h1:=by simp [Value.oneCell',dB,B8])) fun w56 Yf Yg F6=>(Jp 1∘dR∘Jq) fun a Z HM=>?_)
  have sU:xs.length+1=(xs++[q.1]).length:=by simp
  replace HM:=HM.aV (i:=2) (ys:=(xs++[q.1]).map dB) rfl sU (by simp)
  rw [sU] at F6
  replace Z:=Z.sp 11 (.slice Yf ((xs++[q.1]).length) Yg) rfl (by rw [sU])
  refine Jb Z HM ((JG∘JR∘Jp 3∘Jo (vI (1+(u+q.2.1):Nat)) (by rw [IntWalk.i64_in _ om];congr 1;omega)∘Jp 1∘bT∘Jq) fun a Z HM=>?_)
  exact ⟨_,(by simp;omega),u+q.2.1,xs++[q.1],Yf,Yg,by omega,fun x hx=>(List.mem_append.1 hx).elim (hxs x) (fun h=>by rw [List.mem_singleton.1 h];exact F5),by simp;omega,F6,hjn,rfl,Z.sub kr,HM.pk [2,3,4,5]⟩
 intro a Z HM
 have hge:xs.length=(2+(aj kd).length):=by simp at dD;omega
 revert HM;revert a;repeat (first|clear Z|clear HM)
 intro a Z HM
 obtain ⟨x0,x1,vs,rfl⟩:∃x0 x1 vs,xs=x0::x1::vs:=by
   match xs,hge with
   |x0::x1::vs,_=>exact ⟨x0,x1,vs,rfl⟩
   |[],h=>simp at h;omega
   |[a],h=>simp at h;omega
 refine Jb Z HM ((JF∘JX∘JG∘JQ) fun a Z HM=>?_)
 refine qw (fun aS wS=>Fr aS 101 [] [(69,.bool (decide (281474976710656<x0∨281474976710656<x1))),(40,.bool false),(11,.slice Ak ((x0::x1::vs).length) ck),(10,vI (1+u:Nat)),(30,.bool false),(24,.bool false),(20,.bool false),(9,vP g9 0),(8,vI 0),(7,vI 0),(6,vP g6 0),(3,vP g3 0),(1,vB cpu),(2,.slice (some ⟨gA,oA,none⟩) n c)]∧Mem w wS [.row (.slice vo ((aj kd).length) c37) ((aj kd).length) Ph 9 1,.row (.slice Ak ((x0::x1::vs).length) ck) ((x0::x1::vs).length) ((x0::x1::vs).map dB) 41 1,.blk g9 Ev.zero.cells 242,.blk g6 #[vI 0,vI 0,vB 0,vB 0,vI 0,vI 0,vI 0,vI 0,vI 0,vQ 0,vI 0] 242,.blk g3 b.cells 249]) ?_ ?_
 ·
  refine wN ?_
  refine Jb Z HM ((Jp 1) ?_)
  repeat (first|clear Z|clear HM)
  intro a Z HM
  obtain ⟨qA,rfl⟩:=zb (HM.own (i:=1) rfl) (Nat.lt_of_le_of_lt (Nat.zero_le _) (show 0<(x0::x1::vs).length from by simp))
  refine Jb Z HM ((Jy (v:=vP qA 0) (h:=by exact Yl.indexAddr (ad:=⟨qA,0,none⟩) (y:=0) (sz:=1) rfl rfl rfl (by simp) kr)∘Jy (v:=vQ x0) (h:=by exact Yl.qn rfl rfl kr (fun _ h=>h.Ch (i:=1) rfl (k:=0) (lW (F:=dB) (k:=0) (x:=x0) (rfl))))∘Jp 2) (Ju (fun iU=>?_) fun iU=>?_))
  ·
   refine (Jp 5∘aI∘Jq) fun a Z HM=>?_
   have Z:=Z.sp 69 (.bool (decide (281474976710656<x0∨281474976710656<x1))) rfl (congrArg Value.bool (by skip;(try simp at dD);(try simp at iU);rw [Bool.eq_iff_iff];(try simp [dD,iU]);(try omega)))
   exact ⟨Z.sub kr,HM.pk [0,1,2,3,4]⟩
  refine (Jp 1∘Jy (v:=vP qA 1) (h:=by exact Yl.indexAddr (ad:=⟨qA,0,none⟩) (y:=1) (sz:=1) rfl rfl rfl (by simp) kr)∘Jy (v:=vQ x1) (h:=by exact Yl.qn rfl rfl kr (fun _ h=>h.Ch (i:=1) rfl (k:=1) (lW (F:=dB) (k:=1) (x:=x1) (rfl))))∘Jp 2∘aI∘Jq) fun a Z HM=>?_
  have Z:=Z.sp 69 (.bool (decide (281474976710656<x0∨281474976710656<x1))) rfl (congrArg Value.bool (by skip;(try simp at dD);(try simp at iU);rw [Bool.eq_iff_iff];(try simp [dD,iU]);(try omega)))
  exact ⟨Z.sub kr,HM.pk [0,1,2,3,4]⟩
 clear Z HM;rintro a w16 ⟨Z,HM⟩
 refine Jb Z HM (Ju (fun lJ=>?_) fun lJ=>?_)
 ·
  intro a Z HM
  have vg:281474976710656<x0∨281474976710656<x1:=by simpa using lJ
  refine Jb Z HM ((JT∘JP∘Jy (v:= .agg Ev.zero.cells) (h:=by exact Yl.qg rfl rfl ⟨kr,kr⟩ rfl (fun _ h=>qb (h.blk (i:=2) rfl)))∘JV ⟨kr,kr⟩ jm (h1:=by exact zf Ev.zero)) fun Yh=>(Jp 2∘Jj∘JZ∘JM (.f .n)) fun a Z HM=>?_)
  exact bE rfl Z (.cellS (i:=2) Z HM rfl rfl ⟨kr,kr⟩ rfl) (.tmp Z rfl) (.tmp Z rfl) (⟨by rw [show aG b cpu _=_ from (Ou hrt Dj hj hge).trans (quv ⟨hbd.1,hbd.2.2.1⟩ vg)];rfl,HM.below⟩)
 intro a Z HM
 have F7:¬(281474976710656<x0∨281474976710656<x1):=by simpa using lJ
 have hev:=q6s (x0:=x0) (x1:=x1) hbd bA hkd F7
 refine Jb Z HM ((JF∘aF) fun a Z HM=>?_)
 refine qw (fun aS wS=>∃(g15:Nat),Fr aS 101 [] [(16,vI ((b.ev cpu kd x0 x1).aD vs)),(15,vP g15 0),(69,.bool false),(40,.bool false),(11,.slice Ak ((x0::x1::vs).length) ck),(10,vI (1+u:Nat)),(30,.bool false),(24,.bool false),(20,.bool false),(9,vP g9 0),(8,vI 0),(7,vI 0),(6,vP g6 0),(3,vP g3 0),(2,.slice (some ⟨gA,oA,none⟩) n c)]∧Mem w wS [.blk g15 (((b.ev cpu kd x0 x1).aP vs).cells) 242,.row (.slice Ak ((x0::x1::vs).length) ck) ((x0::x1::vs).length) ((x0::x1::vs).map dB) 41 1,.blk g9 Ev.zero.cells 242,.blk g6 #[vI 0,vI 0,vB 0,vB 0,vI 0,vI 0,vI 0,vI 0,vI 0,vQ 0,vI 0] 242,.blk g3 b.cells 249]) ?_ ?_
 ·
  refine Jb Z HM ((Vs .n [26]) fun zC=>(Vf 0 0∘Vp [2]∘Vf 7 1∘Vp [9,14,15,19]∘Vc 1 O4) ?_)
  repeat (first|clear Z|clear HM|clear HS)
  intro a Z HM HS
  obtain ⟨qA,rfl⟩:=zb (HM.own (i:=1) rfl) (Nat.lt_of_le_of_lt (Nat.zero_le _) (show 0<(x0::x1::vs).length from by simp))
  refine Vb Z HM HS ((Vy 3 (v:=vP qA 0) (h:=by exact Yl.indexAddr (ad:=⟨qA,0,none⟩) (y:=0) (sz:=1) rfl rfl rfl (by simp) kr)∘Vy 4 (v:=vQ x0) (h:=by exact Yl.qn rfl rfl kr (fun _ h=>h.Ch (i:=1) rfl (k:=0) (lW (F:=dB) (k:=0) (x:=x0) (rfl))))∘Vq [5] [(77,vI (IntKind.i64.wrap (x0:Int)))]∘Vo (vI x0) (by rw [IntWalk.i64_in _ om])∘Vp [6]∘Vo (vI (b.seq+(x0:Int))) (by rw [IntWalk.i64_in _ om])∘Vc 8 O4∘Vy 10 (v:=vP qA 1) (h:=by exact Yl.indexAddr (ad:=⟨qA,0,none⟩) (y:=1) (sz:=1) rfl rfl rfl (by simp) kr)∘Vy 11 (v:=vQ x1) (h:=by exact Yl.qn rfl rfl kr (fun _ h=>h.Ch (i:=1) rfl (k:=1) (lW (F:=dB) (k:=1) (x:=x1) (rfl))))∘Vq [12] [(84,vI (IntKind.i64.wrap (x1:Int)))]∘Vo (vI x1) (by rw [IntWalk.i64_in _ om])∘Vp [13]∘Vo (vI (b.time+(x1:Int))) (by rw [IntWalk.i64_in _ om])∘Vy 16 (v:=vP gA oA) (h:=by exact Yl.indexAddr (ad:=⟨gA,oA,none⟩) (y:=0) (sz:=1) rfl rfl rfl om kr)∘Vy 17 (v:=vB kd) (h:=by exact Yl.qn rfl rfl kr (fun _ h=>(h.old hr).uD (k:=0) (lW (F:=B8) (k:=0) (x:=kd) (rfl))))∘Vy 18 (v:= .agg ((b.ev cpu kd x0 x1).cells)) (h:=by exact (Yl.build (vs:=[(0,vI (b.seq+(x0:Int))),(1,vI (b.time+(x1:Int))),(2,vB cpu),(3,vB kd)]) rfl kr kr))∘Vy 20 (h:=by exact Yl.sliceFrom qbv (j:=2) rfl rfl rfl (by simp))) fun a Z HM HS=>?_)
  refine pE [21,25] kr rfl ?_
  refine all_cons ?_ ?_
  ·refine jl Z (i:=21) rfl rfl ?_
   refine iQ Z [.agg ((b.ev cpu kd x0 x1).cells),.slice (if ck=2 then some ⟨qA,0,none⟩ else (some ⟨qA,0,none⟩:Option Addr).map (·.add (2*1))) (((x0::x1::vs).length)-2) (ck-2)] rfl rfl (Ye (b.ev cpu kd x0 x1) hev _ _ _ vs _ (by have h:=(HM.rd (i:=1) rfl).from (k:=2) (by simp) hck;exact h) (fun y hy=>hxs y (List.mem_cons_of_mem _ (List.mem_cons_of_mem _ hy)))) ?_
   rintro _ IY ⟨rfl,hbw⟩
   refine ⟨_,rfl,?_⟩
   replace HM:=HM.call hbw
   clear Z;intro a Z
   refine aK (HM.pk [0,1,2,3,4]) (fun HS=>?_)
   refine Vb Z HM HS ((Vp [22]∘Vx 23∘Vx 24∘VA 25 .n #[vI 0,vI 0,vB 0,vB 0,vI 0,vI 0,vI 0,vI 0,vI 0,vQ 0,vI 0]) fun oM g15=>fun a Z HM HS=>?_)
   refine s_on Z 26 rfl (bN Z HM 0 rfl rfl rfl rfl rfl ⟨kr,kr⟩ rfl rfl (zf ((b.ev cpu kd x0 x1).aP vs)) fun Ba HM=>?_)
   refine fZ kr ?_
   refine ap Z (dJ kr) [27] (bt 28 []) [(16,vI ((b.ev cpu kd x0 x1).aD vs))] fun a Z=>?_
   refine qd kr ?_
   refine Jb Z HM ((JM (.t (.f .n))) fun a Z HM=>?_)
   exact ⟨g15,Z.sub kr,HM.pk [0,1,2,3,4]⟩
  refine all_cons ?_ all_nil
  refine jl Z (i:=25) rfl rfl ?_
  refine kF Z HM #[vI 0,vI 0,vB 0,vB 0,vI 0,vI 0,vI 0,vI 0,vI 0,vQ 0,vI 0] ?_
  clear Z HM;intro a oM g15 Z HM
  refine aK (HM.pk [1,2,3,4,5]) (fun HS=>?_)
  refine s_on Z 21 rfl ?_
  refine iQ Z [.agg ((b.ev cpu kd x0 x1).cells),.slice (if ck=2 then some ⟨qA,0,none⟩ else (some ⟨qA,0,none⟩:Option Addr).map (·.add (2*1))) (((x0::x1::vs).length)-2) (ck-2)] rfl rfl (Ye (b.ev cpu kd x0 x1) hev _ _ _ vs _ (by have h:=(HM.rd (i:=2) rfl).from (k:=2) (by simp) hck;exact h) (fun y hy=>hxs y (List.mem_cons_of_mem _ (List.mem_cons_of_mem _ hy)))) ?_
  rintro _ IY ⟨rfl,hbw⟩
  refine ⟨_,rfl,?_⟩
  replace HM:=HM.call hbw
  clear Z;intro a Z
  refine aK (HM.pk [1,2,3,4,5]) (fun HS=>?_)
  refine Vb Z HM HS ((Vp [22]∘Vx 23∘Vx 24) fun a Z HM HS=>?_)
  refine s_on Z 26 rfl (bN Z HM 0 rfl rfl rfl rfl rfl ⟨kr,kr⟩ rfl rfl (zf ((b.ev cpu kd x0 x1).aP vs)) fun Ba HM=>?_)
  refine fZ kr ?_
  refine ap Z (dJ kr) [27] (bt 28 []) [(16,vI ((b.ev cpu kd x0 x1).aD vs))] fun a Z=>?_
  refine qd kr ?_
  refine Jb Z HM ((JM (.t (.f .n))) fun a Z HM=>?_)
  exact ⟨g15,Z.sub kr,HM.pk [0,1,2,3,4]⟩
 clear Z HM;rintro a qJ ⟨g15,Z,HM⟩
 refine Jb Z HM ((JQ∘JP∘Jp 2∘aY∘Jj) (Ju (fun Bb=>?_) fun Bb=>?_))
 ·
  intro a Z HM
  have Pj:(b.ev cpu kd x0 x1).aD vs≠0:=by rw [bne_iff_ne] at Bb;omega
  refine Jb Z HM ((JT∘JP∘Jy (v:= .agg Ev.zero.cells) (h:=by exact Yl.qg rfl rfl ⟨kr,kr⟩ rfl (fun _ h=>qb (h.blk (i:=2) rfl)))∘JV ⟨kr,kr⟩ jm (h1:=by exact zf Ev.zero)) fun Yi=>(Jp 2∘Jj∘JZ) fun a Z HM=>?_)
  exact bE rfl Z (.cellS (i:=3) Z HM rfl rfl ⟨kr,kr⟩ rfl) (.tmp Z rfl) (.tmp Z rfl) (⟨by rw [show aG b cpu _=_ from (Ou hrt Dj hj hge).trans (quw Pj)];rfl,HM.below⟩)
 intro a Z HM
 have Pj:(b.ev cpu kd x0 x1).aD vs=0:=by rw [bne_eq_false_iff_eq] at Bb;omega
 refine Jb Z HM ((JF∘aF∘JP∘Jy (v:= .agg (((b.ev cpu kd x0 x1).aP vs).cells)) (h:=by exact Yl.qg rfl rfl ⟨kr,kr⟩ rfl (fun _ h=>qb (h.blk (i:=0) rfl)))∘Jp 1∘JV ⟨kr,kr⟩ jm (h1:=by exact zf ((b.ev cpu kd x0 x1).aP vs))) fun Yj=>(Jp 2∘Jj∘JZ) fun a Z HM=>?_)
 exact bE rfl Z (.cellS (i:=3) Z HM rfl rfl ⟨kr,kr⟩ rfl) (.tmp Z rfl) (.tmp Z rfl) (⟨by rw [show aG b cpu _=_ from (Ou hrt Dj hj hge).trans (qrd Pj)];rfl,HM.below⟩)
theorem Yk (b:Bs) (cpu:Nat) (bA:cpu<256) (A:Option Addr) (n c:Nat) (l:List Nat) (w:World) (hr:Rd w w.heap.size 1 A n (l.map B8)) (hc:n≤c) (hl:∀b∈l,b<256) (hn:n≤140737488355328) (hln:l.length=n) {e:Ev} {L er:Nat} (h:aG b cpu l=(e,L,er)):
  Calls Tryz.prog 291 #[.agg b.cells,vB cpu,.slice A n c] w fun r w'=>r= .returned (.tuple #[.agg e.cells,vI L,vI er])∧Below w.heap.size w w':=
 (qu3 b cpu bA A n c l w hr hc hl hn hln).mono fun _ _ p=>⟨by rw [p.ret,h],p.below⟩
theorem qu4 (b:Bs) (cpu:Nat) (bA:cpu<256) (m:Int) (hm:aM m) (A:Option Addr) (n c:Nat) (l:List Nat) (w:World) (hr:Rd w w.heap.size 1 A n (l.map B8)) (hc:n≤c) (hl:∀b∈l,b<256) (hn:n≤1000000000) (hln:l.length=n):
    Calls Tryz.prog 248 #[.agg b.cells,vB cpu,vI m,.slice A n c] w (sG 242 w (bq b cpu m l)):=by
 refine (uY Tryz.func248 62) ?_
 refine (JP∘JE) fun w4 g4=>(Jp 3∘Jj∘JQ∘JP∘Jp 2∘aR∘Jj) (Ju (fun iF=>?_) fun iF=>?_)
 ·
  intro a Z HM
  have hm0:m<0:=by simpa using iF
  exact Jb Z HM ((JT∘JP∘Jp 3∘Jj∘JZ∘wU) fun HM=>Ku (er:=2) (by unfold bq;rw [if_pos hm0]) HM.below)
 intro a Z HM
 have hm0:¬m<0:=by simpa using iF
 refine Jb Z HM ((JF∘aF∘JQ∘JP∘Jy (v:= .agg b.cells) (h:=by exact Yl.qg rfl rfl ⟨kr,kr⟩ rfl (fun _ h=>qb (h.blk (i:=0) rfl)))∘JL (h:=by exact fun HM=>KL b _)) ?_)
 rintro HM _ uJ ⟨rfl,hbw⟩
 refine ⟨_,rfl,_,HM.call hbw,?_⟩
 refine (Jp 1∘aY∘Jj) (Ju (fun fG=>?_) fun fG=>?_)
 ·
  intro a Z HM
  have hrf:b.right=false:=by simpa using fG
  exact Jb Z HM ((JT∘JP∘Jp 3∘Jj∘JZ∘wU) fun HM=>Ku (er:=70) (by unfold bq;rw [if_neg hm0,if_pos hrf]) HM.below)
 intro a Z HM
 have hrt:b.right=true:=by simpa using fG
 refine Jb Z HM ((JF∘aF∘JP∘Jp 1∘Jq) fun a Z HM=>?_)
 replace HM:=HM.nil 242 11
 refine Jb Z HM ((JG∘JP∘Jp 1∘Jj∘JQ∘JB) fun a Z HM=>?_)
 refine qc (fun mS aS wS=>∃(es:List Ev) (u:Nat) (bk:Bs) (Ak:Option Addr) (ck:Nat),(dH b cpu m.toNat l es u bk)∧(es.length≤ck)∧mS=m.toNat-es.length∧Fr aS 62 [] [(12,vI u),(11,.slice Ak es.length ck),(20,.bool false),(17,.bool false),(10,vI 0),(9,vI 0),(8,vN),(4,vP g4 0),(1,vB cpu),(2,vI m),(3,.slice A n c)]∧Mem w wS [.row (.slice Ak es.length ck) es.length (es.flatMap aN) 242 11,.blk g4 bk.cells 249]) (m:=m.toNat- [].length) ⟨[],0,b,none,0,dH.start _ _ _ _,Nat.le_refl _,rfl,Z.sub kr,HM.pk [0,1]⟩ ?_
 clear Z HM;rintro mS a w_ ⟨es,u,bk,Ak,ck,hat,hck,rfl,Z,HM⟩
 refine Jb Z HM ((JQ∘JP∘Jp 1∘Jl∘Jp 2∘bT∘Jj) (Ju (fun dZ=>?_) fun dZ=>?_))
 ·
  intro a Z HM
  have hlt:es.length<m.toNat:=by simp at dZ;omega
  have hu:=hat.fits
  rw [hln] at hu
  have hmo:=hat.most
  obtain ⟨e,L,er,hq⟩:∃e L er,aG bk cpu (l.drop u)=(e,L,er):=⟨_,_,_,rfl⟩
  have htl:=(IE bk cpu (l.drop u)).1
  rw [hq,List.length_drop,hln] at htl
  simp only at htl
  refine Jb Z HM ((JT∘aF∘JB) fun a Z HM=>?_)
  refine qw (fun aS wS=>∃(g13:Nat),Fr aS 62 [] [(15,vI er),(14,vI L),(13,vP g13 0),(24,.bool true),(12,vI u),(11,.slice Ak es.length ck),(20,.bool false),(17,.bool false),(10,vI 0),(9,vI 0),(8,vN),(4,vP g4 0),(1,vB cpu),(2,vI m),(3,.slice A n c)]∧Mem w wS [.blk g13 e.cells 242,.row (.slice Ak es.length ck) es.length (es.flatMap aN) 242 11,.blk g4 bk.cells 249]) ?_ ?_
  ·
   refine Jb Z HM ((Vs .n [11]) fun Ng=>(Vp [1,2,3]∘Vy 0 (v:= .agg bk.cells) (h:=by exact Yl.qg rfl rfl ⟨kr,kr⟩ rfl (fun _ h=>qb (h.blk (i:=1) rfl)))∘Vy 4 (h:=by exact Yl.sliceFrom aB (j:=u) rfl rfl rfl (hu))) fun a Z HM HS=>?_)
   refine pE [5,10] kr rfl ?_
   refine all_cons ?_ ?_
   ·refine jl Z (i:=5) rfl rfl ?_
    refine iQ Z [.agg bk.cells,vB cpu,.slice (if c=u then A else A.map (·.add (u*1))) (n-u) (c-u)] rfl rfl (Yk bk cpu bA _ (n-u) (c-u) (l.drop u) _ (Rd.qZ (HM.old hr) (k:=u) hu hc) om (fun y hy=>hl y (List.mem_of_mem_drop hy)) om (by rw [List.length_drop];omega) hq) ?_
    rintro _ JY ⟨rfl,hbw⟩
    refine ⟨_,rfl,?_⟩
    replace HM:=HM.call hbw
    clear Z;intro a Z
    refine aK (HM.pk [0,1]) (fun HS=>?_)
    refine Vb Z HM HS ((Vp [6]∘Vx 7∘Vx 8∘Vx 9∘VA 10 .n #[vI 0,vI 0,vB 0,vB 0,vI 0,vI 0,vI 0,vI 0,vI 0,vQ 0,vI 0]) fun nD g13=>fun a Z HM HS=>?_)
    refine s_on Z 11 rfl (bN Z HM 0 rfl rfl rfl rfl rfl ⟨kr,kr⟩ rfl rfl (zf e) fun F8 HM=>?_)
    refine fZ kr ?_
    refine ap Z (dJ kr) [12,13] (bt 14 []) [(15,vI er),(14,vI L)] fun a Z=>?_
    refine qd kr ?_
    exact ⟨g13,Z.sub kr,HM.pk [0,1,2]⟩
   refine all_cons ?_ all_nil
   refine jl Z (i:=10) rfl rfl ?_
   refine kF Z HM #[vI 0,vI 0,vB 0,vB 0,vI 0,vI 0,vI 0,vI 0,vI 0,vQ 0,vI 0] ?_
   clear Z HM;intro a nD g13 Z HM
   refine aK (HM.pk [1,2]) (fun HS=>?_)
   refine s_on Z 5 rfl ?_
   refine iQ Z [.agg bk.cells,vB cpu,.slice (if c=u then A else A.map (·.add (u*1))) (n-u) (c-u)] rfl rfl (Yk bk cpu bA _ (n-u) (c-u) (l.drop u) _ (Rd.qZ (HM.old hr) (k:=u) hu hc) om (fun y hy=>hl y (List.mem_of_mem_drop hy)) om (by rw [List.length_drop];omega) hq) ?_
   rintro _ JY ⟨rfl,hbw⟩
   refine ⟨_,rfl,?_⟩
   replace HM:=HM.call hbw
   clear Z;intro a Z
   refine aK (HM.pk [1,2]) (fun HS=>?_)
   refine Vb Z HM HS ((Vp [6]∘Vx 7∘Vx 8∘Vx 9) fun a Z HM HS=>?_)
   refine s_on Z 11 rfl (bN Z HM 0 rfl rfl rfl rfl rfl ⟨kr,kr⟩ rfl rfl (zf e) fun F8 HM=>?_)
   refine fZ kr ?_
   refine ap Z (dJ kr) [12,13] (bt 14 []) [(15,vI er),(14,vI L)] fun a Z=>?_
   refine qd kr ?_
   exact ⟨g13,Z.sub kr,HM.pk [0,1,2]⟩
  clear Z HM;rintro a w8 ⟨g13,Z,HM⟩
  refine Jb Z HM ((JQ∘JP∘Jp 2∘aR∘Jj) (Ju (fun gD=>?_) fun gD=>?_))
  ·
   intro a Z HM
   have her:er≠0:=by rw [bne_iff_ne] at gD;omega
   exact Jb Z HM ((JT∘JP∘Jp 4∘Jj∘JZ∘wU) fun HM=>Ku (er:=er) ((Ow hm0 hrt).trans (hat.bad hlt hq her)) HM.below)
  intro a Z HM
  have Pk:er=0:=by rw [bne_eq_false_iff_eq] at gD;omega
  have hq0:aG bk cpu (l.drop u)=(e,L,0):=by rw [hq,Pk]
  refine Jb Z HM ((JF∘aF∘JQ) fun a Z HM=>?_)
  refine qw (fun aS wS=>Fr aS 62 [] [(47,.bool (es.getLast?.any (fun q=>decide (e.seq=q.seq)))),(36,.bool false),(15,vI er),(14,vI L),(13,vP g13 0),(24,.bool true),(12,vI u),(11,.slice Ak es.length ck),(20,.bool false),(17,.bool false),(10,vI 0),(9,vI 0),(8,vN),(4,vP g4 0),(1,vB cpu),(2,vI m),(3,.slice A n c)]∧Mem w wS [.blk g13 e.cells 242,.row (.slice Ak es.length ck) es.length (es.flatMap aN) 242 11,.blk g4 bk.cells 249]) ?_ ?_
  ·
   refine wN ?_
   refine Jb Z HM ((Jp 1∘Jl∘Jp 2) (Ju (fun Bc=>?_) fun Bc=>?_))
   ·
    intro a Z HM
    obtain ⟨q,hls⟩:∃q,es.getLast?=some q:=by cases es with
      |nil=>simp at Bc
      |cons a r=>exact ⟨_,List.getLast?_cons⟩
    have hbq:=hat.last q hls
    refine Jb Z HM ((Jg 0 O0∘Jg 0 O2∘Jp 2∘aI∘Jq) fun a Z HM=>?_)
    have Z:=Z.sp 47 (.bool (es.getLast?.any (fun q=>decide (e.seq=q.seq)))) rfl (congrArg Value.bool (by rw [hls];rw [hbq];rw [Bool.eq_iff_iff];simp [Ev.at]))
    exact ⟨Z.sub kr,HM.pk [0,1,2]⟩
   intro a Z HM
   have hls:es.getLast?=none:=by rw [List.length_eq_zero_iff.1 (show es.length=0 by have:=of_decide_eq_false Bc;omega)];rfl
   refine Jb Z HM ((Jp 6∘aI∘Jq) fun a Z HM=>?_)
   have Z:=Z.sp 47 (.bool (es.getLast?.any (fun q=>decide (e.seq=q.seq)))) rfl (congrArg Value.bool (by rw [hls];try rfl))
   exact ⟨Z.sub kr,HM.pk [0,1,2]⟩
  clear Z HM;rintro a mF ⟨Z,HM⟩
  refine Jb Z HM (Ju (fun Bd=>?_) fun Bd=>?_)
  ·
   exact (JT∘JP∘Jp 3∘Jj∘JZ∘wU) fun HM=>Ku (er:=71) ((Ow hm0 hrt).trans (hat.same hlt hq0 Bd)) HM.below
  intro a Z HM
  have hnx:=hat.next hlt hq0 Bd
  refine Jb Z HM ((JF∘aF∘JP∘Jp 1∘Jy (v:= .agg e.cells) (h:=by exact Yl.qg rfl rfl ⟨kr,kr⟩ rfl (fun _ h=>qb (h.blk (i:=0) rfl)))∘JU xI e.cells) fun IX Uf=>(JD (aN e) 2 (fun _ _=>fF) xI (hr:=by exact fun HM=>HM.aU (i:=0) (n:=1) (size:=11) rfl rfl) (h1:=by exact zf e)) fun IV jH c51 jI=>(Jp 1∘dR∘Jq) fun a Z HM=>?_)
  have fV:es.length+1=(es++[e]).length:=by simp
  replace HM:=HM.aV (i:=2) (ys:=(es++[e]).flatMap aN) rfl fV (by simp)
  rw [fV] at jI
  replace Z:=Z.sp 11 (.slice jH ((es++[e]).length) c51) rfl (by rw [fV])
  refine Jb Z HM ((JG∘JP∘Jp 3∘Jo (vI (u+L:Nat)) (by rw [IntWalk.i64_in _ om];simp)∘Jp 1∘bT∘Jj∘JR∘Jg 0 O1∘Jg 1 O1∘Jy (v:= .agg e.at.cells) (h:=by exact (Yl.build (vs:=[(0,vI e.seq),(1,vI e.time)]) rfl kr kr))∘JV ⟨kr,kr⟩ jm (h1:=by exact Ct e.at)) fun Ym=>(uV∘Jq) fun a Z HM=>?_)
  exact ⟨_,(by simp;omega),es++[e],u+L,e.at,jH,c51,hnx,jI,rfl,Z.sub kr,HM.pk [2,3]⟩
 intro a Z HM
 have hge:m.toNat≤es.length:=by simp at dZ;omega
 exact Jb Z HM ((JF∘JX∘JG∘JP∘Jp 5∘Jj∘JZ∘wU) fun HM=>qy0 ((Ow hm0 hrt).trans (hat.done hge)) (HM.own (i:=0) rfl) hck HM.below)
theorem qrm (b:Bs) (A:Option Addr) (n c:Nat) (l:List Ev) (hok:∀e∈l,e.Ok) (w:World) (hr:Rd w w.heap.size 11 A n (l.flatMap aN)) (hn:n≤1000000000) (hn47:n≤140737488355328) (hln:l.length=n):
    Calls Tryz.prog 130 #[.agg b.cells,.slice A n c] w (za w (qr b l) (zd b l)):=by
 refine (iG Tryz.func130 56) ?_
 refine (JP∘JE) fun w2 g2=>(Jp 2∘Jj∘JQ∘JP∘Jp 1∘JL (h:=by exact fun HM=>KJ _ _ _ l hok _ (HM.old hr) hn47 hln)) ?_
 rintro HM _ Cy ⟨rfl,hbw⟩
 refine ⟨_,rfl,_,HM.call hbw,?_⟩
 refine (Jp 1∘Jx∘Jx∘Jp 2∘aI∘Jr∘Jp 2∘aR∘Jj) (Ju (fun iC=>?_) fun iC=>?_)
 ·
  intro a Z HM
  have hr0:(bL l).2≠0:=by rw [bne_iff_ne] at iC;omega
  exact Jb Z HM ((JT∘JP∘Jp 3∘Jj∘JZ∘bY) fun HM=>Ov (qpc hr0) (hr0) HM.below)
 intro a Z HM
 have hr0:(bL l).2=0:=by rw [bne_eq_false_iff_eq] at iC;omega
 refine Jb Z HM ((JF∘aF∘JQ∘JP∘Jy (v:= .agg b.cells) (h:=by exact Yl.qg rfl rfl ⟨kr,kr⟩ rfl (fun _ h=>qb (h.blk (i:=0) rfl)))∘JL (h:=by exact fun HM=>KL b _)) ?_)
 rintro HM _ Az ⟨rfl,hbw⟩
 refine ⟨_,rfl,_,HM.call hbw,?_⟩
 refine (Jp 1∘aY∘Jj) (Ju (fun fM=>?_) fun fM=>?_)
 ·
  intro a Z HM
  have hrf:¬b.right=true:=by simpa using fM
  exact Jb Z HM ((JT∘JP∘Jp 2∘Jj∘JZ∘bY) fun HM=>Ov (qm6 hr0 hrf) de HM.below)
 intro a Z HM
 have hrt:b.right=true:=by simpa using fM
 refine Jb Z HM ((JF∘aF∘JP∘Jp 1∘Jq) fun a Z HM=>?_)
 replace HM:=HM.nil 5 1
 refine Jb Z HM ((JG∘JQ∘JP∘Jp 1∘Jj∘JB) fun a Z HM=>?_)
 refine qc (fun mS aS wS=>∃(k:Nat) (bk:Bs) (Ak:Option Addr) (ck:Nat),(k≤n)∧(WriteAt b l k bk)∧((zr b l k).length≤ck)∧mS=n-k∧Fr aS 56 [] [(9,vI k),(8,.slice Ak ((zr b l k).length) ck),(22,.bool false),(18,.bool false),(7,vI ((bL l).2)),(5,vI 0),(4,vN),(2,vP g2 0),(1,.slice A n c)]∧Mem w wS [.row (.slice Ak ((zr b l k).length) ck) ((zr b l k).length) ((zr b l k).map B8) 5 1,.blk g2 bk.cells 249]) (m:=n-0) ⟨0,b,none,0,Nat.zero_le _,WriteAt.start b l,Nat.le_refl _,rfl,Z.sub kr,HM.pk [0,1]⟩ ?_
 clear Z HM;rintro mS a w_ ⟨k,bk,Ak,ck,hk,hat,hck,rfl,Z,HM⟩
 refine Jb Z HM ((JQ∘JP∘Jp 2∘Jl∘Jp 1∘bT∘Jj) (Ju (fun dG=>?_) fun dG=>?_))
 ·
  intro a Z HM
  have kL:k<n:=by simp at dG;omega
  obtain ⟨e,hke⟩:∃e,l[k]?=some e:=⟨_,List.getElem?_eq_getElem om⟩
  have hpl:=qyz bk e
  have hwl:=qre b l k
  refine Jb Z HM ((JT∘aF∘JQ∘JB) fun a Z HM=>?_)
  refine wp_seq ?_
  refine Jb Z HM ((Vs .n []) fun ahi=>(Vp [1,2]∘Vy 0 (v:= .agg bk.cells) (h:=by exact Yl.qg rfl rfl ⟨kr,kr⟩ rfl (fun _ h=>qb (h.blk (i:=1) rfl)))) ?_)
  repeat (first|clear Z|clear HM|clear HS)
  intro a Z HM HS
  obtain ⟨gA,oA,rfl,_⟩:=hr.qm (Nat.lt_of_le_of_lt (Nat.zero_le _) (show k<n from kL)) de
  refine Vb Z HM HS ((Vy 3 (h:=by exact Yl.ix gA oA k 11 rfl rfl rfl (kL))∘Vy 4 (v:= .agg e.cells) (h:=by exact Yl.qg rfl rfl ⟨kr,kr⟩ rfl (fun _ h=>(h.old hr).q8 qv (hke)))∘VK 5 .n (h:=by exact fun HM=>qzg bk e (hok e (List.mem_of_getElem? hke)) _)) fun A35 c35 w35 ahj=>(Vp [6]∘Vx 7∘Vx 8∘Vp [9,10]∘Vd∘JQ∘JP∘Jp 2∘aR∘Jj) (Ju (fun gV=>?_) fun gV=>?_))
  ·
   intro a Z HM
   have hpe:qs bk e≠0:=by rw [bne_iff_ne] at gV;omega
   have OU:k=0:=hat.bad hr0 hrt hke hpe
   have hend:=hat.fail hr0 hrt hke OU hpe
   exact Jb Z HM ((JT∘JP∘Jp 3∘Jj∘JZ∘bY) fun HM=>Ov (hend) (hpe) HM.below)
  intro a Z HM
  have hpe:qs bk e=0:=by rw [bne_eq_false_iff_eq] at gV;omega
  have hup:=hat.up hke hpe
  have hnx:=hat.next hke hpe
  refine Jb Z HM ((JF∘aF∘JP∘Jp 2∘JD ((zz bk e).map B8) 1 (fun _ _=>dO) aB (hr:=by exact fun HM=>HM.rd (i:=0) rfl) (h1:=by exact zk _)) fun IU X3 X4 FU=>(Jp 1∘bT∘Jq) fun a Z HM=>?_)
  have sP:((zr b l k).length)+((zz bk e).length)=(zr b l (k+1)).length:=by rw [hup];simp
  replace HM:=HM.aV (i:=1) (ys:=(zr b l (k+1)).map B8) rfl sP (by rw [hup];simp)
  rw [sP] at FU
  replace Z:=Z.sp 8 (.slice X3 ((zr b l (k+1)).length) X4) rfl (by rw [sP])
  refine Jb Z HM ((JG∘Vs .n [11]) fun vw=>(Vp [0,1,5,6]∘Vy 2 (h:=by exact Yl.ix gA oA k 11 rfl rfl rfl (kL))∘Vf 3 0∘Vy 4 (v:=vI e.seq) (h:=by exact Yl.qn rfl rfl kr (fun _ h=>(by have:=(h.old hr).partAt qv (k:=k) (j:=0) (x:=e) (hke) rfl;simpa using this)))∘Vy 7 (h:=by exact Yl.ix gA oA k 11 rfl rfl rfl (kL))∘Vf 8 1∘Vy 9 (v:=vI e.time) (h:=by exact Yl.qn rfl rfl kr (fun _ h=>(h.old hr).partAt qv (k:=k) (j:=1) (x:=e) (hke) rfl))∘Vy 10 (v:= .agg e.at.cells) (h:=by exact (Yl.build (vs:=[(0,vI e.seq),(1,vI e.time)]) rfl kr kr))) fun a Z HM HS=>?_)
  refine s_on Z 11 rfl (bN Z HM 2 rfl rfl rfl rfl rfl ⟨kr,kr⟩ rfl rfl (Ct e.at) fun OV HM=>?_)
  refine fZ kr ?_
  refine qd kr ?_
  refine Jb Z HM ((JG∘JR∘Jp 2∘Jo (vI (k+1:Nat)) (by rw [IntWalk.i64_in _ om];simp)∘Jp 1∘aI∘Jq) fun a Z HM=>?_)
  exact ⟨_,om,k+1,e.at,X3,X4,by omega,hnx,FU,rfl,Z.sub kr,HM.pk [1,2]⟩
 repeat (first|clear Z|clear HM)
 intro a Z HM
 obtain rfl:n=k:=by simp at dG;omega
 exact Jb Z HM ((JF∘JX∘JG∘JP∘Jp 3∘Jj∘JZ∘bY) fun HM=>hat.done hr0 hrt hln (HM.own (i:=0) rfl) hck HM.below)
theorem qu1 (b:Bk) (hok:b.Ok) (A:Option Addr) (c:Nat) (w:World) (hr:Rd w w.heap.size 11 A b.evs.length (b.evs.flatMap aN)) (hn:b.evs.length≤1000000):
    Calls Tryz.prog 129 #[.agg (b.cells A c)] w (Is w (.bool b.fits)):=by
 refine (dh Tryz.func129 91) ?_
 refine (JP∘JE) fun w1 g1=>(Jp 1∘Jj∘JQ∘JP∘Jg 0 O0∘Jp 1∘aR∘Jj) (Ju (fun jO=>?_) fun jO=>?_)
 ·
  intro a Z HM
  have pR:=eq_of_beq jO
  refine Jb Z HM ((JT∘JP∘Jg 3 O0∘Jp 2) (Ji (fun lM=>?_) fun lM=>?_))
  ·
   refine (Jg 3 O0∘Jp 3) (Ji (fun fK=>?_) fun fK=>?_)
   ·
    refine (Jg 1 O0∘Jp 3) (Je (fun lF=>?_) fun lF=>?_)
    ·
     refine (Jg 2 O0∘Jp 3) (Je (fun hd27=>?_) fun hd27=>?_)
     ·
      exact (Jg 4 O0∘Jl∘Jp 3∘aI∘Jj∘JZ∘bB) fun HM=>by exact ⟨congrArg (fun x=>Ending.returned (.bool x)) (by rw [Fx om,Bool.eq_iff_iff,beq_iff_eq,decide_eq_true_eq];omega),HM.below⟩
     exact (Jp 6∘aI∘Jj∘JZ∘bB) fun HM=>by exact ⟨by rw [Fx om,decide_eq_false om],HM.below⟩
    exact (Jv 11 [(2,.bool false)]∘aI∘Jj∘JZ∘bB) fun HM=>by exact ⟨by rw [Fx om,decide_eq_false om],HM.below⟩
   exact (Jv 16 [(2,.bool false)]∘aI∘Jj∘JZ∘bB) fun HM=>by exact ⟨by rw [Fx om,decide_eq_false om],HM.below⟩
  exact (Jv 21 [(2,.bool false)]∘bT∘Jj∘JZ∘bB) fun HM=>by exact ⟨by rw [Fx om,decide_eq_false om],HM.below⟩
 intro a Z HM
 have pR:=ne_of_beq_false jO
 refine Jb Z HM ((JF∘aF∘JQ∘JP∘Jg 0 O0∘Jp 2) (Jh (fun AU=>?_) fun AU=>?_))
 ·
  exact (Jv 30 [(66,.bool true)]∘bT∘Jj∘JT∘JP∘Jp 1∘Jj∘JZ∘bB) fun HM=>by exact ⟨by rw [CU om om],HM.below⟩
 refine (Jg 1 O0∘Jp 3) (Ji (fun AV=>?_) fun AV=>?_)
 ·
  exact (Jv 25 [(66,.bool true)]∘aI∘Jj∘JT∘JP∘Jp 1∘Jj∘JZ∘bB) fun HM=>by exact ⟨by rw [CU om om],HM.below⟩
 refine (Jg 2 O0∘Jp 3) (Ji (fun nN=>?_) fun nN=>?_)
 ·
  exact (Jv 20 [(66,.bool true)]∘aI∘Jj∘JT∘JP∘Jp 1∘Jj∘JZ∘bB) fun HM=>by exact ⟨by rw [CU om om],HM.below⟩
 refine (Jg 2 O0∘Jp 3) (Ji (fun OW=>?_) fun OW=>?_)
 ·
  exact (Jv 15 [(66,.bool true)]∘aI∘Jj∘JT∘JP∘Jp 1∘Jj∘JZ∘bB) fun HM=>by exact ⟨by rw [CU om om],HM.below⟩
 refine (Jg 3 O0∘Jp 3) (Jh (fun nZ=>?_) fun nZ=>?_)
 ·
  exact (Jv 10 [(66,.bool true)]∘aI∘Jj∘JT∘JP∘Jp 1∘Jj∘JZ∘bB) fun HM=>by exact ⟨by rw [CU om om],HM.below⟩
 refine (Jg 2 O0∘Jp 2) (Je (fun zF=>?_) fun zF=>?_)
 ·
  refine (Jg 4 O0∘Jl∘Jp 3∘aI∘Jj) (Je (fun sQ=>?_) fun sQ=>?_)
  ·
   exact (JT∘JP∘Jp 1∘Jj∘JZ∘bB) fun HM=>by exact ⟨by rw [CU om om],HM.below⟩
  refine (JF∘aF∘JQ∘JP∘Jp 1∘Jj∘JB) fun a Z HM=>?_
  refine qc (fun mS aS wS=>∃(k:Nat),(k≤b.evs.length)∧(∀i,i<k→(b.evs.getD i Ev.zero).cpu=b.cpu)∧mS=b.evs.length-k∧Fr aS 91 [] [(3,vI k),(66,.bool false),(8,.bool false),(2,.bool false),(1,vP g1 0)]∧Mem w wS [.blk g1 (b.cells A c) 80]) (m:=b.evs.length-0) ⟨0,Nat.zero_le _,fun i hi=>absurd hi (Nat.not_lt_zero _),rfl,Z.sub kr,HM.pk [0]⟩ ?_
  clear Z HM;rintro mS a w_ ⟨k,hk,hall,rfl,Z,HM⟩
  refine Jb Z HM ((JQ∘JP∘Jp 1∘Jg 4 O0∘Jl∘Jp 1∘bT∘Jj) (Ji (fun AX=>?_) fun AX=>?_))
  ·
   refine (JT∘aF∘JQ∘JB) fun a Z HM=>?_
   refine wp_seq ?_
   refine Jb Z HM ((Vs .n []) fun Ng=>(Vf 0 4∘Vp [2]∘Vf 6 1∘Vc 1 O0) ?_)
   repeat (first|clear Z|clear HM|clear HS)
   intro a Z HM HS
   obtain ⟨gA,oA,rfl,_⟩:=hr.qm (Nat.lt_of_le_of_lt (Nat.zero_le _) (show k<b.evs.length from by omega)) de
   refine Vb Z HM HS ((Vy 3 (h:=by exact Yl.ix gA oA k 11 rfl rfl rfl)∘Vf 4 2∘Vy 5 (v:=vB ((b.evs.getD k Ev.zero).cpu)) (h:=by exact Yl.qn rfl rfl kr (fun _ h=>(h.old hr).partAt qv (k:=k) (j:=2) (x:=(b.evs.getD k Ev.zero)) ((getD_at Ev.zero (k:=k) (by first|omega|(simp;omega)))) rfl))∘Vc 7 O0∘Vp [8]∘Vd∘aI) (Jh (fun AY=>?_) fun AY=>?_))
   ·
    exact (JT∘JP∘Jp 1∘Jj∘JZ∘bB) fun HM=>by exact ⟨by rw [VO hok om (k:=k) om om],HM.below⟩
   refine (JF∘aF∘JR∘Jp 1∘cK 1∘Jp 1∘aY∘Jq) fun a Z HM=>?_
   exact ⟨_,om,k+1,by omega,fun i hi=>(Nat.lt_succ_iff_lt_or_eq.1 hi).elim (hall i) (fun h=>by subst h;omega),rfl,Z.sub kr,HM.pk [0]⟩
  refine (JF∘JX∘JG∘JP∘Jg 4 O0∘JL (h:=by exact fun HM=>KJ _ _ _ b.evs hok.evs _ (HM.old hr) om rfl)) ?_
  rintro HM _ X5 ⟨rfl,hbw⟩
  refine ⟨_,rfl,_,HM.call hbw,?_⟩
  exact (Jp 1∘Jx∘Jx∘Jp 2∘aI∘Jr∘Jp 3∘bT∘Jj∘JZ∘bB) fun HM=>by exact ⟨congrArg (fun x=>Ending.returned (.bool x)) (by rw [Ka om om om om om om (fun i hi=>hall i om),Bool.eq_iff_iff,beq_iff_eq,decide_eq_true_eq];omega),HM.below⟩
 refine (Jp 6∘aI∘Jj∘JF∘aF∘JQ∘JP∘Jp 1∘Jj∘JB) fun a Z HM=>?_
 refine qc (fun mS aS wS=>∃(k:Nat),(k≤b.evs.length)∧(∀i,i<k→(b.evs.getD i Ev.zero).cpu=b.cpu)∧mS=b.evs.length-k∧Fr aS 91 [] [(3,vI k),(66,.bool false),(8,.bool false),(2,.bool false),(1,vP g1 0)]∧Mem w wS [.blk g1 (b.cells A c) 80]) (m:=b.evs.length-0) ⟨0,Nat.zero_le _,fun i hi=>absurd hi (Nat.not_lt_zero _),rfl,Z.sub kr,HM.pk [0]⟩ ?_
 clear Z HM;rintro mS a w_ ⟨k,hk,hall,rfl,Z,HM⟩
 refine Jb Z HM ((JQ∘JP∘Jp 1∘Jg 4 O0∘Jl∘Jp 1∘bT∘Jj) (Ji (fun AX=>?_) fun AX=>?_))
 ·
  refine (JT∘aF∘JQ∘JB) fun a Z HM=>?_
  refine wp_seq ?_
  refine Jb Z HM ((Vs .n []) fun Ng=>(Vf 0 4∘Vp [2]∘Vf 6 1∘Vc 1 O0) ?_)
  repeat (first|clear Z|clear HM|clear HS)
  intro a Z HM HS
  obtain ⟨gA,oA,rfl,_⟩:=hr.qm (Nat.lt_of_le_of_lt (Nat.zero_le _) (show k<b.evs.length from by omega)) de
  refine Vb Z HM HS ((Vy 3 (h:=by exact Yl.ix gA oA k 11 rfl rfl rfl)∘Vf 4 2∘Vy 5 (v:=vB ((b.evs.getD k Ev.zero).cpu)) (h:=by exact Yl.qn rfl rfl kr (fun _ h=>(h.old hr).partAt qv (k:=k) (j:=2) (x:=(b.evs.getD k Ev.zero)) ((getD_at Ev.zero (k:=k) (by first|omega|(simp;omega)))) rfl))∘Vc 7 O0∘Vp [8]∘Vd∘aI) (Jh (fun AY=>?_) fun AY=>?_))
  ·
   exact (JT∘JP∘Jp 1∘Jj∘JZ∘bB) fun HM=>by exact ⟨by rw [VO hok om (k:=k) om om],HM.below⟩
  refine (JF∘aF∘JR∘Jp 1∘cK 1∘Jp 1∘aY∘Jq) fun a Z HM=>?_
  exact ⟨_,om,k+1,by omega,fun i hi=>(Nat.lt_succ_iff_lt_or_eq.1 hi).elim (hall i) (fun h=>by subst h;omega),rfl,Z.sub kr,HM.pk [0]⟩
 refine (JF∘JX∘JG∘JP∘Jg 4 O0∘JL (h:=by exact fun HM=>KJ _ _ _ b.evs hok.evs _ (HM.old hr) om rfl)) ?_
 rintro HM _ X5 ⟨rfl,hbw⟩
 refine ⟨_,rfl,_,HM.call hbw,?_⟩
 exact (Jp 1∘Jx∘Jx∘Jp 2∘aI∘Jr∘Jp 3∘bT∘Jj∘JZ∘bB) fun HM=>by exact ⟨congrArg (fun x=>Ending.returned (.bool x)) (by rw [Ka om om om om om om (fun i hi=>hall i om),Bool.eq_iff_iff,beq_iff_eq,decide_eq_true_eq];omega),HM.below⟩
theorem KM (b:Bk) (hok:b.Ok) (A:Option Addr) (c:Nat) (w:World) (hr:Rd w w.heap.size 11 A b.evs.length (b.evs.flatMap aN)) (hn:b.evs.length≤1000000) (hf:b.fits=true):
    Calls Tryz.prog 69 #[.agg (b.cells A c)] w (zh w b.raw):=by
 refine (dh Tryz.func69 83) ?_
 refine (JP∘JE) fun w1 g1=>(Jp 1∘Jq) fun a Z HM=>?_
 have hbl:=CK b
 refine Jb Z HM ((JG∘JP∘Jp 1∘Jj∘JQ∘JP∘Jg 0 O0∘Jp 1∘aR∘Jj) (Ju (fun gU=>?_) fun gU=>?_))
 ·
  intro a Z HM
  have jD:=eq_of_beq gU
  have hk2:b.kind=2:=by omega
  obtain ⟨n1,n2,n3,n4,n5⟩:=M4 hf hk2
  refine Jb Z HM ((JT∘JR∘Jg 3 O0∘Jv 1 [(14,vQ (IntKind.u64.wrap b.next))]∘Jo (vQ b.next.toNat) (by exact qY om om)∘JK (h:=by exact fun HM=>Xv b.next.toNat _ om)) fun X6 c15 oM ahl=>(Jp 1∘bT∘Jj) fun a Z HM=>?_)
  refine qw (fun aS wS=>∃(Ax:Option Addr) (cx:Nat),(b.body.length≤cx)∧Fr aS 83 [] [(3,.slice Ax b.body.length cx),(2,vN),(1,vP g1 0)]∧Mem w wS [.row (.slice Ax b.body.length cx) b.body.length (b.body.map B8) 5 1,.blk g1 (b.cells A c) 80]) ?_ ?_
  ·
   refine Jb Z HM ((JP∘Jg 4 O1∘Jl∘Jp 1∘aY∘Jj) fun a Z HM=>?_)
   have iV:(decide ((b.evs.length:Int)>(0:Int)))=false:=by rw [decide_eq_false om]
   have Z:=Z.sp 31 (.bool false) rfl (by rw [iV])
   have xS:((ak b.next.toNat)).length=b.body.length:=by rw [Xe hk2]
   replace HM:=HM.aV (i:=0) (ys:=b.body.map B8) rfl xS (by rw [Xe hk2])
   replace Z:=Z.sp 3 (.slice X6 b.body.length c15) rfl (by rw [xS])
   refine Jb Z HM ((JF∘JS) fun a Z HM=>?_)
   exact ⟨X6,c15,by omega,Z.sub kr,HM.pk [0,1]⟩
  clear Z HM;rintro a w9 ⟨Ax,cx,hcx,Z,HM⟩
  refine Jb Z HM ((JP∘Jp 1∘Jl∘cK 12∘Jp 1∘bT∘Jq) fun a Z HM=>?_)
  have hbl:=CK b
  refine Jb Z HM ((JG∘JP∘Jp 2∘Jo (vI ((b.body.length+12)%256:Nat)) (by exact nI .i64 _ 256)∘Jv 1 [(65,vB (IntKind.u8.wrap (((b.body.length+12)%256:Nat):Int)))]∘Jo (vB ((b.body.length+12)%256:Nat)) (by exact (kR ((b.body.length+12)%256)).trans (by rw [Nat.mod_mod]))∘Jp 2∘Jo (vI ((b.body.length+12)/256:Nat)) (by exact qH .i64 256 (by show _≤9223372036854775807;omega))∘Jp 1∘Jo (vI (((b.body.length+12)/256)%256:Nat)) (by exact nI .i64 _ 256)∘Jv 1 [(69,vB (IntKind.u8.wrap ((((b.body.length+12)/256)%256:Nat):Int)))]∘Jo (vB (((b.body.length+12)/256)%256:Nat)) (by exact (kR (((b.body.length+12)/256)%256)).trans (by rw [Nat.mod_mod]))∘Jp 2∘Jo (vI ((b.body.length+12)/65536:Nat)) (by exact qH .i64 65536 (by show _≤9223372036854775807;omega))∘Jp 1∘Jo (vI (((b.body.length+12)/65536)%256:Nat)) (by exact nI .i64 _ 256)∘Jv 1 [(73,vB (IntKind.u8.wrap ((((b.body.length+12)/65536)%256:Nat):Int)))]∘Jo (vB (((b.body.length+12)/65536)%256:Nat)) (by exact (kR (((b.body.length+12)/65536)%256)).trans (by rw [Nat.mod_mod]))∘Jp 2∘Jo (vI ((b.body.length+12)/16777216:Nat)) (by exact qH .i64 16777216 (by show _≤9223372036854775807;omega))∘Jv 1 [(76,vB (IntKind.u8.wrap (((b.body.length+12)/16777216:Nat):Int)))]∘Jo (vB (((b.body.length+12)/16777216)%256:Nat)) (by exact kR ((b.body.length+12)/16777216))∘Jg 0 O1∘JU aB #[vB ((b.body.length+12)%256:Nat),vB (((b.body.length+12)/256)%256:Nat),vB (((b.body.length+12)/65536)%256:Nat),vB (((b.body.length+12)/16777216)%256:Nat),vB 113,vB 116,vB 1,vB b.kind]) fun w79 g79=>(Jp 1∘aI∘Jr∘Jp 2) fun a Z HM=>?_)
  refine fo Z 2 rfl rfl ?_
  replace HM:=HM.dz (i:=0) (n:=8) (size:=1) rfl rfl de
  refine qV Z HM (i:=0) rfl aB rfl rfl rfl (news:=(b.body.map B8)) (HM.rd (i:=1) rfl) (zk _) om om rfl de ?_
  clear Z HM;intro a X7 Df Dg Z HM og
  refine Jb Z HM ((Jp 1∘aI∘Jq) fun a Z HM=>?_)
  have jU:8+b.body.length=b.raw.length:=by rw [CJ]
  replace HM:=HM.aV (i:=0) (ys:=b.raw.map B8) rfl jU (xJ b)
  rw [jU] at og
  replace Z:=Z.sp 2 (.slice Df b.raw.length Dg) rfl (by rw [jU])
  exact Jb Z HM ((JG∘JZ∘bB) fun HM=>by exact ⟨⟨_,_,rfl,HM.own (i:=0) rfl,og⟩,HM.below⟩)
 intro a Z HM
 have jD:=ne_of_beq_false gU
 have hk2:b.kind≠2:=by omega
 obtain ⟨m0,m1,m2,m3,m4⟩:=M0 hf hk2
 refine Jb Z HM ((JF∘JR∘Jg 1 O0∘Jw .u64∘Jg 2 O0∘Jv 1 [(21,vQ (IntKind.u64.wrap b.lost))]∘Jo (vQ b.lost.toNat) (by exact qY om om)∘Jg 4 O0∘Jl∘Jw .u64∘JU qbv #[vQ b.cpu,vQ b.lost.toNat,vQ b.evs.length]) fun Dh g26=>(JK (h:=by exact fun HM=>Xw _ 3 _ [b.cpu,b.lost.toNat,b.evs.length] _ (HM.aU (i:=0) (n:=3) (size:=1) rfl rfl) rfl (by intro x hx;simp only [List.mem_cons,List.not_mem_nil,or_false] at hx;omega) om)) fun xU xV OX hc27=>fun a Z HM=>?_)
 have FV:=uO [b.cpu,b.lost.toNat,b.evs.length]
 simp only [List.length_cons,List.length_nil] at FV
 refine Jb Z HM ((Jp 1∘aI∘Jj) fun a Z HM=>?_)
 refine qw (fun aS wS=>∃(Ax:Option Addr) (cx:Nat),(b.body.length≤cx)∧Fr aS 83 [] [(3,.slice Ax b.body.length cx),(2,vN),(1,vP g1 0)]∧Mem w wS [.row (.slice Ax b.body.length cx) b.body.length (b.body.map B8) 5 1,.blk g1 (b.cells A c) 80]) ?_ ?_
 ·
  refine Jb Z HM ((JP∘Jg 4 O2∘Jl∘Jp 1∘aY∘Jj) (Ju (fun iV=>?_) fun iV=>?_))
  ·
   intro a Z HM
   have hd31:=of_decide_eq_true iV
   obtain ⟨b1,b2,b3,b4⟩:0≤(b.evs.getD 0 Ev.zero).seq∧(b.evs.getD 0 Ev.zero).seq≤281474976710656∧0≤(b.evs.getD 0 Ev.zero).time∧(b.evs.getD 0 Ev.zero).time≤281474976710656:=by have hbd:=MZ hok hf hk2 om;rw [EO] at hbd;exact hbd
   have FW:=UC hok (xg hf hk2).2 om
   refine Jb Z HM ((JT∘JP∘Jg 4 O2) ?_)
   repeat (first|clear Z|clear HM)
   intro a Z HM
   obtain ⟨gA,oA,rfl,_⟩:=hr.qm (Nat.lt_of_le_of_lt (Nat.zero_le _) (show 0<b.evs.length from by omega)) de
   refine Jb Z HM ((Jy (v:=vP gA oA) (h:=by exact Yl.indexAddr (ad:=⟨gA,oA,none⟩) (y:=0) (sz:=11) rfl rfl rfl om kr)∘Jy (v:= .agg ((b.evs.getD 0 Ev.zero).cells)) (h:=by exact Yl.qg rfl rfl ⟨kr,kr⟩ rfl (fun _ h=>(h.old hr).q8 qv ((getD_at Ev.zero (k:=0) (by first|omega|(simp;omega))))))∘JA #[vI 0,vI 0,vB 0,vB 0,vI 0,vI 0,vI 0,vI 0,vI 0,vQ 0,vI 0]) fun w4 g4=>(JV ⟨kr,kr⟩ aZ (h1:=by exact zf (b.evs.getD 0 Ev.zero))) fun OY=>(bT∘Jr∘Jp 1∘Jg 0 O0∘Jv 1 [(39,vQ (IntKind.u64.wrap ((b.evs.getD 0 Ev.zero).seq)))]∘Jo (vQ (((b.evs.getD 0 Ev.zero).seq).toNat:Nat)) (by exact qY om om)∘Jg 1 O0∘Jv 1 [(42,vQ (IntKind.u64.wrap ((b.evs.getD 0 Ev.zero).time)))]∘Jo (vQ (((b.evs.getD 0 Ev.zero).time).toNat:Nat)) (by exact qY om om)∘JU qbv #[vQ (((b.evs.getD 0 Ev.zero).seq).toNat:Nat),vQ (((b.evs.getD 0 Ev.zero).time).toNat:Nat)]) fun IU Cv=>(JK (h:=by exact fun HM=>Xw _ 2 _ [(b.evs.getD 0 Ev.zero).seq.toNat,(b.evs.getD 0 Ev.zero).time.toNat] _ (HM.aU (i:=0) (n:=2) (size:=1) rfl rfl) rfl (by intro x hx;simp only [List.mem_cons,List.not_mem_nil,or_false] at hx;omega) om)) fun EY EZ Nh Ni=>fun a Z HM=>?_)
   have FX:=uO [(b.evs.getD 0 Ev.zero).seq.toNat,(b.evs.getD 0 Ev.zero).time.toNat]
   simp only [List.length_cons,List.length_nil] at FX
   refine Jb Z HM ((JD (([(b.evs.getD 0 Ev.zero).seq.toNat,(b.evs.getD 0 Ev.zero).time.toNat].flatMap ak).map B8) 3 (fun _ _=>jm) aB (hr:=by exact fun HM=>HM.rd (i:=0) rfl) (h1:=by exact zk _)) fun Cw A45 OP FQ=>(Jp 1∘aI∘Jq∘JM (.f (.f (.t (.t (.f .n)))))∘JG∘JP∘Jg 0 O0∘Jg 1 O0∘Jy (v:= .agg ((⟨(b.evs.getD 0 Ev.zero).seq,(b.evs.getD 0 Ev.zero).time⟩:Bs).cells)) (h:=by exact (Yl.build (vs:=[(0,vI ((b.evs.getD 0 Ev.zero).seq)),(1,vI ((b.evs.getD 0 Ev.zero).time))]) rfl kr kr))∘Jg 4 O2∘JK (h:=by exact fun HM=>(qrm ⟨(b.evs.getD 0 Ev.zero).seq,(b.evs.getD 0 Ev.zero).time⟩ _ _ _ b.evs hok.evs _ (HM.old hr) om om rfl).mono (fun _ _ h=>h.as (Cu:=0) (R':=recs b.base b.evs) (by rw [←EO];exact FW.1) (by rw [←EO];exact FW.2)))) fun xR uK pY sO=>fun a Z HM=>?_)
   have hrl:=EJ b.evs b.base
   refine Jb Z HM ((Jp 1∘Jx∘Jx∘Jp 2∘kg∘Jj∘JR∘Jp 2∘JD ((recs b.base b.evs).map B8) 2 (fun _ _=>fF) aB (hr:=by exact fun HM=>HM.rd (i:=0) rfl) (h1:=by exact zk _)) fun OZ jd c59 mV=>(Jp 1∘aI∘Jq) fun a Z HM=>?_)
   have sS:(((([b.cpu,b.lost.toNat,b.evs.length].flatMap ak)).length)+((([(b.evs.getD 0 Ev.zero).seq.toNat,(b.evs.getD 0 Ev.zero).time.toNat].flatMap ak)).length))+(((recs b.base b.evs)).length)=b.body.length:=by have h:=congrArg List.length (Xg hk2 om);rw [List.length_append,List.length_append] at h;omega
   replace HM:=HM.aV (i:=2) (ys:=b.body.map B8) rfl sS (by rw [←Xg hk2 om];simp)
   rw [sS] at mV
   replace Z:=Z.sp 3 (.slice jd b.body.length c59) rfl (by rw [sS])
   exact ⟨jd,c59,by omega,Z.sub kr,HM.pk [2,3]⟩
  intro a Z HM
  have hd31:=of_decide_eq_false iV
  have iw:(([b.cpu,b.lost.toNat,b.evs.length].flatMap ak)).length=b.body.length:=by rw [Xf hk2 om]
  replace HM:=HM.aV (i:=0) (ys:=b.body.map B8) rfl iw (by rw [Xf hk2 om])
  replace Z:=Z.sp 3 (.slice xU b.body.length xV) rfl (by rw [iw])
  refine Jb Z HM ((JF∘JS) fun a Z HM=>?_)
  exact ⟨xU,xV,by omega,Z.sub kr,HM.pk [0,2]⟩
 clear Z HM;rintro a w9 ⟨Ax,cx,hcx,Z,HM⟩
 refine Jb Z HM ((JP∘Jp 1∘Jl∘cK 12∘Jp 1∘bT∘Jq) fun a Z HM=>?_)
 have hbl:=CK b
 refine Jb Z HM ((JG∘JP∘Jp 2∘Jo (vI ((b.body.length+12)%256:Nat)) (by exact nI .i64 _ 256)∘Jv 1 [(65,vB (IntKind.u8.wrap (((b.body.length+12)%256:Nat):Int)))]∘Jo (vB ((b.body.length+12)%256:Nat)) (by exact (kR ((b.body.length+12)%256)).trans (by rw [Nat.mod_mod]))∘Jp 2∘Jo (vI ((b.body.length+12)/256:Nat)) (by exact qH .i64 256 (by show _≤9223372036854775807;omega))∘Jp 1∘Jo (vI (((b.body.length+12)/256)%256:Nat)) (by exact nI .i64 _ 256)∘Jv 1 [(69,vB (IntKind.u8.wrap ((((b.body.length+12)/256)%256:Nat):Int)))]∘Jo (vB (((b.body.length+12)/256)%256:Nat)) (by exact (kR (((b.body.length+12)/256)%256)).trans (by rw [Nat.mod_mod]))∘Jp 2∘Jo (vI ((b.body.length+12)/65536:Nat)) (by exact qH .i64 65536 (by show _≤9223372036854775807;omega))∘Jp 1∘Jo (vI (((b.body.length+12)/65536)%256:Nat)) (by exact nI .i64 _ 256)∘Jv 1 [(73,vB (IntKind.u8.wrap ((((b.body.length+12)/65536)%256:Nat):Int)))]∘Jo (vB (((b.body.length+12)/65536)%256:Nat)) (by exact (kR (((b.body.length+12)/65536)%256)).trans (by rw [Nat.mod_mod]))∘Jp 2∘Jo (vI ((b.body.length+12)/16777216:Nat)) (by exact qH .i64 16777216 (by show _≤9223372036854775807;omega))∘Jv 1 [(76,vB (IntKind.u8.wrap (((b.body.length+12)/16777216:Nat):Int)))]∘Jo (vB (((b.body.length+12)/16777216)%256:Nat)) (by exact kR ((b.body.length+12)/16777216))∘Jg 0 O1∘JU aB #[vB ((b.body.length+12)%256:Nat),vB (((b.body.length+12)/256)%256:Nat),vB (((b.body.length+12)/65536)%256:Nat),vB (((b.body.length+12)/16777216)%256:Nat),vB 113,vB 116,vB 1,vB b.kind]) fun w79 g79=>(Jp 1∘aI∘Jr∘Jp 2) fun a Z HM=>?_)
 refine fo Z 2 rfl rfl ?_
 replace HM:=HM.dz (i:=0) (n:=8) (size:=1) rfl rfl de
 refine qV Z HM (i:=0) rfl aB rfl rfl rfl (news:=(b.body.map B8)) (HM.rd (i:=1) rfl) (zk _) om om rfl de ?_
 clear Z HM;intro a X7 Df Dg Z HM og
 refine Jb Z HM ((Jp 1∘aI∘Jq) fun a Z HM=>?_)
 have jU:8+b.body.length=b.raw.length:=by rw [CJ]
 replace HM:=HM.aV (i:=0) (ys:=b.raw.map B8) rfl jU (xJ b)
 rw [jU] at og
 replace Z:=Z.sp 2 (.slice Df b.raw.length Dg) rfl (by rw [jU])
 exact Jb Z HM ((JG∘JZ∘bB) fun HM=>by exact ⟨⟨_,_,rfl,HM.own (i:=0) rfl,og⟩,HM.below⟩)
theorem KN (b:Bk) (hok:b.Ok) (A:Option Addr) (c:Nat) (w:World) (hr:Rd w w.heap.size 11 A b.evs.length (b.evs.flatMap aN)) (hn:b.evs.length≤1000000):
    Calls Tryz.prog 68 #[.agg (b.cells A c)] w (Is w (vI (b.err:Int))):=by
 refine (dh Tryz.func68 11) ?_
 refine (JP∘JE) fun w1 g1=>(Jp 1∘Jj∘JQ∘JP∘Jy (v:= .agg (b.cells A c)) (h:=by exact Yl.qg rfl rfl qi rfl (fun _ h=>qb (h.blk (i:=0) rfl)))∘JI (h:=by exact fun HM=>qu1 b hok A c _ (HM.old hr) hn)) fun w4 hbw=>(Jp 1∘aY∘Jj) (Ju (fun hb5=>?_) fun hb5=>?_)
 ·
  intro a Z HM
  have hf:b.fits=false:=by simpa using hb5
  exact Jb Z HM ((JT∘JP∘Jp 1∘Jj∘JZ∘bB) fun HM=>by exact ⟨by rw [show b.err=107 from by unfold Bk.err;rw [if_pos hf]];rfl,HM.below⟩)
 intro a Z HM
 have hf:b.fits=true:=by simpa using hb5
 refine Jb Z HM ((JF∘aF∘JQ∘JP∘Jy (v:= .agg (b.cells A c)) (h:=by exact Yl.qg rfl rfl qi rfl (fun _ h=>qb (h.blk (i:=0) rfl)))∘JK (h:=by exact fun HM=>KM b (hok) A c _ (HM.old hr) (hn) (hf))) fun A7 c7 w7 U7=>fun a Z HM=>?_)
 have ahp:=CJ b
 have ahq:=CK b
 refine Jb Z HM ((Jl∘cK 4∘Jp 1∘dR∘Jj) (Ji (fun iB=>?_) fun iB=>?_))
 ·
  exact (JT∘JP∘Jp 1∘Jj∘JZ∘JM (.f .n)∘bB) fun HM=>by exact ⟨by rw [show b.err=3 from by unfold Bk.err;rw [if_neg (by rw [hf];decide),if_pos om]];rfl,HM.below⟩
 exact (JF∘aF∘JP∘Jp 1∘Jj∘JZ∘JM (.f .n)∘bB) fun HM=>by exact ⟨by rw [show b.err=0 from by unfold Bk.err;rw [if_neg (by rw [hf];decide),if_neg om]];rfl,HM.below⟩
theorem Pb (b:Bk) (hok:b.Ok) (A:Option Addr) (c:Nat) (w:World) (hr:Rd w w.heap.size 11 A b.evs.length (b.evs.flatMap aN)) (hn:b.evs.length≤1000000):
    Calls Tryz.prog 26 #[.agg (b.cells A c)] w (za w b.err b.out):=by
 refine (dh Tryz.func26 13) ?_
 refine (JP∘JE) fun w1 g1=>(Jp 2∘Jj∘JQ∘JP∘Jy (v:= .agg (b.cells A c)) (h:=by exact Yl.qg rfl rfl qi rfl (fun _ h=>qb (h.blk (i:=0) rfl)))∘JI (h:=by exact fun HM=>KN b hok A c _ (HM.old hr) hn)) fun w6 hbw=>(Jp 1∘aY∘Jr∘Jp 2∘aR∘Jj) (Ju (fun jO=>?_) fun jO=>?_)
 ·
  intro a Z HM
  have pR:=bne_iff_ne.1 jO
  have he:b.err≠0:=by omega
  exact Jb Z HM ((JT∘JP∘Jp 3∘Jj∘JZ∘bY) fun HM=>Nj rfl he HM.below)
 intro a Z HM
 have pR:=bne_eq_false_iff_eq.1 jO
 have he:b.err=0:=by omega
 obtain ⟨hf,hbb⟩:=Ny he
 refine Jb Z HM ((JF∘aF∘JP∘Jy (v:= .agg (b.cells A c)) (h:=by exact Yl.qg rfl rfl qi rfl (fun _ h=>qb (h.blk (i:=0) rfl)))∘JK (h:=by exact fun HM=>KM b (hok) A c _ (HM.old hr) (hn) (hf))) fun kU c11 mF lQ=>fun a Z HM=>?_)
 have X8:=CJ b
 have X9:=CK b
 exact Jb Z HM ((JK (h:=by exact fun HM=>XY _ _ _ b.raw _ (HM.rd (i:=0) rfl) rfl om (E5 hok))) fun FN c12 Cx FP=>(Jp 2∘Jj∘JZ∘JM (.t (.f .n))∘bY) fun HM=>FD he (HM.own (i:=0) rfl) FP HM.below)
theorem qzi {b d:Bk} (h1:b.kind=d.kind) (h2:b.cpu=d.cpu) (h3:b.lost=d.lost) (h4:b.next=d.next) (h5:b.evs.length=d.evs.length) (h:∀i,i<b.evs.length→b.evs.getD i Ev.zero=d.evs.getD i Ev.zero):b=d:=by
 have he:b.evs=d.evs:=by
  apply List.ext_getElem h5
  intro i hi hj
  have:=h i hi
  rwa [List.getD_eq_getElem?_getD,List.getD_eq_getElem?_getD,List.getElem?_eq_getElem hi,List.getElem?_eq_getElem hj] at this
 cases b;cases d
 simp only at h1 h2 h3 h4 he
 subst h1;subst h2;subst h3;subst h4;subst he
 rfl
theorem FZ {b d:Bk} (h:b.kind≠d.kind∨b.cpu≠d.cpu∨b.lost≠d.lost∨b.next≠d.next∨b.evs.length≠d.evs.length):¬b=d:=by
 rintro rfl
 omega
theorem qpq (A:Option Addr) (n cp:Nat) (l:List Nat) (w:World) (hr:Rd w w.heap.size 1 A n (l.map B8)) (hln:l.length=n) (hn:n≤9223372036854775807) (hl:∀b∈l,b<256):
    Calls Tryz.prog 179 #[.slice A n cp] w (Is w (.tuple #[vI ((aC l).1:Int),vI ((aC l).2:Int)])):=by
 refine (dh Tryz.func179 41) ?_
 refine (JP∘Jp 2∘Jj∘JQ∘JP∘Jp 1∘Jl∘Jp 1∘aY∘Jj) (Ju (fun Pf=>?_) fun Pf=>?_)
 ·
  intro a Z HM
  have hd7:=of_decide_eq_true Pf
  exact Jb Z HM ((JT∘JP∘Jp 2∘Jj∘JZ∘bY) fun HM=>uH (by unfold aC;rw [if_pos om]) HM.below)
 intro a Z HM
 have hd7:=of_decide_eq_false Pf
 revert HM;revert a;repeat (first|clear Z|clear HM)
 intro a Z HM
 obtain ⟨gA,oA,rfl,_⟩:=hr.qm (Nat.lt_of_le_of_lt (Nat.zero_le _) (show 0<n from by omega)) de
 refine Jb Z HM ((JF∘aF) fun a Z HM=>?_)
 refine wp_seq ?_
 refine Jb Z HM ((Vs .n []) fun wd3=>(Vp [0,4,10,16]∘Vy 1 (v:=vP gA oA) (h:=by exact Yl.indexAddr (ad:=⟨gA,oA,none⟩) (y:=0) (sz:=1) rfl rfl rfl om kr)∘VH (getD_lt hl (k:=0) (by first|omega|(simp;omega)))) fun M7=>(Vy 2 (h:=by exact Yl.o1 hr 0 0 (by first|omega|(simp;omega)) rfl rfl)∘Vw 3 .i64∘Vy 5 (v:=vP gA (oA+1)) (h:=by exact Yl.indexAddr (ad:=⟨gA,oA,none⟩) (y:=1) (sz:=1) rfl rfl rfl om kr)∘VH (getD_lt hl (k:=1) (by first|omega|(simp;omega)))) fun M8=>(Vy 6 (h:=by exact Yl.o1 hr 1 0 (by first|omega|(simp;omega)) rfl rfl)∘Vw 7 .i64∘Vp [8]∘Vo (vI (256*(l.getD 1 0):Nat)) (by exact zq om om)∘Va 9∘Vy 11 (v:=vP gA (oA+2)) (h:=by exact Yl.indexAddr (ad:=⟨gA,oA,none⟩) (y:=2) (sz:=1) rfl rfl rfl om kr)∘VH (getD_lt hl (k:=2) (by first|omega|(simp;omega)))) fun M9=>(Vy 12 (h:=by exact Yl.o1 hr 2 0 (by first|omega|(simp;omega)) rfl rfl)∘Vw 13 .i64∘Vp [14]∘Vo (vI (65536*(l.getD 2 0):Nat)) (by exact zq om om)∘Va 15∘Vy 17 (v:=vP gA (oA+3)) (h:=by exact Yl.indexAddr (ad:=⟨gA,oA,none⟩) (y:=3) (sz:=1) rfl rfl rfl om kr)∘VH (getD_lt hl (k:=3) (by first|omega|(simp;omega)))) fun EW=>(Vy 18 (h:=by exact Yl.o1 hr 3 0 (by first|omega|(simp;omega)) rfl rfl)∘Vw 19 .i64∘Vp [20]∘Vo (vI (16777216*(l.getD 3 0):Nat)) (by exact zq om om)∘Vp [21]∘Vo (vI (dS l)) (by exact zq (by unfold dS;omega) (by unfold dS;omega))∘Vp [22]∘Vd∘aI∘JQ∘JP∘Jp 3) (Ji (fun hd32=>?_) fun hd32=>?_))
 ·
  exact (Jp 3∘fJ∘Jj∘JT∘JP∘Jp 2∘Jj∘JZ∘bY) fun HM=>uH (by unfold aC;rw [if_neg om,if_pos om]) HM.below
 refine (Jp 3∘fJ∘Jj) (Ji (fun lN=>?_) fun lN=>?_)
 ·
  exact (JT∘JP∘Jp 2∘Jj∘JZ∘bY) fun HM=>uH (by unfold aC;rw [if_neg om,if_pos om]) HM.below
 refine (JF∘aF∘JQ∘JP∘Jp 1∘Jl∘Jp 2∘bT∘Jj) (Ji (fun hd39=>?_) fun hd39=>?_)
 ·
  exact (JT∘JP∘Jp 2∘Jj∘JZ∘bY) fun HM=>uH (by unfold aC;rw [if_neg om,if_neg om,if_pos om]) HM.below
 exact (JF∘aF∘JP∘Jp 3∘Jj∘JZ∘bY) fun HM=>uH (by unfold aC;rw [if_neg om,if_neg om,if_neg om]) HM.below
theorem Yb (b d:Bk) (A A2:Option Addr) (c c2:Nat) (w:World) (hr:Rd w w.heap.size 11 A b.evs.length (b.evs.flatMap aN)) (hr2:Rd w w.heap.size 11 A2 d.evs.length (d.evs.flatMap aN)) (hn:b.evs.length≤1000000):
    Calls Tryz.prog 78 #[.agg (b.cells A c),.agg (d.cells A2 c2)] w (Is w (.bool (decide (b=d)))):=by
 refine (iG Tryz.func78 59) ?_
 refine (JP∘JE) fun w2 g2=>(JE) fun w3 g3=>(Jp 1∘Jj∘JQ∘JP∘Jg 0 O1∘Jg 0 O0∘Jp 2) (Jh (fun jD=>?_) fun jD=>?_)
 ·
  exact (Jv 29 [(40,.bool true)]∘dR∘Jj∘JT∘JP∘Jp 1∘Jj∘JZ∘bB) fun HM=>by exact ⟨by rw [decide_eq_false (FZ om)],HM.below⟩
 refine (Jg 1 O1∘Jg 1 O0∘Jp 3) (Jh (fun rY=>?_) fun rY=>?_)
 ·
  exact (Jv 22 [(40,.bool true)]∘aI∘Jj∘JT∘JP∘Jp 1∘Jj∘JZ∘bB) fun HM=>by exact ⟨by rw [decide_eq_false (FZ om)],HM.below⟩
 refine (Jg 2 O1∘Jg 2 O0∘Jp 3) (Jh (fun hd25=>?_) fun hd25=>?_)
 ·
  exact (Jv 15 [(40,.bool true)]∘aI∘Jj∘JT∘JP∘Jp 1∘Jj∘JZ∘bB) fun HM=>by exact ⟨by rw [decide_eq_false (FZ om)],HM.below⟩
 refine (Jg 3 O1∘Jg 3 O0∘Jp 3) (Jh (fun hd32=>?_) fun hd32=>?_)
 ·
  exact (Jv 8 [(40,.bool true)]∘aI∘Jj∘JT∘JP∘Jp 1∘Jj∘JZ∘bB) fun HM=>by exact ⟨by rw [decide_eq_false (FZ om)],HM.below⟩
 refine (Jg 4 O1∘Jl∘Jg 4 O0∘Jl∘Jp 2∘aI∘Jj) (Jh (fun jG=>?_) fun jG=>?_)
 ·
  exact (JT∘JP∘Jp 1∘Jj∘JZ∘bB) fun HM=>by exact ⟨by rw [decide_eq_false (FZ om)],HM.below⟩
 refine (JF∘aF∘JQ∘JP∘Jp 1∘Jj∘JB) fun a Z HM=>?_
 refine qc (fun mS aS wS=>∃(k:Nat),(k≤b.evs.length)∧(∀i,i<k→b.evs.getD i Ev.zero=d.evs.getD i Ev.zero)∧mS=b.evs.length-k∧Fr aS 59 [] [(5,vI k),(40,.bool false),(4,.bool false),(3,vP g3 0),(2,vP g2 0)]∧Mem w wS [.blk g3 (d.cells A2 c2) 80,.blk g2 (b.cells A c) 80]) (m:=b.evs.length-0) ⟨0,Nat.zero_le _,fun i hi=>absurd hi (Nat.not_lt_zero _),rfl,Z.sub kr,HM.pk [0,1]⟩ ?_
 clear Z HM;rintro mS a w_ ⟨k,hk,hall,rfl,Z,HM⟩
 refine Jb Z HM ((JQ∘JP∘Jp 1∘Jg 4 O1∘Jl∘Jp 1∘bT∘Jj) (Ju (fun nV=>?_) fun nV=>?_))
 ·
  intro a Z HM
  have r9:=of_decide_eq_true nV
  have ahu:k<b.evs.length:=by omega
  refine Jb Z HM ((JT∘aF∘JQ∘JB) fun a Z HM=>?_)
  refine wp_seq ?_
  refine Jb Z HM ((Vs .n []) fun ET=>(Vf 0 4∘Vp [2]∘Vf 5 4∘Vp [7]∘Vc 1 O1) ?_)
  repeat (first|clear Z|clear HM|clear HS)
  intro a Z HM HS
  obtain ⟨gA,oA,rfl,_⟩:=hr.qm (Nat.lt_of_le_of_lt (Nat.zero_le _) (show k<b.evs.length from by omega)) de
  refine Vb Z HM HS ((Vy 3 (h:=by exact Yl.ix gA oA k 11 rfl rfl rfl)∘Vy 4 (v:= .agg ((b.evs.getD k Ev.zero).cells)) (h:=by exact Yl.qg rfl rfl ⟨kr,kr⟩ rfl (fun _ h=>(h.old hr).q8 qv ((getD_at Ev.zero (k:=k) (by first|omega|(simp;omega))))))∘Vc 6 O0) ?_)
  repeat (first|clear Z|clear HM|clear HS)
  intro a Z HM HS
  obtain ⟨rQ,rR,rfl,_⟩:=hr2.qm (Nat.lt_of_le_of_lt (Nat.zero_le _) (show k<d.evs.length from by omega)) de
  refine Vb Z HM HS ((Vy 8 (h:=by exact Yl.ix rQ rR k 11 rfl rfl rfl)∘Vy 9 (v:= .agg ((d.evs.getD k Ev.zero).cells)) (h:=by exact Yl.qg rfl rfl ⟨kr,kr⟩ rfl (fun _ h=>(h.old hr2).q8 qv ((getD_at Ev.zero (k:=k) (by first|omega|(simp;omega))))))∘Vy 10 (v:= .bool (!(decide ((b.evs.getD k Ev.zero)=(d.evs.getD k Ev.zero))))) (h:=by exact Yl.Un (x:=(b.evs.getD k Ev.zero)) (y:=(d.evs.getD k Ev.zero)) rfl rfl rfl kr)∘Vd∘aI) (Ju (fun kM=>?_) fun kM=>?_))
  ·
   intro a Z HM
   have AZ:=of_decide_eq_false ((Bool.not_eq_true' _).mp kM)
   exact Jb Z HM ((JT∘JP∘Jp 1∘Jj∘JZ∘bB) fun HM=>by exact ⟨by rw [decide_eq_false (fun h=>by rw [h] at kM;simp at kM)],HM.below⟩)
  intro a Z HM
  have AZ:=of_decide_eq_true ((Bool.not_eq_false' _).mp kM)
  refine Jb Z HM ((JF∘aF∘JR∘Jp 1∘cK 1∘Jp 1∘aY∘Jq) fun a Z HM=>?_)
  exact ⟨_,om,k+1,by omega,fun i hi=>(Nat.lt_succ_iff_lt_or_eq.1 hi).elim (hall i) (fun h=>by subst h;simpa using kM),rfl,Z.sub kr,HM.pk [0,1]⟩
 intro a Z HM
 have r9:=of_decide_eq_false nV
 exact Jb Z HM ((JF∘JX∘JG∘JP∘Jp 1∘Jj∘JZ∘bB) fun HM=>by exact ⟨by rw [decide_eq_true (qzi om om om om om (fun i hi=>hall i om))],HM.below⟩)
theorem Pm (A:Option Addr) (c m:Nat) (l:List Nat) (w:World) (hr:Rd w w.heap.size 1 A l.length (l.map B8)) (hc:l.length≤c) (hn:l.length≤100000000) (hm:m≤1000000) (hl:∀b∈l,b<256):
    Calls Tryz.prog 247 #[.slice A l.length c,vI m] w (Xh w A l (ay m l)):=by
 refine (iG Tryz.func247 33) ?_
 refine (JP∘Jp 2∘Jr∘Jp 1∘Jq) fun a Z HM=>?_
 replace HM:=HM.nil 41 1
 refine Jb Z HM ((JG∘JQ∘JB) fun a Z HM=>?_)
 refine qc (fun mS aS wS=>∃(xs:List Nat) (Ak:Option Addr) (ck:Nat) (rl:List Nat) (X:Option Addr) (cX:Nat),(xs.length≤m)∧(xs.length≤ck)∧(ay m l=(xs++(ay (m-xs.length) rl).1,(ay (m-xs.length) rl).2))∧(∀v:World,Rd v v.heap.size 1 A l.length (l.map B8)→Rd v v.heap.size 1 X rl.length (rl.map B8))∧(∀b∈rl,b<256)∧(rl.length≤cX)∧(rl.length≤l.length)∧mS=m-xs.length∧Fr aS 33 [] [(6,.slice Ak xs.length ck),(5,vN),(4,vN),(0,.slice X rl.length cX),(1,vI m)]∧Mem w wS [.row (.slice Ak xs.length ck) xs.length (xs.map dB) 41 1]) (m:=m- [].length) ⟨[],none,0,l,A,c,Nat.zero_le _,Nat.le_refl _,by simp,fun _ h=>h,hl,hc,Nat.le_refl _,rfl,Z.sub kr,HM.pk [0]⟩ ?_
 clear Z HM;rintro mS a w_ ⟨xs,Ak,ck,rl,X,cX,hxm,hck,hj,hrl,hll,KI,hlen,rfl,Z,HM⟩
 refine Jb Z HM ((JQ∘JP∘Jp 1∘Jl∘Jp 2∘bT∘Jj) (Ju (fun jV=>?_) fun jV=>?_))
 ·
  intro a Z HM
  have sV:=of_decide_eq_true jV
  have hlt:xs.length<m:=by omega
  refine Jb Z HM ((JT∘aF∘JB∘JP∘Jp 1∘JL (h:=by exact fun HM=>Xt X rl.length cX _ rl _ (HM.old (hrl w hr)) hll om)) ?_)
  rintro HM _ w16 ⟨rfl,rfl⟩
  refine ⟨_,rfl,_,HM,?_⟩
  refine (Jp 1∘Jx∘Jx∘Jx∘Jp 3∘Jj∘JQ∘JP∘Jp 2∘aR∘Jj) (Ju (fun dF=>?_) fun dF=>?_)
  ·
   intro a Z HM
   have gF:=bne_iff_ne.1 dF
   have hb0:(av rl).2.2≠0:=by omega
   exact Jb Z HM ((JT∘JP∘Jp 4∘Jj∘JZ∘bY) fun HM=>Xi (q2j hj hlt hb0) (HM.own (i:=0) rfl) hck hrl KI HM.below)
  intro a Z HM
  have gF:=bne_eq_false_iff_eq.1 dF
  have hb0:(av rl).2.2=0:=by omega
  have hvl:=uw rl
  have htl:=zT rl
  refine Jb Z HM ((JF∘aF∘JP∘Jp 2∘JU qbv #[vQ ((av rl).1)]) fun Dh g26=>(JD [dB (av rl).1] 1 (fun _ _=>dO) qbv (hr:=by exact fun HM=>HM.aU (i:=0) (n:=1) (size:=1) rfl rfl) (h1:=by simp [Value.oneCell',dB,B8])) fun OX xU xV hc27=>(Jp 1∘dR∘Jq) fun a Z HM=>?_)
  have iw:xs.length+1=(xs++[(av rl).1]).length:=by simp
  replace HM:=HM.aV (i:=1) (ys:=(xs++[(av rl).1]).map dB) rfl iw (by simp)
  rw [iw] at hc27
  replace Z:=Z.sp 6 (.slice xU ((xs++[(av rl).1]).length) xV) rfl (by rw [iw])
  refine Jb Z HM ((JG∘JR∘Jp 2∘Jy (v:= .slice (if cX=((av rl).2.1) then X else X.map (·.add (((av rl).2.1)*1))) (rl.length- ((av rl).2.1)) (cX- ((av rl).2.1))) (h:=by exact Yl.sliceFrom aB (j:=((av rl).2.1)) rfl rfl rfl (by have:=uw rl;omega))∘Jo (.slice (if cX=(av rl).2.1 then X else X.map (·.add ((av rl).2.1*1))) ((qa rl).length) (cX- (av rl).2.1)) (by rw [zT])∘Jp 1∘bT∘Jq) fun a Z HM=>?_)
  exact ⟨_,(by simp;omega),(xs++[(av rl).1]),xU,xV,(qa rl),(if cX=(av rl).2.1 then X else X.map (·.add ((av rl).2.1*1))),(cX- (av rl).2.1),by simp;omega,hc27,qy2 hj hlt hb0,fun v h=>q41 (hrl v h) KI,zc hll,by omega,by omega,rfl,Z.sub kr,HM.pk [1]⟩
 intro a Z HM
 have sV:=of_decide_eq_false jV
 exact Jb Z HM ((JF∘JX∘JG∘JP∘Jp 4∘Jj∘JZ∘bY) fun HM=>Xi (qy1 hj om) (HM.own (i:=0) rfl) hck hrl KI HM.below)
theorem Yn (A:Option Addr) (n cp:Nat) (Lb L:List Nat) (hL:L=(Lb.take (Lb.length-4)).drop 8) (w:World) (hr:Rd w w.heap.size 1 A n (Lb.map B8)) (hc:n≤cp) (hln:Lb.length=n) (hn:n≤100000000) (IB:13≤n) (hl:∀b∈Lb,b<256):
    Calls Tryz.prog 180 #[.slice A n cp] w (FE w (loose (Lb.getD 7 0) L)):=by
 refine (dh Tryz.func180 98) ?_
 refine (JP∘JA #[vB 0,vB 0,vI 0,vI 0,vN]) fun w2 g2=>(Jq) fun a Z HM=>?_
 have Yo:L.length=n-4-8:=by rw [hL,List.length_drop,List.length_take];omega
 have gI:Rd w w.heap.size 1 (if cp=8 then A else A.map (·.add (8*1))) L.length (L.map B8):=by rw [Yo,hL];have h:=hr.uF (c:=cp) (i:=8) (j:=n-4) om om om;rw [hln];exact h
 have gM:∀b∈L,b<256:=by rw [hL];exact zj (zl hl _) _
 revert HM;revert a;repeat (first|clear Z|clear HM)
 intro a Z HM
 obtain ⟨gA,oA,rfl,_⟩:=hr.qm (Nat.lt_of_le_of_lt (Nat.zero_le _) (show 0<n from by omega)) de
 refine Jb Z HM ((JG∘JP∘Jp 1∘Jy (v:=vP gA (oA+7)) (h:=by exact Yl.indexAddr (ad:=⟨gA,oA,none⟩) (y:=7) (sz:=1) rfl rfl rfl om kr)∘Jy (h:=by exact Yl.o1 hr 7 0 (by first|omega|(simp;omega)) rfl rfl)∘Jy (v:= .agg #[vB (Lb.getD 7 0),vB 0,vI 0,vI 0,vN]) (h:=by exact Yl.build (vs:=[(0,vB (Lb.getD 7 0))]) rfl kr kr)∘JA #[vB 0,vB 0,vI 0,vI 0,vN]) fun w3 g3=>(JV qi aZ) fun Mw=>(dR∘Jr∘Jp 2∘Jl∘yO 4∘Jy (v:= .slice (if cp=8 then some ⟨gA,oA,none⟩ else (some ⟨gA,oA,none⟩:Option Addr).map (·.add (8*1))) ((n-4)-8) (cp-8)) (h:=by exact Yl.Cm aB (i:=8) (j:=(n-4)) rfl rfl rfl rfl om om)∘Jo (.slice (if cp=8 then some ⟨gA,oA,none⟩ else (some ⟨gA,oA,none⟩:Option Addr).map (·.add (8*1))) L.length (cp-8)) (by rw [Yo])∘Jp 1∘fJ∘Jj∘JQ∘JP∘Jg 0 O0∘Jp 1∘aR∘Jj) (Ju (fun dF=>?_) fun dF=>?_))
 ·
  intro a Z HM
  have gF:=eq_of_beq dF
  have hk2:(Lb.getD 7 0)=2:=by omega
  refine Jb Z HM ((JT∘JP∘Jp 1∘JL (h:=by exact fun HM=>Pm (if cp=8 then some ⟨gA,oA,none⟩ else (some ⟨gA,oA,none⟩:Option Addr).map (·.add (8*1))) (cp-8) 1 L _ (HM.old gI) om (by have:=qc5 3 L;omega) om gM)) ?_)
  rintro HM _ ES ⟨⟨zO,c24,X24,ahA,rfl,ho,hc24,Yp,Yq⟩,hbw⟩
  refine ⟨_,rfl,_,HM.aQ hbw ho,?_⟩
  refine (Jp 1∘Jx∘Jx∘Jp 2∘kg∘Jj∘JQ∘JP∘Jp 1∘Jl∘Jp 1∘aY∘Jj) (Je (fun hd29=>?_) fun hd29=>?_)
  ·
   refine (JT∘JR∘Jp 1) ?_
   repeat (first|clear Z|clear HM)
   intro a Z HM
   obtain ⟨vT,rfl⟩:=zb (HM.own (i:=0) rfl) (Nat.lt_of_le_of_lt (Nat.zero_le _) (show 0<(ay 1 L).1.length from by omega))
   refine Jb Z HM ((Jy (v:=vP vT 0) (h:=by exact Yl.indexAddr (ad:=⟨vT,0,none⟩) (y:=0) (sz:=1) rfl rfl rfl om kr)∘Jy (h:=by exact Yl.r1 0 0 0 (by first|omega|(simp;omega)) rfl rfl rfl)∘Jv 1 [(33,vI (IntKind.i64.wrap (((ay 1 L).1.getD 0 0):Int)))]∘Jo (vI (wrap64 ((ay 1 L).1.getD 0 0:Int))) (by rw [IntWalk.i64_left])∘Jf 3∘JW dO jm) fun OY=>(Ee∘Jr∘Jy (v:= .agg #[vB (Lb.getD 7 0),vB 0,vI 0,vI (wrap64 ((ay 1 L).1.getD 0 0:Int)),vN]) (h:=by exact Yl.qg rfl rfl qi rfl (fun _ h=>qb (h.blk (i:=1) rfl)))∘JV qi fF) fun rF=>(kg∘Jj∘JZ) fun a Z HM=>?_)
   exact iy rfl Z (.cellS (i:=2) Z HM rfl rfl qi rfl) (Da (Xm (k:=(Lb.getD 7 0)) (l:=L) hk2 (by rw [if_pos om])) HM.below)
  refine (JF∘aF∘JP∘Jy (v:= .agg #[vB (Lb.getD 7 0),vB 0,vI 0,vI 0,vN]) (h:=by exact Yl.qg rfl rfl qi rfl (fun _ h=>qb (h.blk (i:=1) rfl)))∘JV qi fF) fun rF=>(kg∘Jj∘JZ) fun a Z HM=>?_
  exact iy rfl Z (.cellS (i:=2) Z HM rfl rfl qi rfl) (Da (Xm (k:=(Lb.getD 7 0)) (l:=L) hk2 (by rw [if_neg om])) HM.below)
 intro a Z HM
 have gF:=ne_of_beq_false dF
 have hk2:(Lb.getD 7 0)≠2:=by omega
 refine Jb Z HM ((JF∘aF∘JP∘Jp 1∘JL (h:=by exact fun HM=>Pm (if cp=8 then some ⟨gA,oA,none⟩ else (some ⟨gA,oA,none⟩:Option Addr).map (·.add (8*1))) (cp-8) 3 L _ (HM.old gI) om (by have:=qc5 3 L;omega) om gM)) ?_)
 rintro HM _ yX ⟨⟨dx,dw,X38,Pn,rfl,ho,hc38,xW,F9⟩,hbw⟩
 refine ⟨_,rfl,_,HM.aQ hbw ho,?_⟩
 refine (Jp 1∘Jx∘Jx∘Jp 2∘Jj∘JQ∘JP∘Jp 1∘Jl∘Jp 1∘aY∘Jj) (Ju (fun eB=>?_) fun eB=>?_)
 ·
  intro a Z HM
  have lG:=of_decide_eq_true eB
  refine Jb Z HM ((JT∘JP∘Jy (v:= .agg #[vB (Lb.getD 7 0),vB 0,vI 0,vI 0,vN]) (h:=by exact Yl.qg rfl rfl qi rfl (fun _ h=>qb (h.blk (i:=1) rfl)))∘JV qi fF) fun oO=>(kg∘Jj∘JZ) fun a Z HM=>?_)
  exact iy rfl Z (.cellS (i:=2) Z HM rfl rfl qi rfl) (Da (qy3 hk2 om) HM.below)
 intro a Z HM
 have lG:=of_decide_eq_false eB
 revert HM;revert a;repeat (first|clear Z|clear HM)
 intro a Z HM
 obtain ⟨jW,rfl⟩:=zb (HM.own (i:=0) rfl) (Nat.lt_of_le_of_lt (Nat.zero_le _) (show 0<(ay 3 L).1.length from by omega))
 refine Jb Z HM ((JF∘aF) fun a Z HM=>?_)
 refine wp_seq ?_
 refine Jb Z HM ((Vs (.t (.f .n)) [11]) fun yY=>(Vp [0,4]∘Vy 1 (v:=vP jW 0) (h:=by exact Yl.indexAddr (ad:=⟨jW,0,none⟩) (y:=0) (sz:=1) rfl rfl rfl om kr)∘Vy 2 (h:=by exact Yl.r1 0 0 0 (by first|omega|(simp;omega)) rfl rfl rfl)∘Vq [3] [(48,vB (IntKind.u8.wrap (((ay 3 L).1.getD 0 0):Int)))]∘Vo (vB (((ay 3 L).1.getD 0 0)%256:Nat)) (by exact kR ((ay 3 L).1.getD 0 0))∘Vf 8 1∘Vy 5 (v:=vP jW 1) (h:=by exact Yl.indexAddr (ad:=⟨jW,0,none⟩) (y:=1) (sz:=1) rfl rfl rfl om kr)∘Vy 6 (h:=by exact Yl.r1 0 1 0 (by first|omega|(simp;omega)) rfl rfl rfl)∘Vq [7] [(52,vI (IntKind.i64.wrap (((ay 3 L).1.getD 1 0):Int)))]∘Vo (vI (wrap64 ((ay 3 L).1.getD 1 0:Int))) (by rw [IntWalk.i64_left])) fun a Z HM HS=>?_)
 refine s_on Z 9 rfl (gu Z HM 1 fun Yr HM=>?_)
 refine aK (HM.pk [0,2]) (fun HS=>?_)
 refine Vb Z HM HS ((Vf 10 2) fun a Z HM HS=>?_)
 refine s_on Z 11 rfl (gu Z HM 1 fun Po HM=>?_)
 refine fZ kr ?_
 refine qd kr ?_
 refine Jb Z HM ((JP∘Jp 1∘JL (h:=by exact fun HM=>Pm X38 Pn 2 (ay 3 L).2 _ (HM.old (xW w gI)) (F9) (by have:=qc5 3 L;omega) om (CP 3 L gM))) ?_)
 rintro HM _ XR ⟨⟨A57,c57,Yt,Ga,rfl,ho,ahD,Gb,Gc⟩,hbw⟩
 refine ⟨_,rfl,_,HM.aQ hbw ho,?_⟩
 refine (Jp 1∘Jx∘Jx∘Jp 2∘Jj∘JQ∘JP∘Jp 1∘Jy (v:=vP jW 2) (h:=by exact Yl.indexAddr (ad:=⟨jW,0,none⟩) (y:=2) (sz:=1) rfl rfl rfl om kr)∘Jy (h:=by exact Yl.r1 1 2 0 (by first|omega|(simp;omega)) rfl rfl rfl)∘Jp 2) (Ji (fun Aa=>?_) fun Aa=>?_)
 ·
  refine (Jp 1∘Jy (v:=vP jW 2) (h:=by exact Yl.indexAddr (ad:=⟨jW,0,none⟩) (y:=2) (sz:=1) rfl rfl rfl om kr)∘Jy (h:=by exact Yl.r1 1 2 0 (by first|omega|(simp;omega)) rfl rfl rfl)∘Jp 3) (Ji (fun Bf=>?_) fun Bf=>?_)
  ·
   refine (Jp 1∘Jl∘Jp 2∘aI∘Jj) (Ju (fun Bg=>?_) fun Bg=>?_)
   ·
    intro a Z HM
    have Pp:=eq_of_beq Bg
    revert HM;revert a;repeat (first|clear Z|clear HM)
    intro a Z HM
    obtain ⟨sW,rfl⟩:=zb (HM.own (i:=0) rfl) (Nat.lt_of_le_of_lt (Nat.zero_le _) (show 0<(ay 2 (ay 3 L).2).1.length from by omega))
    refine Jb Z HM ((JT∘Vs .n [22]) fun vw=>(Vp [0,4]∘Vf 9 1∘Vp [11,15]∘Vy 1 (v:=vP sW 0) (h:=by exact Yl.indexAddr (ad:=⟨sW,0,none⟩) (y:=0) (sz:=1) rfl rfl rfl om kr)∘Vy 2 (h:=by exact Yl.r1 0 0 0 (by first|omega|(simp;omega)) rfl rfl rfl)∘Vq [3] [(79,vI (IntKind.i64.wrap (((ay 2 (ay 3 L).2).1.getD 0 0):Int)))]∘Vo (vI (wrap64 ((ay 2 (ay 3 L).2).1.getD 0 0:Int))) (by rw [IntWalk.i64_left])∘Vy 5 (v:=vP sW 1) (h:=by exact Yl.indexAddr (ad:=⟨sW,0,none⟩) (y:=1) (sz:=1) rfl rfl rfl om kr)∘Vy 6 (h:=by exact Yl.r1 0 1 0 (by first|omega|(simp;omega)) rfl rfl rfl)∘Vq [7] [(83,vI (IntKind.i64.wrap (((ay 2 (ay 3 L).2).1.getD 1 0):Int)))]∘Vo (vI (wrap64 ((ay 2 (ay 3 L).2).1.getD 1 0:Int))) (by rw [IntWalk.i64_left])∘Vy 8 (v:= .agg ((⟨wrap64 ((ay 2 (ay 3 L).2).1.getD 0 0:Int),wrap64 ((ay 2 (ay 3 L).2).1.getD 1 0:Int)⟩:Bs).cells)) (h:=by exact (Yl.build (vs:=[(0,vI (wrap64 ((ay 2 (ay 3 L).2).1.getD 0 0:Int))),(1,vI (wrap64 ((ay 2 (ay 3 L).2).1.getD 1 0:Int)))]) rfl kr kr))∘Vc 10 O2∘Vy 12 (v:=vP jW 2) (h:=by exact Yl.indexAddr (ad:=⟨jW,0,none⟩) (y:=2) (sz:=1) rfl rfl rfl om kr)∘Vy 13 (h:=by exact Yl.r1 1 2 0 (by first|omega|(simp;omega)) rfl rfl rfl)∘Vq [14] [(90,vI (IntKind.i64.wrap (((ay 3 L).1.getD 2 0):Int)))]∘Vo (vI ((ay 3 L).1.getD 2 0)) (by exact zq rfl om)∘VK 16 .n (h:=by exact fun HM=>qu4 ⟨wrap64 ((ay 2 (ay 3 L).2).1.getD 0 0:Int),wrap64 ((ay 2 (ay 3 L).2).1.getD 1 0:Int)⟩ ((ay 3 L).1.getD 0 0%256) om ((ay 3 L).1.getD 2 0:Int) (by unfold aM;omega) Yt _ Ga (ay 2 (ay 3 L).2).2 _ (HM.old (Gb w (xW w gI))) Gc (CP 2 _ (CP 3 L gM)) (by have:=qc5 2 (ay 3 L).2;have:=qc5 3 L;omega) rfl)) fun Yu Yv w92 Gd=>(Vp [17]∘Vx 18∘Vx 19∘Vx 20∘Vf 21 4) fun a Z HM HS=>?_)
    refine s_on Z 22 rfl (gu Z HM 3 fun Pq HM=>?_)
    refine fZ kr ?_
    refine qd kr ?_
    replace Z:=Z.to [(74,.bool true),(8,.slice Yt ((ay 2 (ay 3 L).2).2.length) Ga),(9,vS sW ((ay 2 (ay 3 L).2).1.length) c57),(43,.bool false),(7,vS jW ((ay 3 L).1.length) dw),(21,.bool false),(4,.slice (if cp=8 then some ⟨gA,oA,none⟩ else (some ⟨gA,oA,none⟩:Option Addr).map (·.add (8*1))) L.length (cp-8)),(3,vP g3 0),(2,vP g2 0),(0,.slice (some ⟨gA,oA,none⟩) n cp)]
    refine Jb Z HM ((JG∘JP∘Jy (v:= .agg #[vB (Lb.getD 7 0),vB (((ay 3 L).1.getD 0 0)%256:Nat),vI (wrap64 ((ay 3 L).1.getD 1 0:Int)),vI 0,.slice Yu ((bq ⟨wrap64 ((ay 2 (ay 3 L).2).1.getD 0 0:Int),wrap64 ((ay 2 (ay 3 L).2).1.getD 1 0:Int)⟩ ((ay 3 L).1.getD 0 0%256) ((ay 3 L).1.getD 2 0:Int) (ay 2 (ay 3 L).2).2).1.length) Yv]) (h:=by exact Yl.qg rfl rfl qi rfl (fun _ h=>qb (h.blk (i:=3) rfl)))∘JV qi yL) fun iM=>(kg∘Jj∘JZ) fun a Z HM=>?_)
    exact iy rfl Z (.cellS (i:=4) Z HM rfl rfl qi rfl) (q2k (Kv hk2 om (qm8 ⟨by omega,by omega,by omega⟩)) (HM.own (i:=0) rfl) Gd HM.below)
   intro a Z HM
   have Pp:=ne_of_beq_false Bg
   refine Jb Z HM ((JF∘aF∘JP∘Jy (v:= .agg #[vB (Lb.getD 7 0),vB (((ay 3 L).1.getD 0 0)%256:Nat),vI (wrap64 ((ay 3 L).1.getD 1 0:Int)),vI 0,vN]) (h:=by exact Yl.qg rfl rfl qi rfl (fun _ h=>qb (h.blk (i:=2) rfl)))∘JV qi jm) fun iM=>(kg∘Jj∘JZ) fun a Z HM=>?_)
   exact iy rfl Z (.cellS (i:=3) Z HM rfl rfl qi rfl) (Da (Kv hk2 om (Oy om)) HM.below)
  refine (Jp 4∘aI∘Jj∘JF∘aF∘JP∘Jy (v:= .agg #[vB (Lb.getD 7 0),vB (((ay 3 L).1.getD 0 0)%256:Nat),vI (wrap64 ((ay 3 L).1.getD 1 0:Int)),vI 0,vN]) (h:=by exact Yl.qg rfl rfl qi rfl (fun _ h=>qb (h.blk (i:=2) rfl)))∘JV qi jm) fun iM=>(kg∘Jj∘JZ) fun a Z HM=>?_
  exact iy rfl Z (.cellS (i:=3) Z HM rfl rfl qi rfl) (Da (Kv hk2 om (Oy om)) HM.below)
 refine (Jv 10 [(74,.bool false)]∘fJ∘Jj∘JF∘aF∘JP∘Jy (v:= .agg #[vB (Lb.getD 7 0),vB (((ay 3 L).1.getD 0 0)%256:Nat),vI (wrap64 ((ay 3 L).1.getD 1 0:Int)),vI 0,vN]) (h:=by exact Yl.qg rfl rfl qi rfl (fun _ h=>qb (h.blk (i:=2) rfl)))∘JV qi jm) fun iM=>(kg∘Jj∘JZ) fun a Z HM=>?_
 exact iy rfl Z (.cellS (i:=3) Z HM rfl rfl qi rfl) (Da (Kv hk2 om (Oy om)) HM.below)
theorem Pt (k:Nat) (l:List Nat):(loose k l).evs.length≤1000000:=by
 unfold loose
 split
 ·unfold looseEnd;simp
 ·unfold Ae
  split
  ·simp
  ·show (nT _ _ _).length≤_
   unfold nT
   split
   ·rename_i h
    exact Nat.le_trans (qy4 _ _ _ _) om
   ·simp
theorem qrn (A:Option Addr) (n cp:Nat) (l:List Nat) (w:World) (hr:Rd w w.heap.size 1 A n (l.map B8)) (hc:n≤cp) (hln:l.length=n) (hn:n≤100000000) (hl:∀b∈l,b<256):
    Calls Tryz.prog 133 #[.slice A n cp] w (Ox w (jR l)):=by
 refine (dh Tryz.func133 70) ?_
 refine (JP∘JA #[vB 0,vB 0,vI 0,vI 0,vN]) fun w2 g2=>(Jp 2∘Jr∘Jp 1∘JI (h:=by exact fun HM=>qpq A n cp l _ (HM.old hr) hln om hl)) fun rE hbw=>(Jp 1∘Jx∘Jx∘Jp 2∘Jj∘JQ∘JP∘Jp 2∘aR∘Jj) (Ju (fun jN=>?_) fun jN=>?_)
 ·
  intro a Z HM
  have gG:=bne_iff_ne.1 jN
  refine Jb Z HM ((JT∘JP∘Jy (v:= .agg #[vB 0,vB 0,vI 0,vI 0,vN]) (h:=by exact Yl.build (vs:=[]) rfl kr kr)∘Jp 1∘JV qi aZ) fun vC=>(Jp 2∘Jj∘JZ) fun a Z HM=>?_)
  exact bE rfl Z (.cellS (i:=0) Z HM rfl rfl qi rfl) (.tmp Z rfl) (.tmp Z rfl) (xK (q2l om) HM.below)
 intro a Z HM
 have gG:=bne_eq_false_iff_eq.1 jN
 have hl0:(aC l).2=0:=by omega
 obtain ⟨v1,v2,v3,v4⟩:=J7 hl0
 obtain ⟨Lb,iP⟩:∃x,x=l.take (aC l).1:=⟨_,rfl⟩
 have gI:Rd w w.heap.size 1 A (aC l).1 (Lb.map B8):=by rw [iP];exact hr.mh om
 have gM:∀b∈Lb,b<256:=by rw [iP];exact zl hl _
 have nU:Lb.length=(aC l).1:=by rw [iP,List.length_take];omega
 revert HM;revert a;repeat (first|clear Z|clear HM)
 intro a Z HM
 obtain ⟨gA,oA,rfl,_⟩:=gI.qm (Nat.lt_of_le_of_lt (Nat.zero_le _) (show 0<(aC l).1 from by omega)) de
 refine Jb Z HM ((JF∘aF∘JP∘Jp 2∘Jy (h:=by exact Yl.q0 aB (j:=(aC l).1) rfl rfl rfl om)∘Jp 1∘bT∘Jj∘JQ∘JP∘Jp 1∘JI (h:=by exact fun HM=>qpp _ (aC l).1 cp Lb _ (HM.old gI) om nU om gM)) fun Az hbw=>(Jp 1∘aY∘Jj) (Ju (fun fM=>?_) fun fM=>?_))
 ·
  intro a Z HM
  have hs:mE Lb=false:=by simpa using fM
  refine Jb Z HM ((JT∘JP∘Jy (v:= .agg #[vB 0,vB 0,vI 0,vI 0,vN]) (h:=by exact Yl.build (vs:=[]) rfl kr kr)∘JV qi aZ) fun EC=>(Jp 2∘Jj∘JZ) fun a Z HM=>?_)
  exact bE rfl Z (.cellS (i:=0) Z HM rfl rfl qi rfl) (.tmp Z rfl) (.tmp Z rfl) (xK (AB hl0 iP (by unfold dW;rw [if_pos hs])) HM.below)
 intro a Z HM
 have hs:mE Lb=true:=by simpa using fM
 refine Jb Z HM ((JF∘aF∘JQ∘JP∘Jp 1∘Jy (v:=vP gA (oA+4)) (h:=by exact Yl.indexAddr (ad:=⟨gA,oA,none⟩) (y:=4) (sz:=1) rfl rfl rfl om kr)∘JH (getD_lt gM (k:=4) (by first|omega|(simp;omega)))) fun hx1=>(Jy (h:=by exact Yl.o1 gI 4 0 (by first|omega|(simp;omega)) rfl rfl)∘Jp 2) (Ju (fun fu=>?_) fun fu=>?_))
 ·
  intro a Z HM
  have hd28:=bne_iff_ne.1 fu
  have kV:¬(Lb.getD 4 0=113∧Lb.getD 5 0=116):=by omega
  refine Jb Z HM ((Jp 5∘aI∘Jj∘JT∘JP∘Jy (v:= .agg #[vB 0,vB 0,vI 0,vI 0,vN]) (h:=by exact Yl.build (vs:=[]) rfl kr kr)∘JV qi aZ) fun rG=>(Jp 2∘Jj∘JZ) fun a Z HM=>?_)
  exact bE rfl Z (.cellS (i:=0) Z HM rfl rfl qi rfl) (.tmp Z rfl) (.tmp Z rfl) (xK (AB hl0 iP (by unfold dW;rw [if_neg (by rw [hs];decide),if_pos kV])) HM.below)
 intro a Z HM
 have hd28:=bne_eq_false_iff_eq.1 fu
 refine Jb Z HM ((Jp 1∘Jy (v:=vP gA (oA+5)) (h:=by exact Yl.indexAddr (ad:=⟨gA,oA,none⟩) (y:=5) (sz:=1) rfl rfl rfl om kr)∘JH (getD_lt gM (k:=5) (by first|omega|(simp;omega)))) fun hx2=>(Jy (h:=by exact Yl.o1 gI 5 0 (by first|omega|(simp;omega)) rfl rfl)∘Jp 2∘aI∘Jj) (Ju (fun oo=>?_) fun oo=>?_))
 ·
  intro a Z HM
  have oq:=bne_iff_ne.1 oo
  have kV:¬(Lb.getD 4 0=113∧Lb.getD 5 0=116):=by omega
  refine Jb Z HM ((JT∘JP∘Jy (v:= .agg #[vB 0,vB 0,vI 0,vI 0,vN]) (h:=by exact Yl.build (vs:=[]) rfl kr kr)∘JV qi aZ) fun rG=>(Jp 2∘Jj∘JZ) fun a Z HM=>?_)
  exact bE rfl Z (.cellS (i:=0) Z HM rfl rfl qi rfl) (.tmp Z rfl) (.tmp Z rfl) (xK (AB hl0 iP (by unfold dW;rw [if_neg (by rw [hs];decide),if_pos kV])) HM.below)
 intro a Z HM
 have oq:=bne_eq_false_iff_eq.1 oo
 have kV:Lb.getD 4 0=113∧Lb.getD 5 0=116:=by omega
 refine Jb Z HM ((JF∘aF∘JQ∘JP∘Jp 1∘Jy (v:=vP gA (oA+6)) (h:=by exact Yl.indexAddr (ad:=⟨gA,oA,none⟩) (y:=6) (sz:=1) rfl rfl rfl om kr)∘JH (getD_lt gM (k:=6) (by first|omega|(simp;omega)))) fun hx3=>(Jy (h:=by exact Yl.o1 gI 6 0 (by first|omega|(simp;omega)) rfl rfl)∘Jp 1∘bT∘Jj) (Jh (fun hd38=>?_) fun hd38=>?_))
 ·
  refine (JT∘JP∘Jy (v:= .agg #[vB 0,vB 0,vI 0,vI 0,vN]) (h:=by exact Yl.build (vs:=[]) rfl kr kr)∘JV qi aZ) fun oO=>(Jp 2∘Jj∘JZ) fun a Z HM=>?_
  exact bE rfl Z (.cellS (i:=0) Z HM rfl rfl qi rfl) (.tmp Z rfl) (.tmp Z rfl) (xK (AB hl0 iP (by unfold dW;rw [if_neg (by rw [hs];decide),if_neg (fun hh=>hh kV),if_pos om])) HM.below)
 refine (JF∘aF∘JQ∘JP∘Jp 1∘Jy (v:=vP gA (oA+7)) (h:=by exact Yl.indexAddr (ad:=⟨gA,oA,none⟩) (y:=7) (sz:=1) rfl rfl rfl om kr)∘JH (getD_lt gM (k:=7) (by first|omega|(simp;omega)))) fun hx4=>(Jy (h:=by exact Yl.o1 gI 7 0 (by first|omega|(simp;omega)) rfl rfl)∘Jp 2) (Ju (fun Bh=>?_) fun Bh=>?_)
 ·
  intro a Z HM
  have rH:=bne_iff_ne.1 Bh
  refine Jb Z HM ((Jp 1∘Jy (v:=vP gA (oA+7)) (h:=by exact Yl.indexAddr (ad:=⟨gA,oA,none⟩) (y:=7) (sz:=1) rfl rfl rfl om kr)∘JH (getD_lt gM (k:=7) (by first|omega|(simp;omega)))) fun hx5=>(Jy (h:=by exact Yl.o1 gI 7 0 (by first|omega|(simp;omega)) rfl rfl)∘Jp 2∘aI∘Jj) (Ju (fun ou=>?_) fun ou=>?_))
  ·
   intro a Z HM
   have Bj:=bne_iff_ne.1 ou
   refine Jb Z HM ((JT∘JP∘Jy (v:= .agg #[vB 0,vB 0,vI 0,vI 0,vN]) (h:=by exact Yl.build (vs:=[]) rfl kr kr)∘JV qi aZ) fun xE=>(Jp 2∘Jj∘JZ) fun a Z HM=>?_)
   exact bE rfl Z (.cellS (i:=0) Z HM rfl rfl qi rfl) (.tmp Z rfl) (.tmp Z rfl) (xK (AB hl0 iP (by unfold dW;rw [if_neg (by rw [hs];decide),if_neg (fun hh=>hh kV),if_neg om,if_pos om])) HM.below)
  intro a Z HM
  have Bj:=bne_eq_false_iff_eq.1 ou
  have hkd:Lb.getD 7 0=1∨Lb.getD 7 0=2:=by omega
  obtain ⟨jX,hqk⟩:=Nv hkd (l:=((Lb.take (Lb.length-4)).drop 8)) (zj (zl gM _) _)
  have Gf:(loose (Lb.getD 7 0) ((Lb.take (Lb.length-4)).drop 8)).evs.length≤1000000:=Pt _ _
  refine Jb Z HM ((JF∘aF∘JP∘Jp 1∘JK (h:=by exact fun HM=>Yn (some ⟨gA,oA,none⟩) ((aC l).1) cp Lb ((Lb.take (Lb.length-4)).drop 8) rfl _ (HM.old gI) om nU om om gM)) fun mW mX Yw Bl=>(JA #[vB 0,vB 0,vI 0,vI 0,vN]) fun w7 g7=>(JV qi aZ (h1:=by exact zy _ _ _)) fun wZ=>(aY∘Jj∘JQ) fun a Z HM=>?_)
  refine qw (fun aS wS=>Fr aS 70 [] [(66,.bool (decide ((loose (Lb.getD 7 0) ((Lb.take (Lb.length-4)).drop 8)).err≠0∨(loose (Lb.getD 7 0) ((Lb.take (Lb.length-4)).drop 8)).raw≠Lb.take (Lb.length-4)))),(7,vP g7 0),(49,.bool false),(38,.bool false),(33,.bool false),(22,.bool false),(0,.slice (some ⟨gA,oA,none⟩) ((aC l).1) cp),(14,.bool false),(6,vI ((aC l).2)),(5,vI ((aC l).1)),(4,vI 0),(3,vI 0),(2,vP g2 0)]∧Mem w wS [.blk g7 ((loose (Lb.getD 7 0) ((Lb.take (Lb.length-4)).drop 8)).cells mW mX) 80,.row (.slice mW ((loose (Lb.getD 7 0) ((Lb.take (Lb.length-4)).drop 8)).evs.length) mX) ((loose (Lb.getD 7 0) ((Lb.take (Lb.length-4)).drop 8)).evs.length) ((loose (Lb.getD 7 0) ((Lb.take (Lb.length-4)).drop 8)).evs.flatMap aN) 242 11,.blk g2 #[vB 0,vB 0,vI 0,vI 0,vN] 80]) ?_ ?_
  ·
   refine Jb Z HM ((Vs .n []) fun vw=>(Vy 0 (v:= .agg ((loose (Lb.getD 7 0) ((Lb.take (Lb.length-4)).drop 8)).cells mW mX)) (h:=by exact Yl.qg rfl rfl qi rfl (fun _ h=>qb (h.blk (i:=0) rfl)))∘VI 1 .n (h:=by exact fun HM=>KN (loose (Lb.getD 7 0) ((Lb.take (Lb.length-4)).drop 8)) jX mW mX _ (HM.rd (i:=1) rfl) Gf)) fun pY hbw=>(Vp [2,3]) fun a Z HM HS=>?_)
   rcases Z.tf 56 rfl with ⟨jY,Z⟩|⟨jY,Z⟩
   ·
    have nZ:=bne_iff_ne.1 jY
    have hqe:(loose (Lb.getD 7 0) ((Lb.take (Lb.length-4)).drop 8)).err≠0:=by omega
    refine Vb Z HM HS ((Vq [4,5,6,7,8,9,10,11,12,13] [(66,.bool true)]∘Vd∘fJ) fun a Z HM=>?_)
    have Z:=Z.sp 66 (.bool (decide ((loose (Lb.getD 7 0) ((Lb.take (Lb.length-4)).drop 8)).err≠0∨(loose (Lb.getD 7 0) ((Lb.take (Lb.length-4)).drop 8)).raw≠Lb.take (Lb.length-4)))) rfl (congrArg Value.bool (by rw [decide_eq_true (show ((loose (Lb.getD 7 0) ((Lb.take (Lb.length-4)).drop 8)).err≠0∨(loose (Lb.getD 7 0) ((Lb.take (Lb.length-4)).drop 8)).raw≠Lb.take (Lb.length-4)) from .inl hqe)]))
    exact ⟨Z.sub kr,HM.pk [0,1,2]⟩
   have nZ:=bne_eq_false_iff_eq.1 jY
   have hqe:(loose (Lb.getD 7 0) ((Lb.take (Lb.length-4)).drop 8)).err=0:=by omega
   refine ap Z (fun _=>HS) [7,8] (bf 14 [0,1,2,3,7,8]) [(61,vI ((aC l).1)),(60,.slice (some ⟨gA,oA,none⟩) ((aC l).1) cp)] fun a Z=>?_
   refine cB Z HS 4 rfl (v:= .agg ((loose (Lb.getD 7 0) ((Lb.take (Lb.length-4)).drop 8)).cells mW mX)) (Yl.qg rfl rfl qi rfl (fun _ h=>qb (h.blk (i:=0) rfl))) fun a Z=>?_
   refine ze Z (fun _=>HS) (i:=9) rfl rfl (d:=62) rfl de kr (fun _ _ _ h=>h) (v:=vI (IntKind.i64.wrap (((aC l).1:Int)-4))) (fun _=>Yl.pure kr) fun a Z=>?_
   replace Z:=Z.sp 62 (vI ((aC l).1-4:Nat)) rfl (zq om om)
   refine cB Z HS 10 rfl (v:= .slice (some ⟨gA,oA,none⟩) ((aC l).1-4) cp) (Yl.q0 aB (j:=(aC l).1-4) rfl rfl rfl om) fun a Z=>?_
   refine cB Z HS 11 rfl (v:= .string (eT (Lb.take ((aC l).1-4)))) (Yl.str rfl rfl (fun _ h=>h.old (gI.mh om))) fun a Z=>?_
   refine s_on Z 5 rfl ?_
   refine mo Z HM [.agg ((loose (Lb.getD 7 0) ((Lb.take (Lb.length-4)).drop 8)).cells mW mX)] (KM (loose (Lb.getD 7 0) ((Lb.take (Lb.length-4)).drop 8)) jX mW mX _ (HM.rd (i:=1) rfl) Gf (Ny hqe).1) fun pV oQ Vk zZ HM a Z=>?_
   refine aK (HM.pk [1,2,3]) (fun HS=>?_)
   refine s_on Z 6 rfl ?_
   refine Yl.wp (S:=fun wS=>Mem w wS _) (v:= .string (eT ((loose (Lb.getD 7 0) ((Lb.take (Lb.length-4)).drop 8)).raw))) (Yl.str rfl rfl (fun _ h=>h.rd (i:=0) rfl)) Z HM rfl de fun a Z=>?_
   refine aK HS (fun HS=>?_)
   refine ap Z (fun _=>HS) [12,13] (bt 14 []) [(66,.bool (!(((eT ((loose (Lb.getD 7 0) ((Lb.take (Lb.length-4)).drop 8)).raw))).toList==((eT (Lb.take ((aC l).1-4)))).toList)))] fun a Z=>?_
   refine qd kr ?_
   refine Jb Z HM ((JM (.f .n)) fun a Z HM=>?_)
   have Z:=Z.sp 66 (.bool (decide ((loose (Lb.getD 7 0) ((Lb.take (Lb.length-4)).drop 8)).err≠0∨(loose (Lb.getD 7 0) ((Lb.take (Lb.length-4)).drop 8)).raw≠Lb.take (Lb.length-4)))) rfl (congrArg Value.bool (by rw [Ml (E5 jX) (zl gM _),←nU,Xk hqe]))
   exact ⟨Z.sub kr,HM.pk [0,1,2]⟩
  clear Z HM;rintro a Cy ⟨Z,HM⟩
  refine Jb Z HM (Ju (fun jZ=>?_) fun jZ=>?_)
  ·
   intro a Z HM
   have sQ:=of_decide_eq_true jZ
   have hqr:((loose (Lb.getD 7 0) ((Lb.take (Lb.length-4)).drop 8)).err≠0∨(loose (Lb.getD 7 0) ((Lb.take (Lb.length-4)).drop 8)).raw≠Lb.take (Lb.length-4)):=of_decide_eq_true jZ
   refine Jb Z HM ((JT∘JP∘Jy (v:= .agg #[vB 0,vB 0,vI 0,vI 0,vN]) (h:=by exact Yl.build (vs:=[]) rfl kr kr)∘JV qi fF) fun iM=>(Jp 2∘Jj∘JZ) fun a Z HM=>?_)
   exact bE rfl Z (.cellS (i:=2) Z HM rfl rfl qi rfl) (.tmp Z rfl) (.tmp Z rfl) (xK (AB hl0 iP (by unfold dW;rw [if_neg (by rw [hs];decide),if_neg (fun hh=>hh kV),if_neg om,if_neg om,if_pos hqr])) HM.below)
  intro a Z HM
  have sQ:=of_decide_eq_false jZ
  have hqr:¬((loose (Lb.getD 7 0) ((Lb.take (Lb.length-4)).drop 8)).err≠0∨(loose (Lb.getD 7 0) ((Lb.take (Lb.length-4)).drop 8)).raw≠Lb.take (Lb.length-4)):=of_decide_eq_false jZ
  refine Jb Z HM ((JF∘aF∘JP∘Jy (v:= .agg ((loose (Lb.getD 7 0) ((Lb.take (Lb.length-4)).drop 8)).cells mW mX)) (h:=by exact Yl.qg rfl rfl qi rfl (fun _ h=>qb (h.blk (i:=0) rfl)))∘Jp 1∘JV qi fF (h1:=by exact zy _ _ _)) fun su=>(Jp 2∘Jj∘JZ) fun a Z HM=>?_)
  exact bE rfl Z (.cellS (i:=2) Z HM rfl rfl qi rfl) (.tmp Z rfl) (.tmp Z rfl) (Xj (Xl (e:=0) hl0 iP (by unfold dW;rw [if_neg (by rw [hs];decide),if_neg (fun hh=>hh kV),if_neg om,if_neg om,if_neg hqr])) (HM.own (i:=1) rfl) Bl HM.below)
 intro a Z HM
 have rH:=bne_eq_false_iff_eq.1 Bh
 have hkd:Lb.getD 7 0=1∨Lb.getD 7 0=2:=by omega
 obtain ⟨jX,hqk⟩:=Nv hkd (l:=((Lb.take (Lb.length-4)).drop 8)) (zj (zl gM _) _)
 have Gf:(loose (Lb.getD 7 0) ((Lb.take (Lb.length-4)).drop 8)).evs.length≤1000000:=Pt _ _
 refine Jb Z HM ((Jp 5∘aI∘Jj∘JF∘aF∘JP∘Jp 1∘JK (h:=by exact fun HM=>Yn (some ⟨gA,oA,none⟩) ((aC l).1) cp Lb ((Lb.take (Lb.length-4)).drop 8) rfl _ (HM.old gI) om nU om om gM)) fun mW mX Yw Bl=>(JA #[vB 0,vB 0,vI 0,vI 0,vN]) fun w7 g7=>(JV qi aZ (h1:=by exact zy _ _ _)) fun wZ=>(aY∘Jj∘JQ) fun a Z HM=>?_)
 refine qw (fun aS wS=>Fr aS 70 [] [(66,.bool (decide ((loose (Lb.getD 7 0) ((Lb.take (Lb.length-4)).drop 8)).err≠0∨(loose (Lb.getD 7 0) ((Lb.take (Lb.length-4)).drop 8)).raw≠Lb.take (Lb.length-4)))),(7,vP g7 0),(49,.bool false),(38,.bool false),(33,.bool false),(22,.bool false),(0,.slice (some ⟨gA,oA,none⟩) ((aC l).1) cp),(14,.bool false),(6,vI ((aC l).2)),(5,vI ((aC l).1)),(4,vI 0),(3,vI 0),(2,vP g2 0)]∧Mem w wS [.blk g7 ((loose (Lb.getD 7 0) ((Lb.take (Lb.length-4)).drop 8)).cells mW mX) 80,.row (.slice mW ((loose (Lb.getD 7 0) ((Lb.take (Lb.length-4)).drop 8)).evs.length) mX) ((loose (Lb.getD 7 0) ((Lb.take (Lb.length-4)).drop 8)).evs.length) ((loose (Lb.getD 7 0) ((Lb.take (Lb.length-4)).drop 8)).evs.flatMap aN) 242 11,.blk g2 #[vB 0,vB 0,vI 0,vI 0,vN] 80]) ?_ ?_
 ·
  refine Jb Z HM ((Vs .n []) fun vw=>(Vy 0 (v:= .agg ((loose (Lb.getD 7 0) ((Lb.take (Lb.length-4)).drop 8)).cells mW mX)) (h:=by exact Yl.qg rfl rfl qi rfl (fun _ h=>qb (h.blk (i:=0) rfl)))∘VI 1 .n (h:=by exact fun HM=>KN (loose (Lb.getD 7 0) ((Lb.take (Lb.length-4)).drop 8)) jX mW mX _ (HM.rd (i:=1) rfl) Gf)) fun pY hbw=>(Vp [2,3]) fun a Z HM HS=>?_)
  rcases Z.tf 56 rfl with ⟨jY,Z⟩|⟨jY,Z⟩
  ·
   have nZ:=bne_iff_ne.1 jY
   have hqe:(loose (Lb.getD 7 0) ((Lb.take (Lb.length-4)).drop 8)).err≠0:=by omega
   refine Vb Z HM HS ((Vq [4,5,6,7,8,9,10,11,12,13] [(66,.bool true)]∘Vd∘fJ) fun a Z HM=>?_)
   have Z:=Z.sp 66 (.bool (decide ((loose (Lb.getD 7 0) ((Lb.take (Lb.length-4)).drop 8)).err≠0∨(loose (Lb.getD 7 0) ((Lb.take (Lb.length-4)).drop 8)).raw≠Lb.take (Lb.length-4)))) rfl (congrArg Value.bool (by rw [decide_eq_true (show ((loose (Lb.getD 7 0) ((Lb.take (Lb.length-4)).drop 8)).err≠0∨(loose (Lb.getD 7 0) ((Lb.take (Lb.length-4)).drop 8)).raw≠Lb.take (Lb.length-4)) from .inl hqe)]))
   exact ⟨Z.sub kr,HM.pk [0,1,2]⟩
  have nZ:=bne_eq_false_iff_eq.1 jY
  have hqe:(loose (Lb.getD 7 0) ((Lb.take (Lb.length-4)).drop 8)).err=0:=by omega
  refine ap Z (fun _=>HS) [7,8] (bf 14 [0,1,2,3,7,8]) [(61,vI ((aC l).1)),(60,.slice (some ⟨gA,oA,none⟩) ((aC l).1) cp)] fun a Z=>?_
  refine cB Z HS 4 rfl (v:= .agg ((loose (Lb.getD 7 0) ((Lb.take (Lb.length-4)).drop 8)).cells mW mX)) (Yl.qg rfl rfl qi rfl (fun _ h=>qb (h.blk (i:=0) rfl))) fun a Z=>?_
  refine ze Z (fun _=>HS) (i:=9) rfl rfl (d:=62) rfl de kr (fun _ _ _ h=>h) (v:=vI (IntKind.i64.wrap (((aC l).1:Int)-4))) (fun _=>Yl.pure kr) fun a Z=>?_
  replace Z:=Z.sp 62 (vI ((aC l).1-4:Nat)) rfl (zq om om)
  refine cB Z HS 10 rfl (v:= .slice (some ⟨gA,oA,none⟩) ((aC l).1-4) cp) (Yl.q0 aB (j:=(aC l).1-4) rfl rfl rfl om) fun a Z=>?_
  refine cB Z HS 11 rfl (v:= .string (eT (Lb.take ((aC l).1-4)))) (Yl.str rfl rfl (fun _ h=>h.old (gI.mh om))) fun a Z=>?_
  refine s_on Z 5 rfl ?_
  refine mo Z HM [.agg ((loose (Lb.getD 7 0) ((Lb.take (Lb.length-4)).drop 8)).cells mW mX)] (KM (loose (Lb.getD 7 0) ((Lb.take (Lb.length-4)).drop 8)) jX mW mX _ (HM.rd (i:=1) rfl) Gf (Ny hqe).1) fun pV oQ Vk zZ HM a Z=>?_
  refine aK (HM.pk [1,2,3]) (fun HS=>?_)
  refine s_on Z 6 rfl ?_
  refine Yl.wp (S:=fun wS=>Mem w wS _) (v:= .string (eT ((loose (Lb.getD 7 0) ((Lb.take (Lb.length-4)).drop 8)).raw))) (Yl.str rfl rfl (fun _ h=>h.rd (i:=0) rfl)) Z HM rfl de fun a Z=>?_
  refine aK HS (fun HS=>?_)
  refine ap Z (fun _=>HS) [12,13] (bt 14 []) [(66,.bool (!(((eT ((loose (Lb.getD 7 0) ((Lb.take (Lb.length-4)).drop 8)).raw))).toList==((eT (Lb.take ((aC l).1-4)))).toList)))] fun a Z=>?_
  refine qd kr ?_
  refine Jb Z HM ((JM (.f .n)) fun a Z HM=>?_)
  have Z:=Z.sp 66 (.bool (decide ((loose (Lb.getD 7 0) ((Lb.take (Lb.length-4)).drop 8)).err≠0∨(loose (Lb.getD 7 0) ((Lb.take (Lb.length-4)).drop 8)).raw≠Lb.take (Lb.length-4)))) rfl (congrArg Value.bool (by rw [Ml (E5 jX) (zl gM _),←nU,Xk hqe]))
  exact ⟨Z.sub kr,HM.pk [0,1,2]⟩
 clear Z HM;rintro a Cy ⟨Z,HM⟩
 refine Jb Z HM (Ju (fun jZ=>?_) fun jZ=>?_)
 ·
  intro a Z HM
  have sQ:=of_decide_eq_true jZ
  have hqr:((loose (Lb.getD 7 0) ((Lb.take (Lb.length-4)).drop 8)).err≠0∨(loose (Lb.getD 7 0) ((Lb.take (Lb.length-4)).drop 8)).raw≠Lb.take (Lb.length-4)):=of_decide_eq_true jZ
  refine Jb Z HM ((JT∘JP∘Jy (v:= .agg #[vB 0,vB 0,vI 0,vI 0,vN]) (h:=by exact Yl.build (vs:=[]) rfl kr kr)∘JV qi fF) fun iM=>(Jp 2∘Jj∘JZ) fun a Z HM=>?_)
  exact bE rfl Z (.cellS (i:=2) Z HM rfl rfl qi rfl) (.tmp Z rfl) (.tmp Z rfl) (xK (AB hl0 iP (by unfold dW;rw [if_neg (by rw [hs];decide),if_neg (fun hh=>hh kV),if_neg om,if_neg om,if_pos hqr])) HM.below)
 intro a Z HM
 have sQ:=of_decide_eq_false jZ
 have hqr:¬((loose (Lb.getD 7 0) ((Lb.take (Lb.length-4)).drop 8)).err≠0∨(loose (Lb.getD 7 0) ((Lb.take (Lb.length-4)).drop 8)).raw≠Lb.take (Lb.length-4)):=of_decide_eq_false jZ
 refine Jb Z HM ((JF∘aF∘JP∘Jy (v:= .agg ((loose (Lb.getD 7 0) ((Lb.take (Lb.length-4)).drop 8)).cells mW mX)) (h:=by exact Yl.qg rfl rfl qi rfl (fun _ h=>qb (h.blk (i:=0) rfl)))∘Jp 1∘JV qi fF (h1:=by exact zy _ _ _)) fun su=>(Jp 2∘Jj∘JZ) fun a Z HM=>?_)
 exact bE rfl Z (.cellS (i:=2) Z HM rfl rfl qi rfl) (.tmp Z rfl) (.tmp Z rfl) (Xj (Xl (e:=0) hl0 iP (by unfold dW;rw [if_neg (by rw [hs];decide),if_neg (fun hh=>hh kV),if_neg om,if_neg om,if_neg hqr])) (HM.own (i:=1) rfl) Bl HM.below)
theorem qu5 (A:Option Addr) (n cp:Nat) (l:List Nat) (w:World) (hr:Rd w w.heap.size 1 A n (l.map B8)) (hc:n≤cp) (hln:l.length=n) (hn:n≤100000000) (hl:∀b∈l,b<256) {b:Bk} {m er:Nat} (h:bg l=(b,m,er)):
  Calls Tryz.prog 133 #[.slice A n cp] w fun r w'=>(∃A c,r= .returned (.tuple #[.agg (b.cells A c),vI m,vI er])∧w'.ownsRow w.heap.size 242 11 (.slice A b.evs.length c) b.evs.length (b.evs.flatMap aN)∧b.evs.length≤c)∧Below w.heap.size w w':=by
 have h1:=qrn A n cp l w hr hc hln hn hl
 rw [Nw hl,h] at h1
 exact h1
def Yx (w:World) (q:List Bk×Nat×Nat) (r:Ending) (w':World):Prop:=∃A c q2,r= .returned (.tuple #[.slice A q2.length c,vI (q.2.1:Int),vI (q.2.2:Int)])∧q.1=q2.map Hb.b∧q2.length≤c∧Mem w w' (.row (.slice A q2.length c) q2.length (q2.flatMap hbL) 80 5::bG 242 q2)
theorem Yy {w w':World} {Q:List Bk×Nat×Nat} {A:Option Addr} {c p e:Nat} {q:List Hb} (hk:q.map Hb.b=Q.1) (hp:p=Q.2.1) (he:e=Q.2.2) (hc:q.length≤c) (hm:Mem w w' (.row (.slice A q.length c) q.length (q.flatMap hbL) 80 5::bG 242 q)):Yx w Q (.returned (.tuple #[.slice A q.length c,vI p,vI e])) w':=by
 subst hp;subst he;exact ⟨A,c,q,rfl,hk.symm,hc,hm⟩
theorem q2o (A:Option Addr) (c:Nat) (l:List Nat) (w:World) (hr:Rd w w.heap.size 1 A l.length (l.map B8)) (hc:l.length≤c) (hl:∀b∈l,b<256) (hn:l.length≤1000000):
    Calls Tryz.prog 73 #[.slice A l.length c] w (Yx w (ku l)):=by
 refine (dh Tryz.func73 39) ?_
 refine (JP∘Jp 3∘Jj∘JQ∘JP∘Jp 1∘Jl∘Jp 1∘aY∘Jj) (Ju (fun fP=>?_) fun fP=>?_)
 ·
  intro a Z HM
  have lM:=of_decide_eq_true fP
  have hlong:ku l=([],0,3):=if_pos om
  exact Jb Z HM ((JT∘JP∘Jp 3∘Jj∘JZ∘wU) fun HM=>by rw [hlong];exact ⟨none,0,[],rfl,rfl,Nat.le_refl _,(HM.nil 80 5)⟩)
 intro a Z HM
 have lM:=of_decide_eq_false fP
 have hS:ku l=qf l.length l:=if_neg om
 refine Jb Z HM ((JF∘aF∘JP∘Jp 1∘Jr∘Jp 1∘Jq) fun a Z HM=>?_)
 replace HM:=HM.nil 80 5
 replace HM:Mem w _ (.row (vN) 0 [] 80 5::(bG 242 []++([]))):=HM
 refine Jb Z HM ((JG∘JQ∘JB) fun a Z HM=>?_)
 refine qc (fun mS aS wS=>∃(q:List Hb) (at_:Nat) (f:Nat) (Ao:Option Addr) (co:Nat),(at_≤l.length)∧(l.length-at_≤f)∧(q.map Hb.b++(qf f (l.drop at_)).1=(qf l.length l).1)∧(at_+(qf f (l.drop at_)).2.1=(qf l.length l).2.1)∧((qf f (l.drop at_)).2.2=(qf l.length l).2.2)∧(q.length≤co)∧(q.length≤at_)∧mS=l.length-at_∧Fr aS 39 [] [(6,vI at_),(5,.slice Ao q.length co),(12,.bool false),(4,vI 0),(3,vI 0),(2,vN),(0,.slice A l.length c)]∧Mem w wS (.row (.slice Ao q.length co) q.length (q.flatMap hbL) 80 5::(bG 242 q++([])))) (m:=l.length-0) ⟨[],0,l.length,none,0,Nat.zero_le _,Nat.sub_le _ _,rfl,Nat.zero_add _,rfl,Nat.le_refl _,Nat.le_refl _,rfl,Z.sub kr,HM.pt 1 [0]⟩ ?_
 clear Z HM;rintro mS a w_ ⟨q,at_,f,Ao,co,hat,hf,hk,hp,he,hco,kW,rfl,Z,HM⟩
 refine Jb Z HM ((JQ∘JP∘Jp 2∘Jl∘Jp 1∘bT∘Jj) (Ju (fun dU=>?_) fun dU=>?_))
 ·
  intro a Z HM
  have lC:=of_decide_eq_true dU
  have hne:0<(l.drop at_).length:=by rw [List.length_drop];omega
  obtain ⟨b,m,er,hq⟩:∃b m er,bg (l.drop at_)=(b,m,er):=⟨_,_,_,rfl⟩
  refine Jb Z HM ((JT∘aF∘JB∘JP∘Jp 2∘Jy (h:=by exact Yl.sliceFrom aB (j:=at_) rfl rfl rfl om)∘JK (h:=by exact fun HM=>qu5 (if c=at_ then A else A.map (·.add (at_*1))) (l.length-at_) (c-at_) (l.drop at_) _ (HM.old (hr.qZ hat hc)) om (by rw [List.length_drop]) om (zj hl at_) hq)) fun eU c21 Az hc21=>(Jp 1∘Jx∘Jx∘Jx∘JA #[vB 0,vB 0,vI 0,vI 0,vN]) fun w7 g7=>(JV qi aZ (h1:=by exact zy _ _ _)) fun Gg=>(Jp 2∘Jj∘JQ∘JP∘Jp 2∘aR∘Jj) (Ju (fun dG=>?_) fun dG=>?_))
  ·
   intro a Z HM
   have ow:=bne_iff_ne.1 dG
   have hg:=Kh (f:=f) (by rw [List.length_drop] at hne;omega) hne hq om
   rw [hg] at hk hp he
   exact Jb Z HM ((JT∘JP∘Jp 6∘Jj∘JZ∘wU) fun HM=>Yy (by rw [hS];simpa using hk) (by rw [hS];simpa using hp) (by rw [hS];simpa using he) hco (by have h:=HM.pt (fs':=(.row (.slice Ao q.length co) q.length (q.flatMap hbL) 80 5::(bG 242 q++([])))) 3 [2];rwa [List.append_nil] at h))
  intro a Z HM
  have ow:=bne_eq_false_iff_eq.1 dG
  revert HM;revert a;repeat (first|clear Z|clear HM)
  intro a Z HM
  obtain rfl:er=0:=by omega
  have hg:=NZ (f:=f) (by rw [List.length_drop] at hne;omega) hne hq
  have hof:=CQ (zj hl at_) hq
  have vF:=hof.least
  have hml:=hof.len
  rw [hg] at hk hp he
  dsimp only at hk hp he
  rw [List.length_drop] at hml
  refine Jb Z HM ((JF∘aF∘JP∘Jp 1∘Jy (v:= .agg (b.cells eU c21)) (h:=by exact Yl.qg rfl rfl qi rfl (fun _ h=>qb (h.blk (i:=0) rfl)))∘JU Ai (b.cells eU c21)) fun w32 Pv=>(JD (hbL (⟨b,eU,c21⟩:Hb)) 3 (fun _ _=>jm) Ai (hr:=by exact fun HM=>HM.aU (i:=0) (n:=1) (size:=5) rfl rfl) (h1:=by exact zy _ _ _)) fun Ey jh iZ kH=>(Jp 1∘dR∘Jq) fun a Z HM=>?_)
  have jM:q.length+1=(q++[(⟨b,eU,c21⟩:Hb)]).length:=by rw [List.length_append];rfl
  replace HM:=HM.aV (i:=3) (ys:=(q++[(⟨b,eU,c21⟩:Hb)]).flatMap hbL) rfl jM (by rw [List.flatMap_append,List.flatMap_cons,List.flatMap_nil,List.append_nil])
  rw [jM] at kH
  replace Z:=Z.sp 5 (.slice jh ((q++[(⟨b,eU,c21⟩:Hb)]).length) iZ) rfl (by rw [jM])
  replace HM:=Mem.zY (a:=[.blk Pv (b.cells eU c21) 80,.blk g7 (b.cells eU c21) 80,.row (.slice jh ((q++[(⟨b,eU,c21⟩:Hb)]).length) iZ) ((q++[(⟨b,eU,c21⟩:Hb)]).length) ((q++[(⟨b,eU,c21⟩:Hb)]).flatMap hbL) 80 5]) (q:=q) (b:=[]) (HM.pt (fs':=(.row (.slice eU b.evs.length c21) b.evs.length (b.evs.flatMap aN) 242 11:: .blk Pv (b.cells eU c21) 80:: .blk g7 (b.cells eU c21) 80:: .row (.slice jh ((q++[(⟨b,eU,c21⟩:Hb)]).length) iZ) ((q++[(⟨b,eU,c21⟩:Hb)]).length) ((q++[(⟨b,eU,c21⟩:Hb)]).flatMap hbL) 80 5::(bG 242 q++([])))) 4 [2,0,1,3])
  replace HM:Mem w _ (.blk Pv (b.cells eU c21) 80:: .blk g7 (b.cells eU c21) 80:: .row (.slice jh ((q++[(⟨b,eU,c21⟩:Hb)]).length) iZ) ((q++[(⟨b,eU,c21⟩:Hb)]).length) ((q++[(⟨b,eU,c21⟩:Hb)]).flatMap hbL) 80 5::(bG 242 (q++[(⟨b,eU,c21⟩:Hb)])++([]))):=HM
  refine Jb Z HM ((JG∘JR∘Jp 2∘Ja∘Jp 1∘bT∘Jq) fun a Z HM=>?_)
  exact ⟨_,om,(q++[(⟨b,eU,c21⟩:Hb)]),(at_+m),(f-1),jh,iZ,by omega,by omega,by rw [←hk,List.map_append,List.append_assoc,←List.drop_drop];rfl,by rw [←hp,←List.drop_drop,Nat.add_assoc],by rw [←he,←List.drop_drop],kH,by rw [List.length_append,List.length_singleton];omega,rfl,Z.sub kr,HM.pt 3 [2]⟩
 intro a Z HM
 have lC:=of_decide_eq_false dU
 have hz:=NY (f:=f) (l:=(l.drop at_)) (by rw [List.length_drop];omega)
 rw [hz] at hk hp he
 exact Jb Z HM ((JF∘JX∘JG∘JP∘Jp 5∘Jj∘JZ∘wU) fun HM=>Yy (by rw [hS];simpa using hk) (by rw [hS];simpa using hp) (by rw [hS];simpa using he) hco (by have h:=HM.pt (fs':=(.row (.slice Ao q.length co) q.length (q.flatMap hbL) 80 5::(bG 242 q++([])))) 1 [0];rwa [List.append_nil] at h))
def Yz (W:World) (fs:List Fact) (r:Ending) (w':World):Prop:=r= .returned (.tuple #[])∧Mem W w' fs
theorem q47 {W w':World} {fs:List Fact} (hm:Mem W w' fs):Yz W fs (.returned (.tuple #[])) w':=⟨rfl,hm⟩
theorem qzk (k j:Int) (w:World):Calls Tryz.prog 141 #[vI k,vI j] w (fun r w'=>(∃v:Int,r= .returned (vI v))∧Below w.heap.size w w'):=by
 refine (iG Tryz.func141 10) ?_
 exact (JP∘Jp 1∘Jr∘Jp 6∘fJ∘Jj∘JZ∘bB) fun HM=>by exact ⟨⟨_,rfl⟩,HM.below⟩
theorem qnc (k j:Int) (w:World):Calls Tryz.prog 131 #[vI k,vI j] w (fun r w'=>(∃v:Int,r= .returned (vB v))∧Below w.heap.size w w'):=by
 refine (iG Tryz.func131 12) ?_
 refine (JP∘Jp 1∘Jr∘Jp 2∘JL (h:=by exact fun HM=>qzk k j _)) ?_
 rintro HM _ w7 ⟨⟨v7,rfl⟩,hbw⟩
 refine ⟨_,rfl,_,HM.call hbw,?_⟩
 exact (Jv 1 [(8,vQ (IntKind.u64.wrap v7))]∘Jp 2∘Jv 1 [(11,vB (IntKind.u8.wrap (Int.fdiv (IntKind.u64.wrap ((IntKind.u64.wrap v7)*11400714819323198485)) (2^ (min (56:Int).toNat (IntKind.u64).bits)))))]∘Jp 1∘aI∘Jj∘JZ∘bB) fun HM=>by exact ⟨⟨_,rfl⟩,HM.below⟩
theorem q2p (W w:World) (A:Option Addr) (n c:Nat) (V0:List Value) (hV0:V0.length=n+12) (fs:List Fact) (HW:Mem W w (.row (.slice A (n+12) c) (n+12) V0 5 1::fs)) (hc:n+12≤c) (hn:n≤100000000):
    Calls Tryz.prog 76 #[.slice A n c] w (Yz W fs):=by
 refine (dh Tryz.func76 23) ?_
 intro a Z HM
 replace HM:Mem W w (.row (.slice A (n+12) c) (n+12) V0 5 1::fs):=HW
 refine Jb Z HM ((JP∘Jp 2∘Jy (h:=by exact Yl.cap rfl rfl kr)∘Jp 1∘Jl∘cK 12∘Jy (v:=vI (if ((n+12:Nat):Int)<(c:Int) then ((n+12:Nat):Int) else (c:Int))) (h:=by exact Yl.min rfl rfl rfl)∘Jo (vI (n+12:Nat)) (by by_cases h:((n+12:Nat):Int)<(c:Int);exact congrArg _ (if_pos h);exact (congrArg _ (if_neg h)).trans (by rw [show c=n+12 by omega]))∘Jy (h:=by exact Yl.q0 aB (j:=n+12) rfl rfl rfl (hc))∘Jp 1∘aI∘Jr∘Jp 1∘Jj∘JB) fun a Z HM=>?_)
 refine qc (fun mS aS wS=>∃(i:Nat) (V:List Value),(i≤n+12)∧(V.length=n+12)∧mS=n+12-i∧Fr aS 23 [] [(3,vI i),(2,.slice A (n+12) c)]∧Mem W wS (.row (.slice A (n+12) c) (n+12) V 5 1::fs)) (m:=n+12-0) ⟨0,V0,Nat.zero_le _,hV0,rfl,Z.sub kr,HM.pt 1 [0]⟩ ?_
 clear Z HM;rintro mS a w_ ⟨i,V,hi,hV,rfl,Z,HM⟩
 refine Jb Z HM ((JQ∘JP∘Jp 2∘Jl∘Jp 1∘bT∘Jj) (Ju (fun eF=>?_) fun eF=>?_))
 ·
  intro a Z HM
  have iR:=of_decide_eq_true eF
  revert HM;revert a;repeat (first|clear Z|clear HM)
  intro a Z HM
  obtain ⟨gA,rfl⟩:=zb (HM.own (i:=0) rfl) (Nat.lt_of_le_of_lt (Nat.zero_le _) (show i<n+12 from (by omega:i<n+12)))
  refine Jb Z HM ((JT∘aF∘JQ∘JB∘JR∘Jp 3∘JL (h:=by exact fun HM=>qnc 2 (i:Int) _)) ?_)
  rintro HM _ Az ⟨⟨v21,rfl⟩,hbw⟩
  refine ⟨_,rfl,_,HM.call hbw,?_⟩
  refine (Jy (h:=by exact Yl.j6 gA i 1 rfl rfl rfl)) fun a Z HM=>?_
  refine fo Z 5 rfl rfl ?_
  refine yH Z HM (i:=0) rfl rfl rfl rfl kr rfl rfl (by rw [hV];omega) fun ahN HM=>?_
  replace HM:=HM.eY (i:=0) (ys:=putAt V (i*1) [vB v21]) rfl (rfl)
  refine Jb Z HM ((Ee∘Jj∘JR∘Jp 1∘cK 1∘Jp 1∘aY∘Jq) fun a Z HM=>?_)
  exact ⟨_,om,i+1,(putAt V (i*1) [vB v21]),by omega,by rw [LW (by rw [hV];show i*1+1≤n+12;omega)];exact hV,rfl,Z.sub kr,HM.pt 1 [0]⟩
 intro a Z HM
 have iR:=of_decide_eq_false eF
 refine Jb Z HM ((JF∘JX) fun a Z HM=>?_)
 exact wW rfl Z (q47 HM.tail)
end Go.Proofs.YtekiimhdnigmcaaGreatDoor
