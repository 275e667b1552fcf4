/- Parts. -/
import Derived.Test.YtcajpeiobkcliaaGreatDoorQiVarRead
import Derived.Test.YtcajpeiobkcliaaGreatDoorRows
import Derived.Test.YtcajpeiobkcliaaGreatDoorQiPan
import Derived.Test.YtcajpeiobkcliaaGreatDoorQiSep13
import Derived.Test.YtcajpeiobkcliaaGreatDoorQiSep20
import Derived.Test.YtcajpeiobkcliaaGreatDoorQiSep11
import Derived.Test.YtcajpeiobkcliaaGreatDoorQiRnd2
import Derived.Scope
import Derived.Control
import Derived.Test.YtcajpeiobkcliaaGreatDoorQiSep16
import Derived.Test.YtcajpeiobkcliaaGreatDoorQiZ3
set_option linter.all false
set_option maxRecDepth 100000
set_option maxHeartbeats 16000000
namespace Go.Proofs.YtcajpeiobkcliaaGreatDoor
open Go.RowKit
def readN:Nat→List Nat→List Nat×Nat×Nat
 |0,_=>([],0,0)
 |k+1,l=>
  if (vread l).2.2≠0 then ([],0,(vread l).2.2)
  else if (readN k (l.drop (vread l).2.1)).2.2≠0 then ([],0,(readN k (l.drop (vread l).2.1)).2.2)
  else ((vread l).1::(readN k (l.drop (vread l).2.1)).1,(vread l).2.1+(readN k (l.drop (vread l).2.1)).2.1,0)
theorem qnt:∀(l:List Nat) (i acc:Nat),(vgo i acc l).2.1≤i+l.length∧((vgo i acc l).2.2=0→i<(vgo i acc l).2.1)
 |[],i,acc=>by simp [vgo]
 | b :: r, i, acc => by
  rw [vgo]
  split
  ·simp
  ·split
   ·simp
   ·split
    ·simp
    ·have:=qnt r (i+1) (acc+(b-128)*128^i)
     refine ⟨by simp only [List.length_cons];omega,fun h=>by have:=this.2 h;omega⟩
theorem qhk (l:List Nat):(vread l).2.1≤l.length:=by have:=(qnt l 0 0).1;unfold vread;omega
theorem qlz (l:List Nat) (h:(vread l).2.2=0):0<(vread l).2.1:=(qnt l 0 0).2 h
theorem ql0:∀(l:List Nat) (i acc:Nat),(∀b∈l,b<256)→acc<128^i→i≤9→(vgo i acc l).1<18446744073709551616
 |[],i,acc,_,_,_=>by simp [vgo]
 | b :: r, i, acc, hl, ha, hi => by
  have hb:=hl b (by simp)
  have hp:=qvf i hi
  rw [vgo]
  split
  ·show 0<_;omega
  ·rename_i h9
   split
   ·show 0<_;omega
   ·split
    ·show acc+b*128^i<_
     rcases Nat.lt_or_ge i 9 with h|h
     ·have h1:(128:Nat)^i≤128^8:=Nat.pow_le_pow_right (by omega) (by omega)
      have h2:(128:Nat)^8=72057594037927936:=by decide
      have h3:b*128^i≤127*128^i:=Nat.mul_le_mul_right _ (by omega)
      omega
     ·have h3:b*128^i≤1*128^i:=Nat.mul_le_mul_right _ (by omega)
      omega
    ·rcases Nat.lt_or_ge i 9 with h|h
     ·refine ql0 r (i+1) _ (fun x hx=>hl x (by simp [hx])) ?_ (by omega)
      have:=qx4 acc (b-128) i ha
      rwa [show (b-128)%128=b-128 by omega] at this
     ·omega
theorem qhl (l:List Nat) (hl:∀b∈l,b<256):(vread l).1<18446744073709551616:=ql0 l 0 0 hl (by omega) (by omega)
theorem qpk:∀(l:List Nat) (i acc x m:Nat),(∀b∈l,b<256)→i≤9→vgo i acc l=(x,m,0)→
  ∃y,x=acc+y*128^i∧(grp (10-i) y).map vbyte=l.take (m-i)∧i<m∧(0<i→0<y)
 |[],i,acc,x,m,_,_,h=>by simp [vgo] at h
 | b :: r, i, acc, x, m, hl, hi, h => by
  have hb:=hl b (by simp)
  rw [vgo] at h
  split at h
  ·simp at h
  ·rename_i h9
   split at h
   ·simp at h
   ·rename_i h0
    split at h
    ·rename_i h128
     simp only [Prod.mk.injEq] at h
     obtain ⟨rfl,rfl,_⟩:=h
     refine ⟨b,rfl,?_,by omega,fun _=>by omega⟩
     obtain ⟨f,hf⟩:∃f,10-i=f+1:=⟨9-i,by omega⟩
     rw [hf,qgc f b h128,show i+1-i=1 by omega]
     rfl
    ·rename_i h128
     obtain ⟨y,h1,h2,h3,h4⟩:=qpk r (i+1) _ x m (fun b hb=>hl b (by simp [hb])) (by omega) h
     have hy:=h4 (by omega)
     refine ⟨(b-128)+128*y,?_,?_,by omega,fun _=>by omega⟩
     ·rw [h1,Nat.pow_succ,Nat.add_mul]
      have:y*(128^i*128)=128*y*128^i:=by rw [Nat.mul_comm (128^i) 128,←Nat.mul_assoc,Nat.mul_comm y 128]
      omega
     ·obtain ⟨f,hf⟩:∃f,10-i=f+1:=⟨9-i,by omega⟩
      rw [hf,qd9 f _ (by omega),show ((b-128)+128*y)%128=b-128 by omega,show ((b-128)+128*y)/128=y by omega]
      rw [show f=10- (i+1) by omega,List.map_cons,h2]
      obtain ⟨k,hk⟩:∃k,m-i=k+1:=⟨m-i-1,by omega⟩
      rw [hk,List.take_succ_cons,show m- (i+1)=k by omega]
      congr 1
      show b-128+128=b
      omega
theorem qiy {l:List Nat} {x m:Nat} (hl:∀b∈l,b<256) (h:vread l=(x,m,0)):vbytes x=l.take m:=by
 obtain ⟨y,h1,h2,h3,_⟩:=qpk l 0 0 x m hl (by omega) h
 have:x=y:=by simpa using h1
 subst this
 simpa [vbytes] using h2
theorem qiz:∀(j:Nat) (l xs:List Nat) (u:Nat),(∀b∈l,b<256)→readN j l=(xs,u,0)→xs.flatMap vbytes=l.take u∧xs.length=j∧(∀x∈xs,x<18446744073709551616)∧u≤l.length
 |0,l,xs,u,_,h=>by
  simp only [readN,Prod.mk.injEq] at h
  obtain ⟨rfl,rfl,_⟩:=h
  simp
 | j + 1, l, xs, u, hl, h => by
  have hvl:=qhk l
  have hvb:=qhl l hl
  rw [readN] at h
  split at h
  ·rename_i h1;simp at h;exact absurd h.2.2 h1
  ·rename_i h1
   split at h
   ·rename_i h2;simp at h;exact absurd h.2.2 h2
   ·rename_i h2
    have hv:vread l=((vread l).1,(vread l).2.1,0):=by rw [←show (vread l).2.2=0 by omega]
    generalize (vread l).1=x at hv h hvb
    generalize (vread l).2.1=m at hv h hvl
    have hq:readN j (l.drop m)=((readN j (l.drop m)).1,(readN j (l.drop m)).2.1,0):=by
     rw [hv] at h2
     rw [←show (readN j (l.drop m)).2.2=0 by simpa using h2]
    generalize (readN j (l.drop m)).1=ys at hq h
    generalize (readN j (l.drop m)).2.1=n at hq h
    simp only [Prod.mk.injEq] at h
    obtain ⟨rfl,rfl,_⟩:=h
    obtain ⟨g1,g2,g3,g4⟩:=qiz j (l.drop m) ys n (fun b hb=>hl b (List.mem_of_mem_drop hb)) hq
    rw [List.length_drop] at g4
    refine ⟨?_,by simp [g2],?_,by omega⟩
    ·rw [List.flatMap_cons,g1,qiy hl hv,List.take_add]
    ·intro z hz
     rcases List.mem_cons.1 hz with rfl|hz
     ·exact hvb
     ·exact g3 z hz
theorem qx5 (i:Nat) (h:i≤8):2^ (64-7*i)=128*2^ (64-7*(i+1)):=by
 rw [show 64-7*i=7+(64-7*(i+1)) by omega,Nat.pow_add]
theorem qx6 (acc y i:Nat):acc+(y%128+128-128)*128^i+y/128*128^ (i+1)=acc+y*128^i:=by
 rw [Nat.pow_succ,Nat.add_sub_cancel,Nat.add_assoc,Nat.mul_comm (128^i) 128,←Nat.mul_assoc,←Nat.add_mul]
 congr 2
 omega
theorem qvg:∀(f y i acc:Nat) (rest:List Nat),i+f=10→1≤f→y<2^ (64-7*i)→(0<i→0<y)→
  vgo i acc ((grp f y).map vbyte++rest)=(acc+y*128^i,i+(grp f y).length,0)
 |0,_,_,_,_,_,h,_,_=>by omega
 | f + 1, y, i, acc, rest, hi, _, hy, h0 => by
  have h9:i=9→y<2:=fun e=>by subst e;simpa using hy
  by_cases h:y<128
  ·rw [qgc f y h]
   show vgo i acc (y::rest)=_
   rw [vgo,if_neg (by omega),if_neg (by omega),if_pos h]
   rfl
  ·rw [qd9 f y (by omega)]
   show vgo i acc ((y%128+128)::((grp f (y/128)).map vbyte++rest))=_
   have hi8:i≤8:=by
    rcases Nat.lt_or_ge i 9 with h|h
    ·omega
    ·have:=h9 (by omega);omega
   have hy':y/128<2^ (64-7*(i+1)):=by
    rw [qx5 i hi8] at hy
    exact Nat.div_lt_of_lt_mul hy
   rw [vgo,if_neg (by omega),if_neg (by omega),if_neg (by omega),qvg f (y/128) (i+1) _ rest (by omega) (by omega) hy' (fun _=>by omega),qx6]
   simp only [List.length_cons,Prod.mk.injEq,and_true,true_and]
   omega
theorem ql1 {y:Nat} (rest:List Nat) (hy:y<18446744073709551616):vread (vbytes y++rest)=(y,(vbytes y).length,0):=by
 have:=qvg 10 y 0 0 rest rfl (by omega) (by simpa using hy) (fun h=>by omega)
 unfold vread vbytes
 rw [this]
 simp
theorem qi0:∀(k:Nat) (l xs:List Nat) (u x m:Nat),readN k l=(xs,u,0)→vread (l.drop u)=(x,m,0)→readN (k+1) l=(xs++[x],u+m,0)
 |0,l,xs,u,x,m,h,h2=>by
  simp only [readN,Prod.mk.injEq] at h
  obtain ⟨rfl,rfl,_⟩:=h
  rw [List.drop_zero] at h2
  simp [readN,h2]
 | k + 1, l, xs, u, x, m, h, h2 => by
  rw [readN] at h
  split at h
  ·rename_i h1;simp at h;exact absurd h.2.2 h1
  ·rename_i h1
   split at h
   ·rename_i h3;simp at h;exact absurd h.2.2 h3
   ·rename_i h3
    simp only [Prod.mk.injEq] at h
    obtain ⟨rfl,rfl,_⟩:=h
    have hq:readN k (l.drop (vread l).2.1)=((readN k (l.drop (vread l).2.1)).1,(readN k (l.drop (vread l).2.1)).2.1,0):=by
     rw [←show (readN k (l.drop (vread l).2.1)).2.2=0 by omega]
    have h4:=qi0 k _ _ _ x m hq (by rwa [List.drop_drop])
    rw [readN,if_neg h1,h4,if_neg (by simp)]
    simp [Nat.add_assoc]
theorem qpl:∀(k:Nat) (l xs:List Nat) (u:Nat),readN k l=(xs,u,0)→xs.length=k∧k≤u∧u≤l.length
 |0,l,xs,u,h=>by
  simp only [readN,Prod.mk.injEq] at h
  obtain ⟨rfl,rfl,_⟩:=h
  simp
 | k + 1, l, xs, u, h => by
  rw [readN] at h
  split at h
  ·rename_i h1;simp at h;exact absurd h.2.2 h1
  ·rename_i h1
   split at h
   ·rename_i h3;simp at h;exact absurd h.2.2 h3
   ·rename_i h3
    simp only [Prod.mk.injEq] at h
    obtain ⟨rfl,rfl,_⟩:=h
    have hq:readN k (l.drop (vread l).2.1)=((readN k (l.drop (vread l).2.1)).1,(readN k (l.drop (vread l).2.1)).2.1,0):=by
     rw [←show (readN k (l.drop (vread l).2.1)).2.2=0 by omega]
    obtain ⟨h4,h5,h6⟩:=qpl k _ _ _ hq
    have h7:=qlz l (by omega)
    have h8:=qhk l
    rw [List.length_drop] at h6
    refine ⟨by simp [h4],by omega,by omega⟩
theorem qhm:∀{l m:List Nat},(∀x∈l,x<18446744073709551616)→(∀x∈m,x<18446744073709551616)→l.flatMap vbytes=m.flatMap vbytes→l=m
 |[],[],_,_,_=>rfl
 |[],y::m,_,_,h=>by
  have h1:=congrArg List.length h
  have h2:=qdl y
  rw [List.flatMap_cons,List.length_append] at h1
  simp only [List.flatMap_nil,List.length_nil] at h1
  omega
 |x::l,[],_,_,h=>by
  have h1:=congrArg List.length h
  have h2:=qdl x
  rw [List.flatMap_cons,List.length_append] at h1
  simp only [List.flatMap_nil,List.length_nil] at h1
  omega
 |x::l,y::m,h1,h2,h=>by
  rw [List.flatMap_cons,List.flatMap_cons] at h
  have a:=ql1 (l.flatMap vbytes) (h1 x (List.mem_cons_self ..))
  have b:=ql1 (m.flatMap vbytes) (h2 y (List.mem_cons_self ..))
  rw [h,b] at a
  injection a with a1 a2
  subst a1
  rw [qhm (fun z hz=>h1 z (List.mem_cons_of_mem _ hz)) (fun z hz=>h2 z (List.mem_cons_of_mem _ hz)) (List.append_cancel_left h)]
theorem qez {α:Type} {l m:List α} (d:α) (hl:l.length=m.length) (h:∀i,i<l.length→l.getD i d=m.getD i d):l=m:=by
 refine List.ext_getElem hl fun i h1 h2=>?_
 have:=h i h1
 rw [List.getD_eq_getElem?_getD,List.getD_eq_getElem?_getD,List.getElem?_eq_getElem h1,List.getElem?_eq_getElem h2] at this
 exact this
theorem qb0 {α:Type} {f g:Nat→List α}:∀k,(∀i,i<k→(f i).length=(g i).length)→upF k f=upF k g→∀i,i<k→f i=g i
 |0,_,_=>fun i hi=>absurd hi (Nat.not_lt_zero i)
 | k + 1, hl, h => fun i hi => by
  rw [qs,qs] at h
  obtain ⟨h1,h2⟩:=List.append_inj' h (hl k (Nat.lt_succ_self k))
  rcases Nat.lt_or_ge i k with h3|h3
  ·exact qb0 k (fun j hj=>hl j om) h1 i h3
  ·obtain rfl:i=k:=by omega
   exact h2
theorem qbq {x y:Int} (hx:0≤x∧x<9223372036854775808) (hy:0≤y∧y<9223372036854775808) (h:toU x=toU y):x=y:=by unfold toU at h;omega
theorem qhn {l m:List Int} (hl:l.length=m.length) (h1:∀i,i<l.length→0≤l.getD i 0∧l.getD i 0<9223372036854775808) (h2:∀i,i<m.length→0≤m.getD i 0∧m.getD i 0<9223372036854775808) (h:l.map toU=m.map toU):l=m:=by
 refine qez 0 hl fun i hi=>qbq (h1 i hi) (h2 i om) ?_
 have h3:(l.map toU)[i]?=(m.map toU)[i]?:=by rw [h]
 rw [List.getElem?_map,List.getElem?_map,getD_at 0 hi,getD_at 0 (show i<m.length by omega)] at h3
 injection h3
theorem q3c {p:Int} {t u:Tk} {c d:Int} {n m:Nat} (ht:TkGood t c n) (hu:TkGood u d m) (hp:0≤p∧p<t.id∧p<u.id) (hn:n≤1000000∧m≤1000000∧c≤64∧d≤64) (h:tkN p t=tkN p u):t=u:=by
 unfold tkN at h
 simp only [List.cons.injEq,and_true] at h
 obtain ⟨h1,h2,h3,h4,h5,h6,h7,h8⟩:=h
 have a1:=qbq (by have:=ht.id;omega) (by have:=hu.id;omega) h1
 have a2:=qbq (by have:=ht.group;omega) (by have:=hu.group;omega) h2
 have a3:=qbq (by have:=ht.weight;omega) (by have:=hu.weight;omega) h3
 have a4:=qbq (by have:=ht.cpu;omega) (by have:=hu.cpu;omega) h4
 have a6:t.ready=u.ready:=by
  cases h9:t.ready<;>cases h10:u.ready<;>rw [h9,h10] at h6<;>first|rfl|(exact absurd h6 de)
 cases t;cases u
 simp only at a1 a2 a3 a4 h5 a6 h7 h8
 rw [Tk.mk.injEq]
 exact ⟨by omega,a2,a3,a4,h5,a6,h7,h8⟩
theorem q3d {s s':Sta} {g:Nat} {x y:Sp} (hx:spOk s g x=true) (hy:spOk s' g y=true) (h:spN g x=spN g y):x=y:=by
 unfold spOk at hx hy
 rw [Bool.and_eq_true,Bool.or_eq_true,decide_eq_true_eq,bne_iff_ne] at hx hy
 cases x;cases y
 rw [Sp.mk.injEq]
 rcases Nat.eq_zero_or_pos g with h0|h0
 ·rw [qf4 om,qf4 om] at h
  injection h with h
  have h1:=hx.2.resolve_left om
  have h2:=hy.2.resolve_left om
  simp only at h1 h2 h
  omega
 ·rw [qgx h0,qgx h0] at h
  simp only [List.cons_append,List.nil_append,List.cons.injEq,and_true] at h
  exact h
theorem q3e {x y:Gr} (h1:x.parent=y.parent) (h2:x.weight=y.weight):x=y:=by
 cases x;cases y
 rw [Gr.mk.injEq]
 exact ⟨h1,h2⟩
theorem qvh {l:List Tk} (hs:SortT l) {i:Nat} (hi:i<l.length) (h1:∀t∈l,1≤t.id):0≤ql l i∧ql l i<(l.getD i Tk.zero).id:=by
 unfold ql
 split
 ·have:=h1 _ (qd Tk.zero hi);omega
 ·have:=h1 _ (qd Tk.zero (show i-1<l.length by omega))
  have:=hs (i-1) i om hi
  omega
theorem qze {s:Sta} (h:GoodS s) {c:Nat} (hc:c<s.cu.length):0≤s.cu.getD c 0∧s.cu.getD c 0<9223372036854775808:=by
 rcases h.cur c hc with h1|⟨t,ht,h1,_⟩
 ·rw [h1];decide
 ·have:=(h.sh.tasks t ht).id;omega
theorem qkb (g:Nat) (z z':Sp):(spN g z).length=(spN g z').length:=by
 unfold spN
 split<;>rfl
theorem qpm (g:Nat) {l m:List Sp} (h:l.length=m.length):(rwN g l).length=(rwN g m).length:=by
 unfold rwN
 rw [h]
 have key:∀k,(upF k fun c=>spN g (l.getD c Sp.zero)).length=(upF k fun c=>spN g (m.getD c Sp.zero)).length:=fun k=>by
  induction k with
  |zero=>rfl
  |succ k ih=>rw [qs,qs,List.length_append,List.length_append,ih,qkb]
 exact key _
theorem qx7 {a b:Snm} (ha:chkS a=0) (hb:chkS b=0) (oa:a.st.sta.Ok) (ob:b.st.sta.Ok) (h:numsS a=numsS b):SnEq a b:=by
 obtain ⟨na,ra⟩:=qk8 ha
 obtain ⟨nb,rb⟩:=qk8 hb
 have GA:=qfi oa ra
 have GB:=qfi ob rb
 have SA:=GA.sh
 have SB:=GB.sh
 have ca:=SA.cpus;have cb:=SB.cpus
 have la:(a.st.cl.length:Int)=a.st.cpus:=SA.cl
 have lb:(b.st.cl.length:Int)=b.st.cpus:=SB.cl
 have ua:(a.st.cu.length:Int)=a.st.cpus:=SA.cu
 have ub:(b.st.cu.length:Int)=b.st.cpus:=SB.cu
 have ea:a.st.rs.length=a.st.gs.length:=by rw [←qaq];exact SA.sp
 have eb:b.st.rs.length=b.st.gs.length:=by rw [←qaq];exact SB.sp
 replace ca:1≤a.st.cpus∧a.st.cpus≤64:=ca
 replace cb:1≤b.st.cpus∧b.st.cpus≤64:=cb
 rw [qet,qet] at h
 simp only [List.append_assoc] at h
 obtain ⟨h0,h⟩:=List.append_inj h rfl
 obtain ⟨h1,h⟩:=List.append_inj h rfl
 simp only [secN,List.cons.injEq,and_true] at h0 h1
 have e0:a.next=b.next:=qbq om om h0
 obtain ⟨h1a,e2,e3⟩:=h1
 have e1:a.st.cpus=b.st.cpus:=qbq om om h1a
 obtain ⟨h2,h⟩:=List.append_inj h (by show (upF _ _).length=(upF _ _).length;rw [qeu (m:=2) (fun i=>rfl),qeu (m:=2) (fun i=>rfl),e3])
 obtain ⟨h3,h⟩:=List.append_inj h (by show (List.map _ _).length=(List.map _ _).length;rw [List.length_map,List.length_map];omega)
 obtain ⟨h4,h⟩:=List.append_inj h (by show (List.map _ _).length=(List.map _ _).length;rw [List.length_map,List.length_map];omega)
 have e7:a.st.ts.length=b.st.ts.length:=by
  have h5:(a.st.ts.length::_)=(b.st.ts.length::_):=h
  injection h5
 obtain ⟨h5,h6⟩:=List.append_inj h (by show (_::upF _ _).length=(_::upF _ _).length;rw [List.length_cons,List.length_cons,qeu (m:=8) (fun i=>rfl),qeu (m:=8) (fun i=>rfl),e7])
 have ag:gsOk a.st.gs=true:=SA.gs
 have bg:gsOk b.st.gs=true:=SB.gs
 have ga:=qq ag;have gb:=qq bg
 have eg:a.st.gs=b.st.gs:=by
  refine qez Gr.zero e3 fun i hi=>?_
  rcases Nat.eq_zero_or_pos i with rfl|hpos
  ·exact ga.2.2.1.trans gb.2.2.1.symm
  ·have h8:=qb0 (f:=gsN a.st.gs) (g:=gsN b.st.gs) (a.st.gs.length-1) (fun i hi=>rfl) (h2.trans (by show upF _ _=_;rw [e3])) (i-1) om
   unfold gsN at h8
   rw [Nat.sub_add_cancel hpos] at h8
   simp only [List.cons.injEq,and_true] at h8
   have hpa:=qam ag (g:=i) hi i hpos (Nat.le_refl _)
   have hpb:=qam bg (g:=i) om i hpos (Nat.le_refl _)
   unfold ParB at hpa hpb
   obtain ⟨wa,hwa,hwa1,hwa2⟩:=qck ag (g:=i) hi
   obtain ⟨wb,hwb,hwb1,hwb2⟩:=qck bg (g:=i) om
   exact q3e (qbq om om h8.1) (qbq om om h8.2)
 have ecl:a.st.cl=b.st.cl:=qhn om
  (fun i hi=>by have h9:0≤a.st.cl.getD i 0∧a.st.cl.getD i 0≤281474976710656:=of_decide_eq_true (SA.cls i hi);omega)
  (fun i hi=>by have h9:0≤b.st.cl.getD i 0∧b.st.cl.getD i 0≤281474976710656:=of_decide_eq_true (SB.cls i hi);omega) h3
 have ecu:a.st.cu=b.st.cu:=qhn om (fun i hi=>qze GA hi) (fun i hi=>qze GB hi) h4
 have sla:a.st.sta.sp.length=a.st.rs.length:=qaq _
 have slb:b.st.sta.sp.length=b.st.rs.length:=qaq _
 have et:a.st.ts=b.st.ts:=by
  have h5b:(a.st.ts.length::upF a.st.ts.length fun i=>tkN (ql a.st.ts i) (a.st.ts.getD i Tk.zero))=(b.st.ts.length::upF b.st.ts.length fun i=>tkN (ql b.st.ts i) (b.st.ts.getD i Tk.zero)):=h5
  injection h5b with _ h5b
  rw [←e7] at h5b
  have h8:∀i,i<a.st.ts.length→tkN (ql a.st.ts i) (a.st.ts.getD i Tk.zero)=tkN (ql b.st.ts i) (b.st.ts.getD i Tk.zero):=qb0 (f:=fun i=>tkN (ql a.st.ts i) (a.st.ts.getD i Tk.zero)) (g:=fun i=>tkN (ql b.st.ts i) (b.st.ts.getD i Tk.zero)) a.st.ts.length (fun i _=>rfl) h5b
  refine qez Tk.zero e7 fun i hi=>?_
  induction i using Nat.strongRecOn with
  | _ i ih =>
   have hp:ql b.st.ts i=ql a.st.ts i:=by
    unfold ql
    split
    ·rfl
    ·rw [ih (i-1) om om]
   have h9:=h8 i hi
   rw [hp] at h9
   have pa:=qvh SA.sort hi fun t ht=>(SA.tasks t ht).id.1
   have pb:=qvh SB.sort (show i<b.st.sta.ts.length by show i<b.st.ts.length;omega) fun t ht=>(SB.tasks t ht).id.1
   have pb2:ql b.st.ts i<(b.st.ts.getD i Tk.zero).id:=pb.2
   rw [hp] at pb2
   exact q3c (SA.tasks _ (qd Tk.zero hi)) (SB.tasks _ (qd Tk.zero (show i<b.st.sta.ts.length by show i<b.st.ts.length;omega))) ⟨pa.1,pa.2,pb2⟩ ⟨by omega,by omega,ca.2,cb.2⟩ h9
 have er:rowsL a.st=rowsL b.st:=by
  refine qez [] (by rw [qaq,qaq];omega) fun g hg=>?_
  have hga:g<a.st.rs.length:=by rwa [qaq] at hg
  have hgb:g<b.st.rs.length:=by omega
  have ka:∀g,g<a.st.rs.length→((a.st.rs.getD g Rw.zero).l.length:Int)=a.st.cpus:=fun g h=>by rw [←qb9 h];exact SA.rows g (by rw [sla];exact h)
  have kb:∀g,g<b.st.rs.length→((b.st.rs.getD g Rw.zero).l.length:Int)=b.st.cpus:=fun g h=>by rw [←qb9 h];exact SB.rows g (by rw [slb];exact h)
  have kl:∀g,g<a.st.rs.length→(a.st.rs.getD g Rw.zero).l.length=(b.st.rs.getD g Rw.zero).l.length:=fun g h=>by have:=ka g h;have:=kb g om;omega
  have h6b:upF a.st.rs.length (fun g=>rwN g (a.st.rs.getD g Rw.zero).l)=upF b.st.rs.length (fun g=>rwN g (b.st.rs.getD g Rw.zero).l):=h6
  rw [show b.st.rs.length=a.st.rs.length by omega] at h6b
  have h8:rwN g (a.st.rs.getD g Rw.zero).l=rwN g (b.st.rs.getD g Rw.zero).l:=qb0 (f:=fun g=>rwN g (a.st.rs.getD g Rw.zero).l) (g:=fun g=>rwN g (b.st.rs.getD g Rw.zero).l) a.st.rs.length (fun i hi=>qpm i (kl i hi)) h6b g hga
  rw [qb9 hga,qb9 hgb]
  refine qez Sp.zero (kl g hga) fun c hc=>?_
  unfold rwN at h8
  rw [←kl g hga] at h8
  have h9:spN g ((a.st.rs.getD g Rw.zero).l.getD c Sp.zero)=spN g ((b.st.rs.getD g Rw.zero).l.getD c Sp.zero):=qb0 (f:=fun c=>spN g ((a.st.rs.getD g Rw.zero).l.getD c Sp.zero)) (g:=fun c=>spN g ((b.st.rs.getD g Rw.zero).l.getD c Sp.zero)) _ (fun c _=>qkb g _ _) h8 c hc
  have pa:=SA.spots g c (by rw [sla];exact hga) (by have:=ka g hga;show (c:Int)<a.st.cpus;omega)
  have pb:=SB.spots g c (by rw [slb];exact hgb) (by have:=kb g hgb;have:=kl g hga;show (c:Int)<b.st.cpus;omega)
  unfold Sta.spot at pa pb
  rw [show a.st.sta.sp.getD g []=_ from qb9 hga] at pa
  rw [show b.st.sta.sp.getD g []=_ from qb9 hgb] at pb
  exact q3d pa pb h9
 exact ⟨e0,e1,e2,eg,ecl,ecu,et,er⟩
structure SnRight (a:Snm):Prop where
 chk:chkS a=0
 ok:a.st.sta.Ok
 few:StFew a.st
 cap:StCap a.st
theorem q1p {q:Stm} {s:Sta} {nx:Int} (hq:q.sta=s) (hG:GoodS s) (hR:zg s=true) (hn:1≤nx∧nx≤281474976710657) (hc:StCap q):SnRight ⟨nx,q⟩:=by
 subst hq
 have h:=qjt hG.sh
 exact ⟨qk7 (by show ¬(nx<1∨281474976710657<nx);omega) hR,h.ok,h.few,hc⟩
def qzh (w:World) (x:Int) (r:Ending) (w':World):Prop:=∃a:Snm,r= .returned (.tuple #[.agg a.cells,.bool true])∧SnRight a∧GoodS a.st.sta∧IdsIn 12 a.st.ts∧(0≤x∧x<281474976710657→a.next=1+x)∧Mem w w' (stF a.st)
theorem q1q {w w':World} {q:Stm} {s:Sta} {nx x:Int} (hq:q.sta=s) (hG:GoodS s) (hR:zg s=true) (hI:IdsIn 12 s.ts) (hn:1≤nx∧nx≤281474976710657) (hc:StCap q) (hx:0≤x∧x<281474976710657→nx=1+x) (hm:Mem w w' (stF q)):qzh w x (.returned (.tuple #[.agg (Snm.cells ⟨nx,q⟩),.bool true])) w':=
 ⟨⟨nx,q⟩,rfl,q1p hq hG hR hn hc,by subst hq;exact hG,by subst hq;exact hI,hx,hm⟩
section
variable {a b:Snm} {w:World} {B:Nat}
theorem SnRight.sh (h:SnRight a):GoodS a.st.sta:=qfi h.ok (qk8 h.chk).2
theorem cw_ok (h:SnRight a) (hL:LaidX B w) (hB:B≤w.heap.size) (hx:StRd w a.st):Calls Tryz.prog 13 #[.agg a.cells] w (qc8 w 0 (sealL (bodyS a))):=by
 have k:=qdv a h.ok h.few h.cap B w hL hB hx
 rwa [h.chk,qg0 h.chk] at k
theorem ck_ok (h:SnRight a) (hx:StRd w a.st):Calls Tryz.prog 16 #[.agg a.cells] w (Is w (.int .i64 0)):=by
 have k:=qbk a h.ok h.few h.cap w hx
 rwa [h.chk] at k
theorem qvs (h:SnRight a) (hx:StRd w a.st):Calls Tryz.prog 23 #[.agg a.cells] w (qfg 69 w 0 (secsS a)):=by
 have k:=qe0 a h.ok h.few h.cap w hx
 rwa [h.chk,qjo h.chk] at k
theorem qvt:∀l:List Nat,l.length≤(l.flatMap vbytes).length
 |[]=>Nat.le_refl _
 |x::l=>by
  have:=qvt l
  have:=qdl x
  rw [List.flatMap_cons,List.length_append,List.length_cons]
  omega
theorem SnRight.len (h:SnRight a):15≤(sealL (bodyS a)).length∧(sealL (bodyS a)).length≤6000007:=by
 refine ⟨?_,qor (qk9 h.chk)⟩
 have S:=h.sh.sh
 have h1:1≤a.st.cpus:=S.cpus.1
 have h2:(a.st.cl.length:Int)=a.st.cpus:=S.cl
 have h3:(a.st.cu.length:Int)=a.st.cpus:=S.cu
 have h4:1≤a.st.gs.length:=(qq S.gs).1
 have h5:a.st.rs.length=a.st.gs.length:=by rw [←qaq];exact S.sp
 have h6:((a.st.rs.getD 0 Rw.zero).l.length:Int)=a.st.cpus:=by rw [←qb9 (show 0<a.st.rs.length by omega)];exact S.rows 0 (by show 0<(rowsL a.st).length;rw [qaq];omega)
 have h7:1≤(secN a 6).length:=by
  show 1≤(upF a.st.rs.length _).length
  refine Nat.le_trans ?_ (qji (i:=1) om)
  rw [qs,qeo]
  show 1≤(rwN 0 (a.st.rs.getD 0 Rw.zero).l).length
  unfold rwN
  refine Nat.le_trans ?_ (qji (i:=1) om)
  rw [qs,qeo,qf4 de]
  exact Nat.le_refl _
 have h8:=qvt (numsS a)
 have h9:8≤(numsS a).length:=by
  rw [qet]
  simp only [List.length_append]
  have e0:(secN a 0).length=1:=rfl
  have e1:(secN a 1).length=3:=rfl
  have e3:(secN a 3).length=a.st.cl.length:=List.length_map ..
  have e4:(secN a 4).length=a.st.cu.length:=List.length_map ..
  have e5:1≤(secN a 5).length:=by show 1≤(_::_:List Nat).length;rw [List.length_cons];omega
  omega
 rw [qbw,qjm]
 omega
theorem qvu {l m:List Nat} (h:sealL l=sealL m):l=m:=by
 unfold sealL at h
 exact (List.append_inj' h (by rw [qjc,qjc])).1
theorem SnRight.nums (ha:SnRight a) (hb:SnRight b):numsS a=numsS b↔SnEq a b:=⟨fun h=>qx7 ha.chk hb.chk ha.ok hb.ok h,fun h=>by
 have h1:=qwx h
 rwa [qbf ha.chk,qbf hb.chk,eq_comm] at h1⟩
theorem qyg (h:numsS a=numsS b):bodyS a=bodyS b:=by unfold bodyS;rw [h]
theorem SnRight.out (ha:SnRight a) (hb:SnRight b):sealL (bodyS a)=sealL (bodyS b)↔SnEq a b:=by
 rw [←ha.nums hb]
 refine ⟨fun h=>?_,fun h=>by rw [qyg h]⟩
 have h1:=qvu h
 unfold bodyS at h1
 exact qhm (qjk ha.ok ha.few) (qjk hb.ok hb.few) (List.append_cancel_left h1)
end
def snC (nx:Int) (x:Stm) (ng nl nu nt ns:Nat):Array Value:= #[.int .i64 nx,.int .i64 x.cpus,.int .u64 (x.credit:Int),.slice x.gA ng x.gc,.slice x.lA nl x.lc,.slice x.uA nu x.uc,.slice x.tA nt x.tc,.slice x.sA ns x.sc]
section
variable {x:Stm} {nx:Int} {ng nl nu nt ns wn k g c:Nat} {w:World} {B:Nat}
theorem qpt (hl:Lns x ng nl nu nt ns):snC nx x ng nl nu nt ns=Snm.cells ⟨nx,x⟩:=by
 obtain ⟨rfl,rfl,rfl,rfl,rfl⟩:=hl
 rfl
structure BadSn (nx:Int) (x:Stm) (wn ng nl nu nt ns:Nat):Prop where
 ck:chkS ⟨nx,x⟩=wn
 er:wn=330∨wn=331
 ln:Lns x ng nl nu nt ns
 ok:x.sta.Ok
 few:StFew x
 cap:StCap x
theorem BadSn.ne (h:BadSn nx x wn ng nl nu nt ns):chkS ⟨nx,x⟩≠0:=by rw [h.ck];have:=h.er;omega
theorem qhs {α:Type} {l:List α} {P:α→Prop} {a:α} (h:∀x∈l,P x) (ha:P a):∀x∈l.set k a,P x:=fun x hx=>by
 rcases List.mem_or_eq_of_mem_set hx with h1|rfl
 ·exact h x h1
 ·exact ha
theorem ok_cl (h:x.sta.Ok) {a:Int} (ha:I64 a):({x with cl:=x.cl.set k a}:Stm).sta.Ok:=⟨h.cpus,h.credit,h.gs,qhs h.cl ha,h.cu,h.ts,h.sp⟩
theorem q3l (h:x.sta.Ok) {A:Option Addr} {c:Nat} {a:Tk} (ha:a.Ok):({x with tA:=A,tc:=c,ts:=x.ts++[a]}:Stm).sta.Ok:=⟨h.cpus,h.credit,h.gs,h.cl,h.cu,(fun z hz=>(List.mem_append.1 hz).elim (h.ts z) (fun h2=>by rw [List.mem_singleton.1 h2];exact ha)),h.sp⟩
end
theorem qht (x:Int): -281474976710657<Int.tmod x 281474976710657∧Int.tmod x 281474976710657<281474976710657:=⟨Int.lt_tmod_of_pos x de,Int.tmod_lt_of_pos x de⟩
def q3m (w:World) (x:Int) (r:Ending) (w':World):Prop:=(∃z:Int,r= .returned (vI z)∧0≤z∧z<281474976710657∧(0≤x∧x<281474976710657→z=x))∧Below w.heap.size w w'
theorem q1s {n:Nums}:IdsIn 12 n.new.ts:=fun t ht=>by cases ht
theorem qr1 (x:Int) (hI:I64 x) (w:World):
    Calls Tryz.prog 22 #[vI x,vI 281474976710657] w (q3m w x):=by
 unfold I64 at hI
 have hbd:=qht x
 refine (JN2 Tryz.func22 16) ?_
 refine (JP∘Jp 1∘Jj∘JQ∘JP∘Jv 2 [(6,.bool false)]∘Jj∘JF∘JS'∘JP∘Jp 4∘Jd3∘Jj∘JQ∘JP∘Jp 2∘Jd1∘Jj) (Ji (fun hd11=>?_) fun hd11=>?_)
 ·
  exact (JT∘JR∘Jp 3∘Jo (vI ((Int.tmod x 281474976710657)+281474976710657)) (by exact qcg ⟨by omega,by omega⟩)∘Jp 1∘Jd3∘Jr∘Jp 2∘Jd1∘Jj∘JZ∘Jz1) fun I=>by exact ⟨⟨_,rfl,by have:=qht x;omega,by have:=qht x;omega,fun h=>by have:=Int.tmod_eq_of_lt h.1 h.2;omega⟩,I.below⟩
 exact (JF∘JS'∘JP∘Jp 2∘Jd1∘Jj∘JZ∘Jz1) fun I=>by exact ⟨⟨_,rfl,by have:=qht x;omega,by have:=qht x;omega,fun h=>by have:=Int.tmod_eq_of_lt h.1 h.2;omega⟩,I.below⟩
theorem qr2 (n:Nums) (hn:n.Ok) (A:Option Addr) (c_:Nat) (l:List Sml) (hl:∀x∈l,x.Ok) (hc:l.length≤c_) (hnl:l.length≤9223372036854775807) (nx:Int) (hIx:I64 nx) (w:World) (hr:Rd w w.heap.size 8 A l.length (l.flatMap sml)):
    Calls Tryz.prog 12 #[.agg n.cells,.slice A l.length c_,vI nx] w (qzh w nx):=by
 have hsl:=qu9 l 60
 refine (JN3 Tryz.func12 50) ?_
 refine (JP∘JE) fun w3 g3=>(JA #[vI 0,vI 0,vQ 0,vN,vN,vN,vN,vN]) fun w6 g6=>(Jp 1∘Jr∘Jy (v:= .agg n.cells) (h:=by exact Yl.loadS rfl rfl qu6 (qlx hn) (fun _ h=>qa (h.blk (i:=1) rfl)))∘JK (h:=by exact fun I=>qrh n hn _)) fun A16 c16 w16 hc16=>(JL (h:=by exact fun I=>q1d (Nums.cfg hn) (I.rd (i:=0) rfl))) ?_
 rintro I _ w17 ⟨gm,x,rfl,hx,hm⟩
 refine ⟨_,rfl,_,(show Mem w w17 (.row (.slice A16 n.gs.length c16) n.gs.length (n.gs.flatMap grL) 110 2:: .blk g6 #[vI 0,vI 0,vQ 0,vN,vN,vN,vN,vN] 40:: .blk g3 n.cells 27::(mdB gm x++([]))) from I.joinF 3 hm rfl),?_⟩
 refine (Jp 1∘Jx∘Jx∘Jp 2∘Jj∘JQ∘JP∘Jv 4 [(23,vP gm 0),(22,.bool false)]∘Jy (v:= .bool false) (h:=by exact Yl.qv4 rfl rfl rfl)∘Jp 1∘Jd4∘Jj∘JF∘JS'∘JQ∘JP∘Jp 1∘JK (h:=by exact fun I=>qri A c_ l 60 _ hl (I.old hr) hc hnl de)) fun A28 c28 w28 hc28=>(Jl∘Jp 1∘Jj∘JB) fun a Z I=>?_
 refine qj (fun mS aS wS=>∃(k:Nat) (x:Stm) (s:Sta),(k≤(q5 l 60).length)∧(x.sta=s)∧(GoodS s)∧(zg s=true)∧(IdsIn 12 s.ts)∧mS=(q5 l 60).length-k∧Fr aS 50 [] [(30,vI k),(29,vI ((q5 l 60).length:Nat)),(28,.slice A28 ((q5 l 60).length) c28),(25,.bool false),(8,vP gm 0),(7,.bool false),(6,vP g6 0),(2,vI nx)]∧Mem w wS (.row (.slice A28 ((q5 l 60).length) c28) ((q5 l 60).length) ((q5 l 60).flatMap opL) 98 8:: .blk g6 #[vI 0,vI 0,vQ 0,vN,vN,vN,vN,vN] 40::(mdB gm x++([])))) (m:=(q5 l 60).length-0) ⟨0,x,n.new,Nat.zero_le _,hx,(Nums.good hn).1,(Nums.good hn).2,q1s,rfl,Z.sub kr,I.pt 4 [0,2]⟩ ?_
 clear Z I;rintro mS a w_ ⟨k,x,s,hk,hx,hG,hR,hD,rfl,Z,I⟩
 refine Jb Z I ((JP∘Jp 1∘Jj∘JQ) (Ju (fun hb31=>?_) fun hb31=>?_))
 ·
  intro a Z I
  have hd31:=of_decide_eq_true hb31
  have hkl:k<(q5 l 60).length:=by omega
  obtain ⟨o,ho⟩:∃z,(q5 l 60).getD k Op30.zero=z:=⟨_,rfl⟩
  have hom:=qd Op30.zero hkl
  rw [ho] at hom
  have hoo:o.Ok:=qu5 hl _ hom
  have hot:o.task≤12:=qnu _ hom
  refine Jb Z I ((JT∘JS'∘JQ∘JB∘JP) ?_)
  repeat (first|clear Z|clear I)
  intro a Z I
  obtain ⟨gA28,rfl⟩:=qn (I.own (i:=0) rfl) (Nat.lt_of_le_of_lt (Nat.zero_le _) (show k<(q5 l 60).length from by omega))
  refine Jb Z I ((Jy (h:=by exact Yl.ix0 gA28 k 8 rfl rfl rfl)∘Jy (v:= .agg (((q5 l 60).getD k Op30.zero).cells)) (h:=by exact Yl.loadS rfl rfl si_op rfl (fun _ h=>h.qde q1b (i:=0) rfl ((getD_at Op30.zero hkl))))∘Jo (.agg o.cells) (by rw [ho])∘JA #[vB 0,vI 0,vI 0,vI 0,vI 0,vI 0,vI 0,vQ 0]) fun w11 g11=>(JV si_op O0' (h1:=by exact qy6 o)) fun w6_3=>(Jd2∘Jj∘JR∘Jp 1∘Jy (v:= .agg o.cells) (h:=by exact Yl.loadS rfl rfl si_op rfl (fun _ h=>qa (h.blk (i:=0) rfl)))∘JL (h:=by exact fun I=>do_s 3 I rfl hx hG hoo)) ?_)
  rintro I _ w36 ⟨y,rfl,hy,HM2⟩
  refine ⟨_,rfl,_,(show Mem w w36 (.blk g11 o.cells 98:: .row (vS gA28 ((q5 l 60).length) c28) ((q5 l 60).length) ((q5 l 60).flatMap opL) 98 8:: .blk g6 #[vI 0,vI 0,vQ 0,vN,vN,vN,vN,vN] 40::(mdB gm y++([]))) from HM2.back),?_⟩
  refine (Jt3∘Jj∘JR∘JaK 1∘Jp 1∘Jd1∘Jq) fun a Z I=>?_
  exact ⟨_,om,k+1,y,(doS s o).1,by omega,hy,qxw hoo hG,qxx hoo hG hR,q3f hot hD,rfl,Z.sub kr,I.pt 3 [1,2]⟩
 intro a Z I
 have hd31:=of_decide_eq_false hb31
 refine Jb Z I ((JF∘JX∘JG∘JP∘Jp 1∘JL (h:=by exact fun I=>q1g 2 I rfl hx hG)) ?_)
 rintro I _ w40 ⟨p,rfl,hp,hcapp,hm⟩
 refine ⟨_,rfl,_,(show Mem w w40 (.row (.slice A28 ((q5 l 60).length) c28) ((q5 l 60).length) ((q5 l 60).flatMap opL) 98 8:: .blk g6 #[vI 0,vI 0,vQ 0,vN,vN,vN,vN,vN] 40::(stF p++(mdB gm x++([])))) from I.joinF (T:=(mdB gm x++([]))) 2 hm rfl),?_⟩
 refine (Jp 1∘Jx∘Jx∘JA #[vI 0,vQ 0,vN,vN,vN,vN,vN]) fun w12 g12=>(JV si_st O0' (h1:=by exact qfb p)) fun w9_6=>(Jp 1∘Jj) fun a Z I=>?_
 refine wp_seq ?_
 refine Jb Z I ((Vs .n [7]) fun wd10=>(Vq [0,5,6] [(49,.bool true),(43,vI nx)]∘Vy 3 (v:= .agg p.cells) (h:=by exact Yl.loadS rfl rfl si_st rfl (fun _ h=>qa (h.blk (i:=0) rfl)))) fun a Z I HS=>?_)
 refine s_on Z 1 rfl ?_
 refine e_cl Z [vI nx,vI 281474976710657] rfl rfl (qr1 nx hIx _) ?_
 rintro _ w44 ⟨⟨z,rfl,hz1,hz2,hz3⟩,hbw⟩
 refine ⟨_,rfl,?_⟩
 replace I:=I.call hbw
 clear Z;intro a Z
 refine keepS (I.pt 3 [0,1,2]) (fun HS=>?_)
 refine Vb Z I HS ((Vp [2]∘Vo (vI (1+z)) (by exact qcg ⟨by omega,by omega⟩)∘Vy 4 (v:= .agg #[vI (1+z),vI p.cpus,vQ p.credit,.slice p.gA p.gs.length p.gc,.slice p.lA p.cl.length p.lc,.slice p.uA p.cu.length p.uc,.slice p.tA p.ts.length p.tc,.slice p.sA p.rs.length p.sc]) (h:=by exact Yl.build (vs:=[(0,vI (1+z)),(1,.agg p.cells)]) rfl kr kr)) fun a Z I HS=>?_)
 refine s_on Z 7 rfl (e_sa Z I 2 rfl rfl rfl rfl rfl qu rfl rfl (by simp [Value.oneCell']) ?_)
 clear I;intro w10_7 I
 refine noS kr ?_
 refine ap Z (pastS kr) [8] (bt 9 []) [(7,.bool true)] fun a Z=>?_
 refine qb kr ?_
 refine Jb Z I ((JZ) fun a Z I=>?_)
 exact ret2 rfl Z (.cellS (i:=2) Z I rfl rfl qu rfl) (.tmp Z rfl) (q1q (nx:=1+z) hp hG hR hD ⟨by omega,by omega⟩ hcapp (fun h=>by rw [hz3 h]) ((I.dropN 3 rfl).subl (List.sublist_append_left ..)))
structure Pr where
 nx:Nat
 cp:Nat
 cr:Nat
 gp:Nat
 gs:List Nat
 cl:List Nat
 cu:List Nat
 tk:Nat
 ts:List Nat
 sp:List Nat
 e1:Nat
 e2:Nat
 e3:Nat
 e4:Nat
 e5:Nat
 e6:Nat
 e7:Nat
section
variable {α:Type} {b:List Nat} {a x n u:Nat} {xs:List Nat}
def num1 (b:List Nat) (a:Nat) (k:Nat→Nat→Except Nat α):Except Nat α:=if (vread (b.drop a)).2.2≠0 then .error 344 else k (vread (b.drop a)).1 (a+(vread (b.drop a)).2.1)
def numK (b:List Nat) (n a:Nat) (k:List Nat→Nat→Except Nat α):Except Nat α:=if (readN n (b.drop a)).2.2≠0 then .error 344 else k (readN n (b.drop a)).1 (a+(readN n (b.drop a)).2.1)
def cnt1 (b:List Nat) (a lo hi:Nat) (k:Nat→Nat→Except Nat α):Except Nat α:=num1 b a fun x e=>if x<lo∨hi<x then .error 345 else k x e
theorem qyh (ha:a≤b.length) (h:vread (b.drop a)=(x,n,0)):0<n∧a+n≤b.length:=by
 have h1:=qhk (b.drop a)
 have h2:=qlz (b.drop a) (by rw [h])
 rw [h] at h1 h2
 rw [List.length_drop] at h1
 exact ⟨h2,by simp only at h1;omega⟩
theorem qyi (ha:a≤b.length) (h:readN n (b.drop a)=(xs,u,0)):xs.length=n∧n≤u∧a+u≤b.length:=by
 have h1:=qpl _ _ _ _ h
 rw [List.length_drop] at h1
 omega
theorem qvv (hl:∀z∈b,z<256) (h:vread (b.drop a)=(x,n,0)):x<18446744073709551616:=by
 have:=qhl (b.drop a) fun z hz=>hl z (List.mem_of_mem_drop hz)
 rwa [h] at this
end
def NumAt (b:List Nat) (p x e:Nat):Prop:=vread (b.drop p)=(x,e-p,0)∧p≤e
def qa7 (b:List Nat) (n p:Nat) (xs:List Nat) (e:Nat):Prop:=readN n (b.drop p)=(xs,e-p,0)∧p≤e
section
variable {α:Type} {b:List Nat} {p x e n:Nat} {xs:List Nat}
theorem NumAt.eq (h:NumAt b p x e):p+(e-p)=e:=by have:=h.2;omega
theorem qa7.eq (h:qa7 b n p xs e):p+(e-p)=e:=by have:=h.2;omega
theorem NumAt.of {m:Nat} (h:vread (b.drop p)=(x,m,0)):NumAt b p x (p+m):=⟨by rw [h,Nat.add_sub_cancel_left],by omega⟩
theorem qa7.of {m:Nat} (h:readN n (b.drop p)=(xs,m,0)):qa7 b n p xs (p+m):=⟨by rw [h,Nat.add_sub_cancel_left],by omega⟩
theorem NumAt.in (h:NumAt b p x e) (hp:p≤b.length):p<e∧e≤b.length:=by have:=qyh hp h.1;have:=h.2;omega
theorem qa7.in (h:qa7 b n p xs e) (hp:p≤b.length):xs.length=n∧p+n≤e∧e≤b.length:=by have:=qyi hp h.1;have:=h.2;omega
theorem NumAt.lt (h:NumAt b p x e) (hl:∀z∈b,z<256):x<18446744073709551616:=qvv hl h.1
theorem NumAt.one {x2 e2:Nat} (h:NumAt b p x e) (h2:NumAt b p x2 e2):x2=x∧e2=e:=by
 have h3:=h.1.symm.trans h2.1
 injection h3 with h3 h4
 injection h4 with h4
 have:=h.2
 have:=h2.2
 exact ⟨h3.symm,by omega⟩
theorem qa7.one {xs2:List Nat} {e2:Nat} (h:qa7 b n p xs e) (h2:qa7 b n p xs2 e2):xs2=xs∧e2=e:=by
 have h3:=h.1.symm.trans h2.1
 injection h3 with h3 h4
 injection h4 with h4
 have:=h.2
 have:=h2.2
 exact ⟨h3.symm,by omega⟩
theorem qa7.nil (b:List Nat) (p:Nat):qa7 b 0 p [] p:=⟨by rw [Nat.sub_self];rfl,Nat.le_refl _⟩
theorem qa7.snoc {y f:Nat} (h:qa7 b n p xs e) (h2:NumAt b e y f):qa7 b (n+1) p (xs++[y]) f:=by
 have h3:=h.2
 have h4:=h2.2
 have:=qi0 n _ xs (e-p) y (f-e) h.1 (by rw [List.drop_drop,h.eq];exact h2.1)
 exact ⟨by rw [this];congr 2;omega,by omega⟩
end
def prs10 (b:List Nat) (nx:Nat) (e1:Nat) (cp:Nat) (a1:Nat) (cr:Nat) (a2:Nat) (gp:Nat) (e2:Nat) (gs:List Nat) (e3:Nat) (cl:List Nat) (e4:Nat) (cu:List Nat) (e5:Nat) (tk:Nat) (a3:Nat) (ts:List Nat) (e6:Nat) (sp:List Nat) (e7:Nat):Except Nat Pr:=if e7≠b.length then .error 346 else .ok ⟨nx,cp,cr,gp,gs,cl,cu,tk,ts,sp,e1,e2,e3,e4,e5,e6,e7⟩
def prs9 (b:List Nat) (nx:Nat) (e1:Nat) (cp:Nat) (a1:Nat) (cr:Nat) (a2:Nat) (gp:Nat) (e2:Nat) (gs:List Nat) (e3:Nat) (cl:List Nat) (e4:Nat) (cu:List Nat) (e5:Nat) (tk:Nat) (a3:Nat) (ts:List Nat) (e6:Nat):Except Nat Pr:=numK b (cp+3*cp*(gp-1)) e6 (prs10 b nx e1 cp a1 cr a2 gp e2 gs e3 cl e4 cu e5 tk a3 ts e6)
def prs8 (b:List Nat) (nx:Nat) (e1:Nat) (cp:Nat) (a1:Nat) (cr:Nat) (a2:Nat) (gp:Nat) (e2:Nat) (gs:List Nat) (e3:Nat) (cl:List Nat) (e4:Nat) (cu:List Nat) (e5:Nat) (tk:Nat) (a3:Nat):Except Nat Pr:=numK b (8*tk) a3 (prs9 b nx e1 cp a1 cr a2 gp e2 gs e3 cl e4 cu e5 tk a3)
def prs7 (b:List Nat) (nx:Nat) (e1:Nat) (cp:Nat) (a1:Nat) (cr:Nat) (a2:Nat) (gp:Nat) (e2:Nat) (gs:List Nat) (e3:Nat) (cl:List Nat) (e4:Nat) (cu:List Nat) (e5:Nat):Except Nat Pr:=cnt1 b e5 0 65535 (prs8 b nx e1 cp a1 cr a2 gp e2 gs e3 cl e4 cu e5)
def prs6 (b:List Nat) (nx:Nat) (e1:Nat) (cp:Nat) (a1:Nat) (cr:Nat) (a2:Nat) (gp:Nat) (e2:Nat) (gs:List Nat) (e3:Nat) (cl:List Nat) (e4:Nat):Except Nat Pr:=numK b cp e4 (prs7 b nx e1 cp a1 cr a2 gp e2 gs e3 cl e4)
def prs5 (b:List Nat) (nx:Nat) (e1:Nat) (cp:Nat) (a1:Nat) (cr:Nat) (a2:Nat) (gp:Nat) (e2:Nat) (gs:List Nat) (e3:Nat):Except Nat Pr:=numK b cp e3 (prs6 b nx e1 cp a1 cr a2 gp e2 gs e3)
def prs4 (b:List Nat) (nx:Nat) (e1:Nat) (cp:Nat) (a1:Nat) (cr:Nat) (a2:Nat) (gp:Nat) (e2:Nat):Except Nat Pr:=numK b (2*(gp-1)) e2 (prs5 b nx e1 cp a1 cr a2 gp e2)
def prs3 (b:List Nat) (nx:Nat) (e1:Nat) (cp:Nat) (a1:Nat) (cr:Nat) (a2:Nat):Except Nat Pr:=cnt1 b a2 1 256 (prs4 b nx e1 cp a1 cr a2)
def prs2 (b:List Nat) (nx:Nat) (e1:Nat) (cp:Nat) (a1:Nat):Except Nat Pr:=num1 b a1 (prs3 b nx e1 cp a1)
def prs1 (b:List Nat) (nx:Nat) (e1:Nat):Except Nat Pr:=cnt1 b e1 1 64 (prs2 b nx e1)
def prs (b:List Nat):Except Nat Pr:=num1 b 3 (prs1 b)
def Pr.nums (p:Pr):List Nat:=[p.nx,p.cp,p.cr,p.gp]++p.gs++p.cl++p.cu++[p.tk]++p.ts++p.sp
section
variable {α:Type} {b:List Nat} {a n:Nat} {er:Nat}
end
def opnR (l:List Nat):Except Nat Pr:=
 if l.length<15 then .error 340 else if 16777216<l.length then .error 3 else if qc9 l=false then .error 341 else
 if ¬(l.getD 0 0=113∧l.getD 1 0=115) then .error 342 else if l.getD 2 0≠1 then .error 343 else prs (l.take (l.length-4))
section
variable {l:List Nat}
end
section
variable {l:List Nat} {p:Pr} {k:Nat}
end
section
variable {b rest:List Nat} {p x:Nat} {xs:List Nat}
end
theorem qmb {α:Type} (f:Nat→List α):∀k i,i<k→∃R,upF k f=upF i f++(f i++R)
 |0,_,h=>absurd h (Nat.not_lt_zero _)
 | k + 1, i, h => by
  rw [qs]
  rcases Nat.lt_or_ge i k with h1|h1
  ·obtain ⟨R,hR⟩:=qmb f k i h1
   exact ⟨R++f k,by rw [hR,List.append_assoc,List.append_assoc]⟩
  ·obtain rfl:i=k:=by omega
   exact ⟨[],by rw [List.append_nil]⟩
section
variable {s:Snm} {tail:List Nat}
theorem qyj {i:Nat} (hi:i<7):(bodyS s++tail).drop (atS s i)=(secN s i).flatMap vbytes++(bodyS s++tail).drop (atS s (i+1)):=by
 obtain ⟨R,hR⟩:=qmb (secN s) 7 i hi
 have hb:bodyS s++tail=([113,115,1]++(upF i (secN s)).flatMap vbytes)++((secN s i).flatMap vbytes++(R.flatMap vbytes++tail)):=by
  unfold bodyS numsS
  rw [hR]
  simp only [List.flatMap_append,List.append_assoc]
 have hl:([113,115,1]++(upF i (secN s)).flatMap vbytes).length=atS s i:=by
  rw [List.length_append];rfl
 rw [hb,List.drop_left' hl,qep,←List.drop_drop,List.drop_left' hl,List.drop_left' rfl]
end
section
variable {α:Type} {b:List Nat} {a n:Nat} {p:α}
end
section
variable {b:List Nat} {p x e n:Nat} {xs:List Nat}
theorem NumAt.bytes (h:NumAt b p x e) (hl:∀z∈b,z<256):b.drop p=vbytes x++b.drop e:=by
 rw [qiy (fun z hz=>hl z (List.mem_of_mem_drop hz)) h.1]
 have:=List.take_append_drop (e-p) (b.drop p)
 rw [List.drop_drop,h.eq] at this
 exact this.symm
theorem qa7.bytes (h:qa7 b n p xs e) (hl:∀z∈b,z<256):b.drop p=xs.flatMap vbytes++b.drop e∧∀x∈xs,x<18446744073709551616:=by
 obtain ⟨h1,_,h3,_⟩:=qiz n _ xs _ (fun z hz=>hl z (List.mem_of_mem_drop hz)) h.1
 refine ⟨?_,h3⟩
 rw [h1]
 have:=List.take_append_drop (e-p) (b.drop p)
 rw [List.drop_drop,h.eq] at this
 exact this.symm
end
structure Pr.Fit (p:Pr):Prop where
 cp1:1≤p.cp
 cp2:p.cp≤64
 gp1:1≤p.gp
 gp2:p.gp≤256
 tk:p.tk≤65535
 gs:p.gs.length=2*(p.gp-1)
 cl:p.cl.length=p.cp
 cu:p.cu.length=p.cp
 ts:p.ts.length=8*p.tk
 sp:p.sp.length=p.cp+3*p.cp*(p.gp-1)
 lt:∀x∈p.nums,x<18446744073709551616
def toI (x:Nat):Int:=Go.IntKind.i64.wrap (x:Int)
def mostI:Nat:=4611686018427387904
def mapR {α:Type} (n:Nat) (f:Nat→α):List α:=(List.range n).map f
def Pr.grp (p:Pr) (g:Nat):Gr:=if g=0 then ⟨0,1⟩ else ⟨toI (p.gs.getD (2*(g-1)) 0),toI (p.gs.getD (2*(g-1)+1) 0)⟩
def Pr.tn (p:Pr) (i j:Nat):Nat:=p.ts.getD (8*i+j) 0
def Pr.idB (p:Pr):Nat→Int
 |0=>0
 |i+1=>if 65535<Go.IntKind.i64.wrap (p.idB i+toI (p.tn i 0)) then 65535 else Go.IntKind.i64.wrap (p.idB i+toI (p.tn i 0))
def Pr.idA (p:Pr) (i:Nat):Int:=Go.IntKind.i64.wrap (p.idB i+toI (p.tn i 0))
def Pr.tsk (p:Pr) (i:Nat):Tk:=⟨p.idA i,toI (p.tn i 1),toI (p.tn i 2),toI (p.tn i 3),p.tn i 4,decide (p.tn i 5=1),p.tn i 6,p.tn i 7%4294967296⟩
def Pr.so (p:Pr) (g c:Nat):Nat:=if g=0 then c else p.cp+3*p.cp*(g-1)+3*c
def Pr.sn (p:Pr) (g c j:Nat):Nat:=p.sp.getD (p.so g c+j) 0
def Pr.spt (p:Pr) (g c:Nat):Sp:=if g=0 then ⟨0,0,p.sn g c 0⟩ else ⟨p.sn g c 0,p.sn g c 1%4294967296,p.sn g c 2⟩
def Pr.row (p:Pr) (g:Nat):List Sp:=mapR p.cp (p.spt g)
def Pr.snA (p:Pr):Snm:=⟨toI p.nx,⟨(p.cp:Int),p.cr,none,0,mapR p.gp p.grp,none,0,p.cl.map toI,none,0,p.cu.map toI,none,0,mapR p.tk p.tsk,none,0,mapR p.gp fun g=>⟨none,0,p.row g⟩⟩⟩
def dle (x m:Nat):Bool:=decide (x≤m)
def Pr.ok0 (p:Pr):Bool:=(((true&&dle p.nx mostI)&&dle p.cp mostI)&&dle p.cr 18446744073709551615)&&dle p.gp mostI
def Pr.okG (p:Pr):Nat→Bool
 |0=>p.ok0
 |g+1=>if g=0 then p.ok0 else (p.okG g&&dle (p.gs.getD (2*(g-1)) 0) mostI)&&dle (p.gs.getD (2*(g-1)+1) 0) mostI
def Pr.okC (p:Pr):Nat→Bool
 |0=>p.okG p.gp
 |k+1=>p.okC k&&dle (p.cl.getD k 0) mostI
def Pr.okU (p:Pr):Nat→Bool
 |0=>p.okC p.cp
 |k+1=>p.okU k&&dle (p.cu.getD k 0) mostI
def Pr.okT (p:Pr):Nat→Bool
 |0=>p.okU p.cp&&dle p.tk mostI
 |i+1=>((((((((p.okT i&&dle (p.tn i 0) mostI)&&dle (p.tn i 1) mostI)&&dle (p.tn i 2) mostI)&&dle (p.tn i 3) mostI)&&dle (p.tn i 4) 18446744073709551615)&&dle (p.tn i 5) 1)&&dle (p.tn i 6) 18446744073709551615)&&dle (p.tn i 7) 4294967295)&&decide (p.idA i≤65535)
def Pr.okR (p:Pr) (base:Bool) (g:Nat):Nat→Bool
 |0=>base
 |c+1=>if g=0 then p.okR base g c&&dle (p.sn g c 0) 18446744073709551615 else ((p.okR base g c&&dle (p.sn g c 0) 18446744073709551615)&&dle (p.sn g c 1) 4294967295)&&dle (p.sn g c 2) 18446744073709551615
def Pr.okS (p:Pr):Nat→Bool
 |0=>p.okT p.tk
 |g+1=>p.okR (p.okS g) g p.cp
def Pr.okB (p:Pr):Bool:=p.okS p.gp
section
variable {p:Pr} (h:p.Fit)
end
structure Pr.Low (p:Pr):Prop where
 t5:∀i,i<p.tk→p.tn i 5≤1
 t7:∀i,i<p.tk→p.tn i 7≤4294967295
 s1:∀g,g<p.gp→0<g→∀c,c<p.cp→p.sn g c 1≤4294967295
section
variable {p:Pr}
variable (h:p.Fit)
include h
end
section
variable {p:Pr}
end
section
variable {p:Pr} (h:p.Fit)
include h
end
section
variable {p:Pr}
end
section
variable {p:Pr} (h:p.Fit)
include h
end
def rdE (l:List Nat):Nat:=match opnR l with
 | .ok p=>if p.okB=true∧chkS p.snA=0 then 0 else 347
 | .error k=>k
section
variable {l:List Nat} {p:Pr} {k:Nat}
end
def cutB (l:List Nat) (x:Sec):List Nat:=(l.take x.to).drop x.fr
theorem qzi {l:List Nat} (hl:∀z∈l,z<256) (x:Sec):∀z∈cutB l x,z<256:=fun z hz=>hl z (List.mem_of_mem_take (List.mem_of_mem_drop hz))
theorem qzj {w:World} {B c:Nat} {A:Option Addr} {l:List Nat} {x:Sec} (h:Rd w B 1 A l.length (l.map B8)) (h1:x.fr≤x.to∧x.to≤l.length) (hc:l.length≤c):Rd w B 1 (if c=x.fr then A else A.map (·.add (x.fr*1))) (x.to-x.fr) ((cutB l x).map B8):=h.q3t h1.1 h1.2 hc
section
variable {a b:List Nat} {p q:Pr} {k:Nat} {X Y:List Sec} {i:Nat}
end
structure Loose (b:Snm):Prop where
 nx:I64 b.next
 ok:b.st.sta.Ok
 cp:0≤b.st.cpus
 cl:(b.st.cl.length:Int)=b.st.cpus
 cu:(b.st.cu.length:Int)=b.st.cpus
 g1:1≤b.st.gs.length
 g0:b.st.gs.getD 0 Gr.zero=⟨0,1⟩
 rs:b.st.rs.length=b.st.gs.length
 row:∀g,g<b.st.rs.length→((b.st.rs.getD g Rw.zero).l.length:Int)=b.st.cpus
 z0:∀c,c<(b.st.rs.getD 0 Rw.zero).l.length→((b.st.rs.getD 0 Rw.zero).l.getD c Sp.zero).v=0∧((b.st.rs.getD 0 Rw.zero).l.getD c Sp.zero).r=0
section
variable {s:Snm}
end
section
variable {W w:World} {g g2 c k i n:Nat} {A:Option Addr} {b:List Nat} {fs ks:List Fact} {σ:List (Nat×Value)} {a:Act}
end
section
variable {W w:World} {fs A B l m:List Fact} {x:Stm}
end
def chX (i v:Nat):List Nat:=sealL (byA.set i v)
def moreX:List Nat:=sealL (byA++[0])
theorem x1:rdE (chX 0 112)=342:=by kernel_rfl
theorem x2:rdE (chX 2 2)=343:=by kernel_rfl
theorem x3:rdE (chX 4 0)=345:=by kernel_rfl
theorem x4:rdE (chX 4 65)=345:=by kernel_rfl
theorem x5:rdE (chX 6 0)=345:=by kernel_rfl
theorem x6:rdE (chX 9 1)=344:=by kernel_rfl
theorem x7:rdE moreX=346:=by kernel_rfl
theorem x8:rdE (chX 3 0)=347:=by kernel_rfl
theorem x9:rdE (chX 8 5)=347:=by kernel_rfl
structure Xb where
 A:Option Addr
 n:Nat
 c:Nat
 l:List Nat
 e:Nat
def Xb.zero:Xb:=⟨none,0,0,[],0⟩
def Xb.cells (x:Xb):Array Value:= #[.slice x.A x.n x.c,.int .i64 (x.e:Int)]
def Xb.own (x:Xb):Own:=⟨x.A,x.n,x.c,x.l.map B8⟩
def Xb.Ok (x:Xb):Prop:=x.l.length=x.n∧x.n≤x.c∧x.n≤100∧(∀z∈x.l,z<256)∧rdE x.l=x.e
section
variable {s:Snm} {c d B:Nat} {A D:Option Addr} {w:World}
theorem qe1 (s:Snm):(secsS s).length=9:=rfl
end
section
variable {s p q:Snm} {tail a b:List Nat} {X Y:List Sec}
theorem qvw {j:Nat} (hj:j<7):cutB (bodyS s++tail) ⟨qb6 j,atS s j,atS s (j+1)⟩=(secN s j).flatMap vbytes:=by
 unfold cutB
 show ((bodyS s++tail).take (atS s (j+1))).drop (atS s j)=_
 rw [List.drop_take,qyj hj,qep,Nat.add_sub_cancel_left,List.take_left' rfl]
theorem qpu (s:Snm) {j:Nat} (hj:j<7):(secsS s).getD (j+1) Sec.zero=⟨qb6 j,atS s j,atS s (j+1)⟩:=by
 match j,hj with
 |0,_|1,_|2,_|3,_|4,_|5,_|6,_=>rfl
end
section
variable {s:Snm} {l:List Nat} {i:Nat}
def begS (s:Snm):Nat→Nat
 |0=>0
 |9=>atS s 7+4
 |i+1=>atS s i
def nmS (s:Snm) (i:Nat):ByteArray:=((secsS s).getD i Sec.zero).nm
theorem qzl (s:Snm) (h:i<9):(secsS s).getD i Sec.zero=⟨nmS s i,begS s i,begS s (i+1)⟩:=by
 match i,h with
 |0,_|1,_|2,_|3,_|4,_|5,_|6,_|7,_|8,_=>rfl
theorem q1t (s:Snm):(bodyS s).length=atS s 7:=by
 unfold atS bodyS numsS
 rw [List.length_append]
 rfl
theorem q1u (s:Snm):(sealL (bodyS s)).length=atS s 7+4:=by rw [qbw,q1t]
theorem zo (s:Snm):∀{i j:Nat},i≤j→atS s i≤atS s j:=fun {i j} h=>by
 induction j with
 |zero=>rw [show i=0 by omega];exact Nat.le_refl _
 |succ j ih=>
  rcases Nat.lt_or_ge j i with h1|h1
  ·rw [show i=j+1 by omega];exact Nat.le_refl _
  ·rw [qep];have:=ih h1;omega
theorem qpv (s:Snm) (h:i<9):begS s i≤begS s (i+1)∧begS s (i+1)≤(sealL (bodyS s)).length:=by
 rw [q1u]
 match i,h with
 |0,_=>exact ⟨Nat.zero_le _,by have:=zo s (show 0≤7 by decide);show atS s 0≤_;omega⟩
 |1,_=>exact ⟨zo s de,by have:=zo s (show 1≤7 by decide);show atS s 1≤_;omega⟩
 |2,_=>exact ⟨zo s de,by have:=zo s (show 2≤7 by decide);show atS s 2≤_;omega⟩
 |3,_=>exact ⟨zo s de,by have:=zo s (show 3≤7 by decide);show atS s 3≤_;omega⟩
 |4,_=>exact ⟨zo s de,by have:=zo s (show 4≤7 by decide);show atS s 4≤_;omega⟩
 |5,_=>exact ⟨zo s de,by have:=zo s (show 5≤7 by decide);show atS s 5≤_;omega⟩
 |6,_=>exact ⟨zo s de,by have:=zo s (show 6≤7 by decide);show atS s 6≤_;omega⟩
 |7,_=>exact ⟨zo s de,by show atS s 7≤_;omega⟩
 |8,_=>exact ⟨by show atS s 7≤atS s 7+4;omega,Nat.le_refl _⟩
end
section
variable {l:List Nat} {i m n c B:Nat} {w:World} {X:Option Addr}
end
structure ChgSn (p q:Snm) (W:Nat):Prop where
 ok:q.st.sta.Ok
 few:StFew q.st
 cap:StCap q.st
 same:∀i,i≠W→secN q i=secN p i
 diff:chkS q=0→secN q W≠secN p W
theorem qvx {m k:Nat} (h:k≠0):m^^^k≠m:=fun h1=>by
 have h2:m^^^ (m^^^k)=m^^^m:=by rw [h1]
 rw [←Nat.xor_assoc,Nat.xor_self,Nat.zero_xor] at h2
 omega
theorem qhu {m k n:Nat} (hm:m<2^n) (hk:k<2^n):m^^^k<2^n:=Nat.xor_lt_two_pow hm hk
section
variable {p q z:Snm} {y:Stm} {nx:Int} {W g c j m:Nat}
theorem qi2 (h:SnEq p z) (k:ChgSn z q W):ChgSn p q W:=
 ⟨k.ok,k.few,k.cap,fun i hi=>(k.same i hi).trans (qov h i),fun h1 h2=>k.diff h1 (h2.trans (qov h W).symm)⟩
theorem qyk (ho:y.sta.Ok) (hf:StFew y) (hc:StCap y) (hn:1≤nx∧nx≤281474976710657):ChgSn ⟨nx,y⟩ ⟨nx+1,y⟩ 0:=
  ⟨ho,hf,hc,fun i hi=>match i,hi with
    |0,h=>absurd rfl h
    |1,_|2,_|3,_|4,_|5,_|6,_=>rfl
    |_+7,_=>rfl,
   fun _ h=>by
    have h1: [toU (nx+1)]=[toU nx]:=h
    injection h1 with h1
    have:=qbq om om h1
    omega⟩
theorem qr3 {v:Nat} (hf:StFew y):StFew {y with credit:=v}:=⟨hf.g,hf.l,hf.u,hf.t,hf.s,hf.r⟩
theorem qr4 {v:Nat} (hc:StCap y):StCap {y with credit:=v}:=⟨hc.g,hc.l,hc.u,hc.t,hc.s,hc.r⟩
theorem qr5 (ho:y.sta.Ok) (hf:StFew y) (hc:StCap y):ChgSn ⟨nx,y⟩ ⟨nx,{y with credit:=y.credit^^^1}⟩ 1:=
  ⟨⟨ho.cpus,qhu (n:=64) ho.credit de,ho.gs,ho.cl,ho.cu,ho.ts,ho.sp⟩,qr3 hf,qr4 hc,fun i hi=>match i,hi with
    |1,h=>absurd rfl h
    |0,_|2,_|3,_|4,_|5,_|6,_=>rfl
    |_+7,_=>rfl,
   fun _ h=>by
    have h1: [toU y.cpus,y.credit^^^1,y.gs.length]=[toU y.cpus,y.credit,y.gs.length]:=h
    injection h1 with _ h1
    injection h1 with h1
    exact qvx de h1⟩
theorem qvy (ho:y.sta.Ok) (hf:StFew y) (hc:StCap y) (hcl:c<y.cl.length) (hm:y.cl.getD c 0=(m:Int)) (hb:m<2^62):ChgSn ⟨nx,y⟩ ⟨nx,{y with cl:=y.cl.set c ((m^^^1:Nat):Int)}⟩ 3:=by
  have hx:m^^^1<2^62:=qhu hb de
  have hxn:m^^^1≠m:=qvx de
  refine ⟨ok_cl ho (by unfold I64;omega),⟨hf.g,by show (List.set _ _ _).length≤_;rw [List.length_set];exact hf.l,hf.u,hf.t,hf.s,hf.r⟩,⟨hc.g,by show (List.set _ _ _).length≤_;rw [List.length_set];exact hc.l,hc.u,hc.t,hc.s,hc.r⟩,fun i hi=>match i,hi with
    |3,h=>absurd rfl h
    |0,_|1,_|2,_|4,_|5,_|6,_=>rfl
    |_+7,_=>rfl,
   fun _ h=>?_⟩
  have h1:(y.cl.set c ((m^^^1:Nat):Int)).map toU=y.cl.map toU:=h
  have h2:=congrArg (fun l:List Nat=>l[c]?) h1
  simp only [List.getElem?_map] at h2
  rw [List.getElem?_set_self hcl,getD_at 0 hcl,hm] at h2
  injection h2 with h2
  have:=qbq om om h2
  omega
theorem qyl {A:Option Addr} {n:Nat} {t:Tk} (ho:y.sta.Ok) (hf:StFew y) (hc:StCap y) (ht:t.Ok) (hl:y.ts.length+1≤n) (h1:y.ts.length+1≤1000000):ChgSn ⟨nx,y⟩ ⟨nx,{y with tA:=A,tc:=n,ts:=y.ts++[t]}⟩ 5:=
  ⟨q3l ho ht,⟨hf.g,hf.l,hf.u,by show (_++_:List Tk).length≤_;rw [List.length_append];exact h1,hf.s,hf.r⟩,⟨hc.g,hc.l,hc.u,by show (_++_:List Tk).length≤_;rw [List.length_append];exact hl,hc.s,hc.r⟩,fun i hi=>match i,hi with
    |5,h=>absurd rfl h
    |0,_|1,_|2,_|3,_|4,_|6,_=>rfl
    |_+7,_=>rfl,
   fun _ h=>by
    have h2:((y.ts++[t]).length::_:List Nat)=y.ts.length::_:=h
    injection h2 with h2
    rw [List.length_append] at h2
    have:([t]:List Tk).length=1:=rfl
    omega⟩
def Tk.flip (t:Tk):Tk:={t with v:=t.v^^^2}
theorem qvz {l:List Tk} {i:Nat}:ql (l.set j (l.getD j Tk.zero).flip) i=ql l i:=by
 unfold ql
 split
 ·rfl
 ·rcases Nat.lt_or_ge j l.length with h|h
  ·by_cases h1:j=i-1
   ·subst h1;rw [qi _ _ h];rfl
   ·rw [getD_set_ne _ _ h1]
  ·rw [List.set_eq_of_length_le h]
theorem chg_v (ho:y.sta.Ok) (hf:StFew y) (hc:StCap y) (hj:j<y.ts.length):ChgSn ⟨nx,y⟩ ⟨nx,{y with ts:=y.ts.set j (y.ts.getD j Tk.zero).flip}⟩ 5:=by
  have hto:=ho.ts _ (qd (l:=y.ts) Tk.zero hj)
  refine ⟨⟨ho.cpus,ho.credit,ho.gs,ho.cl,ho.cu,qhs ho.ts ⟨hto.id,hto.group,hto.weight,hto.cpu,hto.mask,qhu (n:=64) hto.v de,hto.r⟩,ho.sp⟩,⟨hf.g,hf.l,hf.u,by show (List.set _ _ _).length≤_;rw [List.length_set];exact hf.t,hf.s,hf.r⟩,⟨hc.g,hc.l,hc.u,by show (List.set _ _ _).length≤_;rw [List.length_set];exact hc.t,hc.s,hc.r⟩,fun i hi=>match i,hi with
    |5,h=>absurd rfl h
    |0,_|1,_|2,_|3,_|4,_|6,_=>rfl
    |_+7,_=>rfl,
   fun _ h=>?_⟩
  have h2:((y.ts.set j (y.ts.getD j Tk.zero).flip).length::upF (y.ts.set j (y.ts.getD j Tk.zero).flip).length fun i=>tkN (ql (y.ts.set j (y.ts.getD j Tk.zero).flip) i) ((y.ts.set j (y.ts.getD j Tk.zero).flip).getD i Tk.zero))=y.ts.length::upF y.ts.length fun i=>tkN (ql y.ts i) (y.ts.getD i Tk.zero):=h
  injection h2 with _ h2
  rw [List.length_set] at h2
  have h3:=qb0 (f:=fun i=>tkN (ql (y.ts.set j (y.ts.getD j Tk.zero).flip) i) ((y.ts.set j (y.ts.getD j Tk.zero).flip).getD i Tk.zero)) (g:=fun i=>tkN (ql y.ts i) (y.ts.getD i Tk.zero)) y.ts.length (fun i hi=>rfl) h2 j hj
  rw [qi _ _ hj,qvz] at h3
  unfold tkN at h3
  simp only [List.cons.injEq,and_true] at h3
  obtain ⟨_,_,_,_,_,_,h3,_⟩:=h3
  exact qvx de h3
def Sp.flip (z:Sp):Sp:={z with floor:=(z.floor|||9223372036854775808)^^^1}
theorem q1v (n:Nat):(n|||9223372036854775808)^^^1≠n:=fun h=>by
 have h1:=congrArg (fun k:Nat=>k.testBit 0) h
 simp only [Nat.testBit_xor,Nat.testBit_or] at h1
 rw [show (9223372036854775808:Nat).testBit 0=false by decide,show (1:Nat).testBit 0=true by decide] at h1
 cases hb:n.testBit 0<;>rw [hb] at h1<;>cases h1
theorem qr6 {z:Sp} (h:z.Ok):z.flip.Ok:=⟨h.v,h.r,qhu (n:=64) (Nat.or_lt_two_pow (n:=64) h.floor de) de⟩
theorem qmc {rs:List Rw} {z:Sp} (hg:g<rs.length):(rsPut rs g c z).getD g Rw.zero={rs.getD g Rw.zero with l:=(rs.getD g Rw.zero).l.set c z}:=by
 unfold rsPut
 rw [qi _ _ hg]
theorem qhv {rs:List Rw} {z:Sp} {P:Rw→Prop} (hg:g<rs.length) (h:∀y∈rs,P y) (h2:P {rs.getD g Rw.zero with l:=(rs.getD g Rw.zero).l.set c z}):∀y∈rsPut rs g c z,P y:=qhs h h2
theorem qn3 (g:Nat) (l:List Sp) (z:Sp):(rwN g (l.set c z)).length=(rwN g l).length:=qpm g (List.length_set ..)
theorem qv0 (ho:y.sta.Ok) (hf:StFew y) (hc:StCap y) (hg:g<y.rs.length) (h0:0<g) {z:Sp} (hz:(y.rs.getD g Rw.zero).l[c]?=some z):ChgSn ⟨nx,y⟩ ⟨nx,{y with rs:=rsPut y.rs g c z.flip}⟩ 6:=by
  have hgm:y.rs.getD g Rw.zero∈y.rs:=qd Rw.zero hg
  have hrow:∀x∈(y.rs.getD g Rw.zero).l,x.Ok:=ho.sp _ (List.mem_map_of_mem hgm)
  have hcl:c<(y.rs.getD g Rw.zero).l.length:=(List.getElem?_eq_some_iff.1 hz).1
  have hlen:((y.rs.getD g Rw.zero).l.set c z.flip).length=(y.rs.getD g Rw.zero).l.length:=List.length_set ..
  refine ⟨⟨ho.cpus,ho.credit,ho.gs,ho.cl,ho.cu,ho.ts,fun l hl=>?_⟩,⟨hf.g,hf.l,hf.u,hf.t,by show (rsPut _ _ _ _).length≤_;rw [qt];exact hf.s,qhv hg hf.r (by show (List.set _ _ _).length≤_;rw [hlen];exact hf.r _ hgm)⟩,⟨hc.g,hc.l,hc.u,hc.t,by show (rsPut _ _ _ _).length≤_;rw [qt];exact hc.s,qhv (P:=fun x=>x.l.length≤x.c) hg hc.r (by show (List.set _ _ _).length≤_;rw [hlen];exact hc.r _ hgm)⟩,fun i hi=>match i,hi with
    |6,h=>absurd rfl h
    |0,_|1,_|2,_|3,_|4,_|5,_=>rfl
    |_+7,_=>rfl,
   fun _ h=>?_⟩
  · obtain ⟨x, hx, rfl⟩ := List.mem_map.1 hl
    exact qhv (P:=fun x=>∀u∈x.l,u.Ok) hg (fun x hx=>ho.sp _ (List.mem_map_of_mem hx)) (qhs hrow (qr6 (hrow z (List.mem_of_getElem? hz)))) x hx
  · have h2 : upF (rsPut y.rs g c z.flip).length (fun i => rwN i ((rsPut y.rs g c z.flip).getD i Rw.zero).l) = upF y.rs.length fun i => rwN i (y.rs.getD i Rw.zero).l := h
    rw [qt] at h2
    have h3:=qb0 (f:=fun i=>rwN i ((rsPut y.rs g c z.flip).getD i Rw.zero).l) (g:=fun i=>rwN i (y.rs.getD i Rw.zero).l) y.rs.length (fun i hi=>by
      by_cases h4:g=i
      · subst h4;rw [qmc hg];exact qn3 _ _ _
      · unfold rsPut;rw [getD_set_ne _ _ h4]) h2 g hg
    rw [qmc hg] at h3
    have h5:upF ((y.rs.getD g Rw.zero).l.set c z.flip).length (fun i=>spN g (((y.rs.getD g Rw.zero).l.set c z.flip).getD i Sp.zero))=upF (y.rs.getD g Rw.zero).l.length fun i=>spN g ((y.rs.getD g Rw.zero).l.getD i Sp.zero):=h3
    rw [hlen] at h5
    have h6:=qb0 (f:=fun i=>spN g (((y.rs.getD g Rw.zero).l.set c z.flip).getD i Sp.zero)) (g:=fun i=>spN g ((y.rs.getD g Rw.zero).l.getD i Sp.zero)) (y.rs.getD g Rw.zero).l.length (fun i hi=>qkb _ _ _) h5 c hcl
    rw [qi _ _ hcl,List.getD_eq_getElem?_getD,hz,qgx h0,qgx h0] at h6
    simp only [List.cons_append,List.nil_append,List.cons.injEq,and_true,Option.getD_some] at h6
    exact q1v _ h6.2.2
theorem ChgSn.right (h:ChgSn p q W) (hc:chkS q=0):SnRight q:=⟨hc,h.ok,h.few,h.cap⟩
theorem ChgSn.ne (h:ChgSn p q W) (hc:chkS q=0):¬SnEq p q:=fun e=>h.diff hc (qov e W)
theorem q1w (h:ChgSn p q W) (hc:chkS q=0) (hp:SnRight p) {i:Nat} (hi:i<8):cutB (sealL (bodyS p)) ((secsS p).getD i Sec.zero)=cutB (sealL (bodyS q)) ((secsS q).getD i Sec.zero)↔i≠W+1:=by
 match i,hi with
 |0,_=>exact ⟨fun _=>by omega,fun _=>rfl⟩
 | i + 1, hi =>
  have hi:i<7:=by omega
  rw [qpu p hi,qpu q hi]
  unfold sealL
  rw [qvw hi,qvw hi]
  constructor
  ·intro e h1
   obtain rfl:i=W:=by omega
   exact h.diff hc (qhm (qjj hp.ok hp.few i) (qjj h.ok h.few i) e).symm
  ·intro h1
   rw [h.same i om]
theorem q1x (h:ChgSn p q W) (hc:chkS q=0) (hp:SnRight p) {i wh:Nat} (hi:i<8) (hw:wh=W+1):((!(decide (cutB (sealL (bodyS p)) ((secsS p).getD i Sec.zero)=cutB (sealL (bodyS q)) ((secsS q).getD i Sec.zero))))==((i:Int)==(wh:Int)))=true:=by
 have k:=q1w h hc hp hi
 by_cases h1:i=wh
 ·rw [decide_eq_false fun e=>(k.1 e) om,show ((i:Int)==(wh:Int))=true from beq_iff_eq.2 om]
  rfl
 ·rw [decide_eq_true (k.2 om),show ((i:Int)==(wh:Int))=false from beq_eq_false_iff_ne.2 om]
  rfl
end
section
variable {q p:Snm} {x:Stm} {nx:Int} {ng nl nu nt ns B:Nat} {w:World}
theorem qym (hq:q=⟨nx,x⟩) (hl:Lns x ng nl nu nt ns) (ho:q.st.sta.Ok) (hf:StFew q.st) (hc:StCap q.st) (hx:StRd w x):Calls Tryz.prog 16 #[.agg (snC nx x ng nl nu nt ns)] w (Is w (.int .i64 (chkS q:Int))):=by
 subst hq
 rw [qpt hl]
 exact qbk ⟨nx,x⟩ ho hf hc w hx
theorem qyn (hq:q=⟨nx,x⟩) (hl:Lns x ng nl nu nt ns) (h:SnRight q) (hL:LaidX B w) (hB:B≤w.heap.size) (hx:StRd w x):Calls Tryz.prog 13 #[.agg (snC nx x ng nl nu nt ns)] w (qc8 w 0 (sealL (bodyS q))):=by
 subst hq
 rw [qpt hl]
 exact cw_ok h hL hB hx
theorem q1y (hq:q=⟨nx,x⟩) (hl:Lns x ng nl nu nt ns) (h:SnRight q) (hx:StRd w x):Calls Tryz.prog 23 #[.agg (snC nx x ng nl nu nt ns)] w (qfg 69 w 0 (secsS q)):=by
 subst hq
 rw [qpt hl]
 exact qvs h hx
theorem q1z (hq:q=⟨nx,x⟩) (hl:Lns x ng nl nu nt ns) (hp:StRd w p.st) (hpf:StFew p.st) (hf:StFew q.st) (hx:StRd w x) (hn:¬SnEq p q):Calls Tryz.prog 18 #[.agg p.cells,.agg (snC nx x ng nl nu nt ns)] w (Is w (.bool false)):=by
 subst hq
 rw [qpt hl]
 have k:=qhr p ⟨nx,x⟩ w hp hx hpf hf
 rwa [decide_eq_false hn] at k
end
section
variable {P:Program} {S:World→Prop} {σ:List (Nat×Value)} {o:Oper}
theorem Yl.remI {t u:TypeId} {x y:Operand} {k:Go.IntKind} {m n:Int} (hop:o.op= .binOp .rem t x y u) (hx:look σ x=some (.int k m)) (hy:look σ y=some (.int k n)) (hn:n≠0):Yl P S σ o (.int k (m.tmod n)):=fun a N D Z w hS=>by
 have hb:qbr .rem (.int k m) (.int k n)=some (.int k (m.tmod n)):=by
  show (if k=k then qgf .rem k m n else none)=_
  rw [if_pos rfl]
  show (if n=0 then none else some (Value.int k (m.tmod n)))=_
  rw [if_neg hn]
 unfold execOp
 simp [hop,Z.eval hx,Z.eval hy,zi (P:=P) .rem t x y (a:= .int k m) rfl,qbh hb t]
end
def PickN (w:World) (n:Int) (r:Ending) (w':World):Prop:=(∃c:Nat,r= .returned (.int .i64 (c:Int))∧(c:Int)<n)∧Below w.heap.size w w'
theorem qkg {w w':World} {n z:Int} (h0:0≤z) (h1:z<n) (hb:Below w.heap.size w w'):PickN w n (.returned (.int .i64 z)) w':=
 ⟨⟨z.toNat,by rw [Int.toNat_of_nonneg h0],by omega⟩,hb⟩
def LoopT (ts tt:List Tk) (wz:Nat):Prop:=(wz=0∧tt=ts)∨(wz=6∧∃j,j<ts.length∧tt=ts.set j (ts.getD j Tk.zero).flip)
theorem LoopT.step {ts tt:List Tk} {wz i:Nat} {t:Tk} (h:LoopT ts tt wz) (h0:wz=0) (hi:tt[i]?=some t):LoopT ts (tt.set i t.flip) 6:=by
 rcases h with ⟨_,rfl⟩|⟨h1,_⟩
 ·have hl:=(List.getElem?_eq_some_iff.1 hi).1
  refine .inr ⟨rfl,i,hl,?_⟩
  rw [List.getD_eq_getElem?_getD,hi]
  rfl
 ·omega
theorem LoopT.chg {p:Snm} {y:Stm} {nx:Int} {tt:List Tk} {wz:Nat} (h:LoopT y.ts tt wz) (he:SnEq p ⟨nx,y⟩) (ho:y.sta.Ok) (hf:StFew y) (hc:StCap y):wz=0∨(ChgSn p ⟨nx,{y with ts:=tt}⟩ (wz-1)∧1≤wz∧wz≤7):=by
 rcases h with ⟨h0,_⟩|⟨rfl,j,hj,rfl⟩
 ·exact .inl h0
 ·exact .inr ⟨qi2 he (chg_v ho hf hc hj),by decide,by decide⟩
theorem q10 (l:List Tk):∀u∈l.flatMap tkL,u.oneCell'=true:=fun u hu=>by
 obtain ⟨x,_,hx⟩:=List.mem_flatMap.1 hu
 exact qjq x u hx
theorem Mem.qn4 {W w:World} {F T:List Fact} {x:Stm} {ng nl nu nt ns:Nat} (h:Mem W w F) (he:F=fG x.gA ng x.gc x.gs::fI x.lA nl x.lc x.cl::fI x.uA nu x.uc x.cu::fT x.tA nt x.tc x.ts::fS x.sA ns x.sc x.rs::(fR x.rs++T)) (hl:Lns x ng nl nu nt ns):StRd w x:=by
 obtain ⟨rfl,rfl,rfl,rfl,rfl⟩:=hl
 exact h.stL (T:=T) 0 he
theorem qyo {x y:Stm} (h:StaEq x y) (f:StFew x):StFew y:=by
 obtain ⟨⟨_,_,h3⟩,h4,h5,h6,h7⟩:=h
 have h8:x.rs.map Rw.l=y.rs.map Rw.l:=h7
 have h9:=qih h7
 refine ⟨h3▸f.g,h4▸f.l,h5▸f.u,h6▸f.t,h9▸f.s,fun z hz=>?_⟩
 have h10:z.l∈x.rs.map Rw.l:=h8▸List.mem_map_of_mem hz
 obtain ⟨u,hu,hu2⟩:=List.mem_map.1 h10
 rw [←hu2]
 exact f.r u hu
theorem q11 {t:Tk} (h:t.Ok):t.flip.Ok:=⟨h.id,h.group,h.weight,h.cpu,h.mask,qhu (n:=64) h.v de,h.r⟩
theorem i64_5:I64 5:=by unfold I64;decide
theorem qv1 (x:Int) (n:Int) (hn:1≤n∧n≤64) (w:World):
    Calls Tryz.prog 22 #[vI x,vI n] w (PickN w n):=by
 have hb1:=Int.lt_tmod_of_pos x (show 0<n by omega)
 have hb2:=Int.tmod_lt_of_pos x (show 0<n by omega)
 refine (JN2 Tryz.func22 16) ?_
 refine (JP∘Jp 1∘Jj∘JQ∘JP∘Jp 2∘Jd1∘Jj) (Ji (fun hd6=>?_) fun hd6=>?_)
 ·
  exact (JT∘JP∘Jp 1∘Jj∘JZ∘Jz1) fun I=>qkg om om I.below
 refine (JF∘JS'∘JP∘Jp 2∘Jy (v:=vI (Int.tmod x n)) (h:=by exact Yl.remI rfl rfl rfl om)∘Jp 1∘Jd3∘Jj∘JQ∘JP∘Jp 2∘Jd1∘Jj) (Ji (fun hd11=>?_) fun hd11=>?_)
 ·
  exact (JT∘JR∘Jp 3∘Jo (vI (Int.tmod x n+n)) (by exact qcg ⟨by omega,by omega⟩)∘Jp 1∘Jd3∘Jr∘Jp 2∘Jd1∘Jj∘JZ∘Jz1) fun I=>qkg om om I.below
 exact (JF∘JS'∘JP∘Jp 2∘Jd1∘Jj∘JZ∘Jz1) fun I=>qkg om om I.below
theorem qhw (n:Nums) (hn:n.Ok) (Al:Option Addr) (cl_:Nat) (l:List Sml) (hl:∀x∈l,x.Ok) (hcl:l.length≤cl_) (hnl:l.length≤9223372036854775807) (b:Nat) (hb:b<256) (x:Int) (hIx:I64 x) (B:Nat) (w:World) (hL:LaidX B w) (hB:B≤w.heap.size) (hrl:Rd w w.heap.size 8 Al l.length (l.flatMap sml)):
    Calls Tryz.prog 4 #[.agg n.cells,.slice Al l.length cl_,vB b,vI x] w (Is w (.bool true)):=by
 refine (JN4 Tryz.func4 303) ?_
 refine (JP∘JE) fun w4 g4=>(Jp 1∘Jj∘JQ∘JP∘JI (h:=by exact fun I=>qn2 B _ (hL.mem I hB) (I.le hB))) fun w26 hbw=>(Jp 1∘Jd1∘Jq) fun a Z I=>?_
 replace I:Mem w _ (.blk g4 n.cells 27:: []):=I
 refine Jb Z I ((JG∘JF∘JS'∘JP∘Jy (v:= .agg n.cells) (h:=by exact Yl.loadS rfl rfl qu6 (qlx hn) (fun _ h=>qa (h.blk (i:=0) rfl)))∘Jp 1∘JL (h:=by exact fun I=>qr2 n hn Al cl_ l hl hcl hnl 5 i64_5 _ (I.old hrl))) ?_)
 rintro I _ w31 ⟨p,rfl,hsp,hgp,hip,hnp,hm⟩
 refine ⟨_,rfl,_,(show Mem w w31 (.blk g4 n.cells 27::(stF p.st++([]))) from I.joinF (T:=[]) 1 hm rfl),?_⟩
 refine (Jp 1∘Jx∘Jx∘JA #[vI 0,vI 0,vQ 0,vN,vN,vN,vN,vN]) fun w9 g9=>(JV qu O0' (h1:=by exact qgw p)) fun w3_7=>(Jp 1∘Jj) fun a Z I=>?_
 refine zb (fun aS wS=>∃(z:Stm) (g11:Nat),Fr aS 303 [] [(11,vP g11 0),(10,.bool true),(9,vP g9 0),(27,.bool false),(8,.bool false),(2,vB b),(3,vI x)]∧Mem w wS (.blk g11 #[vI p.next,vI z.cpus,vQ z.credit,.slice z.gA z.gs.length z.gc,.slice z.lA z.cl.length z.lc,.slice z.uA z.cu.length z.uc,.slice z.tA z.ts.length z.tc,.slice z.sA z.rs.length z.sc] 40:: .blk g9 p.cells 40:: .blk g4 n.cells 27::(stF z++(stF p.st++([]))))∧(StaEq p.st z)∧(StCap z)) ?_ ?_
 ·
  refine qks I [.blk g9 p.cells 40,.blk g4 n.cells 27] [0,1] [7] fun I HS=>?_
  refine ap Z (fun _=>HS) [0,2] (bf 8 [0,2]) [(36,vP g9 1),(34,vP g9 0)] fun a Z=>?_
  refine s_ac Z HS 1 0 (v:=vI p.next) fun a Z=>?_
  refine s_az Z HS 3 rfl (v:= .agg #[vI p.st.cpus,vQ p.st.credit,.slice p.st.gA p.st.gs.length p.st.gc,.slice p.st.lA p.st.cl.length p.st.lc,.slice p.st.uA p.st.cu.length p.st.uc,.slice p.st.tA p.st.ts.length p.st.tc,.slice p.st.sA p.st.rs.length p.st.sc]) (Yl.loadS rfl rfl si_st rfl (fun _ h=>h.sub (i:=0) rfl 1 rfl)) fun a Z=>?_
  refine qo [4,6] kr rfl ?_
  refine all_cons ?_ ?_
  ·refine qc Z (i:=4) rfl rfl ?_
   refine e_cl Z [.agg #[vI p.st.cpus,vQ p.st.credit,.slice p.st.gA p.st.gs.length p.st.gc,.slice p.st.lA p.st.cl.length p.st.lc,.slice p.st.uA p.st.cu.length p.st.uc,.slice p.st.tA p.st.ts.length p.st.tc,.slice p.st.sA p.st.rs.length p.st.sc]] rfl rfl (qe2 p.st _ (I.st1 2 rfl) hsp.few) ?_
   rintro _ w38 ⟨z,rfl,hez,hcz,hm⟩
   refine ⟨_,rfl,?_⟩
   replace I:=(show Mem w w38 (.blk g9 p.cells 40:: .blk g4 n.cells 27::(stF z++(stF p.st++([])))) from I.joinF (T:=(stF p.st++([]))) 2 hm rfl)
   clear Z;intro a Z
   refine keepS (I.pk [0,1]) (fun HS=>?_)
   refine s_az Z HS 5 rfl (v:= .agg #[vI p.next,vI z.cpus,vQ z.credit,.slice z.gA z.gs.length z.gc,.slice z.lA z.cl.length z.lc,.slice z.uA z.cu.length z.uc,.slice z.tA z.ts.length z.tc,.slice z.sA z.rs.length z.sc]) (Yl.build (vs:=[(0,vI p.next),(1,.agg z.cells)]) rfl kr kr) fun a Z=>?_
   refine s_on Z 6 rfl (s_ea Z I #[vI 0,vI 0,vQ 0,vN,vN,vN,vN,vN] ?_)
   clear Z I;intro a w11 g11 Z I
   refine keepS (I.pk [1,2]) (fun HS=>?_)
   refine s_on Z 7 rfl (e_sa Z I 0 rfl rfl rfl rfl rfl qu rfl rfl (by simp [Value.oneCell']) ?_)
   clear I;intro w4_7 I
   refine noS kr ?_
   refine qb kr ?_
   exact ⟨z,g11,Z.sub kr,I.pt 3 [0,1,2],hez,hcz⟩
  refine all_cons ?_ all_nil
  refine qc Z (i:=6) rfl rfl ?_
  refine s_ea Z I #[vI 0,vI 0,vQ 0,vN,vN,vN,vN,vN] ?_
  clear Z I;intro a w11 g11 Z I
  refine keepS (I.pk [1,2]) (fun HS=>?_)
  refine s_on Z 4 rfl ?_
  refine e_cl Z [.agg #[vI p.st.cpus,vQ p.st.credit,.slice p.st.gA p.st.gs.length p.st.gc,.slice p.st.lA p.st.cl.length p.st.lc,.slice p.st.uA p.st.cu.length p.st.uc,.slice p.st.tA p.st.ts.length p.st.tc,.slice p.st.sA p.st.rs.length p.st.sc]] rfl rfl (qe2 p.st _ (I.st1 3 rfl) hsp.few) ?_
  rintro _ w38 ⟨z,rfl,hez,hcz,hm⟩
  refine ⟨_,rfl,?_⟩
  replace I:=(show Mem w w38 (.blk g11 #[vI 0,vI 0,vQ 0,vN,vN,vN,vN,vN] 40:: .blk g9 p.cells 40:: .blk g4 n.cells 27::(stF z++(stF p.st++([])))) from I.joinF (T:=(stF p.st++([]))) 3 hm rfl)
  clear Z;intro a Z
  refine keepS (I.pk [1,2]) (fun HS=>?_)
  refine s_az Z HS 5 rfl (v:= .agg #[vI p.next,vI z.cpus,vQ z.credit,.slice z.gA z.gs.length z.gc,.slice z.lA z.cl.length z.lc,.slice z.uA z.cu.length z.uc,.slice z.tA z.ts.length z.tc,.slice z.sA z.rs.length z.sc]) (Yl.build (vs:=[(0,vI p.next),(1,.agg z.cells)]) rfl kr kr) fun a Z=>?_
  refine s_on Z 7 rfl (e_sa Z I 0 rfl rfl rfl rfl rfl qu rfl rfl (by simp [Value.oneCell']) ?_)
  clear I;intro w4_7 I
  refine noS kr ?_
  refine qb kr ?_
  exact ⟨z,g11,Z.sub kr,I.pt 3 [0,1,2],hez,hcz⟩
 clear Z I;rintro a w4 ⟨z,g11,Z,I,hez,hcz⟩
 refine Jb Z I ((JQ∘JP∘Jp 3∘Jy (v:= .agg p.cells) (h:=by exact Yl.loadS rfl rfl qu rfl (fun _ h=>qa (h.blk (i:=1) rfl)))∘JI (h:=by exact fun I=>ck_ok hsp (I.st2 3 rfl))) fun w44 hbw=>(Jv 2 [(46,.bool false)]∘Jd5∘Jj∘JF∘JS'∘JP∘Jp 1∘Jq) fun a Z I=>?_)
 have hG:=hsp.sh
 have hnx0:=(qk8 hsp.chk).1
 replace hnx0:1≤p.next∧p.next≤281474976710657:=hnx0
 have hcpb:1≤p.st.cpus∧p.st.cpus≤64:=hG.sh.cpus
 have hok0:z.sta.Ok:=by rw [qla hez];exact hsp.ok
 have hGz:GoodS z.sta:=by rw [qla hez];exact hG
 have hfw0:StFew z:=qyo hez hsp.few
 have hEq:SnEq p ⟨p.next,z⟩:=sn_of rfl hez
 have hcpe:p.st.cpus=z.cpus:=hez.1.1
 obtain ⟨cp,cr,gA,gc,gs,lA,lc,cl,uA,uc,cu,tA,tc,ts,sA,sc,rs⟩:=z
 have hck0:=hcz
 obtain ⟨hcg,hcl,hcu,hct,hcs,hcr⟩:=hcz
 replace hcpe:p.st.cpus=cp:=hcpe
 have hll:(cl.length:Int)=cp:=hGz.sh.cl
 have hlu:(cu.length:Int)=cp:=hGz.sh.cu
 have hlg:1≤gs.length:=(qq hGz.sh.gs).1
 have hrs:rs.length=gs.length:=by have h:(rs.map Rw.l).length=gs.length:=hGz.sh.sp;rwa [List.length_map] at h
 replace hct:ts.length≤tc:=hct;replace hcl:cl.length≤lc:=hcl;replace hcu:cu.length≤uc:=hcu;replace hcs:rs.length≤sc:=hcs
 have htf:ts.length≤65535:=hGz.sh.few
 have hcr64:cr<18446744073709551616:=hok0.credit
 unfold I64 at hIx
 have hln0:=hsp.len
 have hs9:=qe1 p
 have hrsf:rs.length≤1000000:=hfw0.s
 replace I:Mem w _ (.blk g11 #[vI p.next,vI cp,vQ cr,.slice gA gs.length gc,.slice lA cl.length lc,.slice uA cu.length uc,.slice tA ts.length tc,.slice sA rs.length sc] 40:: .blk g9 p.cells 40:: .blk g4 n.cells 27::fG gA gs.length gc gs::fI lA cl.length lc cl::fI uA cu.length uc cu::fT tA ts.length tc ts::fS sA rs.length sc rs::(fR rs++(stF p.st++([])))):=I
 revert I;revert a;repeat (first|clear Z|clear I)
 intro a Z I
 obtain ⟨glA,rfl⟩:=qn (I.own (i:=4) rfl) om
 revert I;revert a;repeat (first|clear Z|clear I)
 intro a Z I
 obtain ⟨guA,rfl⟩:=qn (I.own (i:=5) rfl) om
 revert I;revert a;repeat (first|clear Z|clear I)
 intro a Z I
 obtain ⟨gsA,rfl⟩:=qn (I.own (i:=7) rfl) om
 refine Jb Z I ((JG∘JP∘Jp 1∘Jf 1∘Jf 0∘Jg 0 O1∘JL (h:=by exact fun I=>qv1 x p.st.cpus hcpb _)) ?_)
 rintro I _ w52 ⟨⟨c,rfl,hcc⟩,hbw⟩
 refine ⟨_,rfl,_,I.call hbw,?_⟩
 refine (Jp 1∘Jd5∘Jj∘JQ∘JP∘Jp 2∘Jo (vB (b%6:Nat)) (by exact qae .u8 _ 6)∘Jd1∘Jq) fun a Z I=>?_
 obtain ⟨g,hg⟩:∃g,g=rs.length-1:=⟨_,rfl⟩
 refine q1r (fun aS wS=>∃(nx:Int) (wh:Nat) (cp:Int) (cr:Nat) (gA:Option Addr) (gc:Nat) (gs:List Gr) (lA:Option Addr) (lc:Nat) (cl:List Int) (uA:Option Addr) (uc:Nat) (cu:List Int) (tA:Option Addr) (tc:Nat) (ts:List Tk) (sA:Option Addr) (sc:Nat) (rs:List Rw) (ng:Nat) (nl:Nat) (nu:Nat) (nt:Nat) (ns:Nat) (q:Snm),(q=⟨nx,(⟨cp,cr,gA,gc,gs,lA,lc,cl,uA,uc,cu,tA,tc,ts,sA,sc,rs⟩:Stm)⟩)∧(Lns (⟨cp,cr,gA,gc,gs,lA,lc,cl,uA,uc,cu,tA,tc,ts,sA,sc,rs⟩:Stm) ng nl nu nt ns)∧(∀w2,Mem w w2 (fG gA ng gc gs::fI lA nl lc cl::fI uA nu uc cu::fT tA nt tc ts::fS sA ns sc rs::(fR rs++(stF p.st++([]))))→StRd w2 (⟨cp,cr,gA,gc,gs,lA,lc,cl,uA,uc,cu,tA,tc,ts,sA,sc,rs⟩:Stm))∧(q.st.sta.Ok∧StFew q.st∧StCap q.st)∧(wh=0∨(ChgSn p q (wh-1)∧1≤wh∧wh≤7))∧Fr aS 303 [] [(12,vI wh),(11,vP g11 0),(9,vP g9 0),(8,.bool false)]∧Mem w wS (.blk g11 #[vI nx,vI cp,vQ cr,.slice gA ng gc,.slice lA nl lc,.slice uA nu uc,.slice tA nt tc,.slice sA ns sc] 40:: .blk g9 p.cells 40::fG gA ng gc gs::fI lA nl lc cl::fI uA nu uc cu::fT tA nt tc ts::fS sA ns sc rs::(fR rs++(stF p.st++([]))))) ?_ ?_
 ·
  refine Jb Z I ((JB∘JP∘Jp 2∘Jd1∘Jj) (Je (fun hd88=>?_) fun hd88=>?_))
  ·
   refine (JT∘JR∘Jg 0 O1∘Jp 1∘Jo (vI (p.next+1)) (by exact qcg ⟨by omega,by omega⟩)∘Jf 0∘JW O0' O0') fun w16_4=>(Jp 1∘Jd3∘Jq) fun a Z I=>?_
   have hcgN:ChgSn p ⟨(p.next+1),(⟨cp,cr,gA,gc,gs,(some ⟨glA,0,none⟩),lc,cl,(some ⟨guA,0,none⟩),uc,cu,tA,tc,ts,(some ⟨gsA,0,none⟩),sc,rs⟩:Stm)⟩ 0:=qi2 hEq (qyk (y:=(⟨cp,cr,gA,gc,gs,some ⟨glA,0,none⟩,lc,cl,some ⟨guA,0,none⟩,uc,cu,tA,tc,ts,some ⟨gsA,0,none⟩,sc,rs⟩:Stm)) hok0 hfw0 hck0 hnx0)
   have hchN:1=0∨(ChgSn p ⟨(p.next+1),(⟨cp,cr,gA,gc,gs,(some ⟨glA,0,none⟩),lc,cl,(some ⟨guA,0,none⟩),uc,cu,tA,tc,ts,(some ⟨gsA,0,none⟩),sc,rs⟩:Stm)⟩ (1-1)∧1≤1∧1≤7):= .inr ⟨hcgN,by decide,by decide⟩
   have hC0N:(⟨cp,cr,gA,gc,gs,(some ⟨glA,0,none⟩),lc,cl,(some ⟨guA,0,none⟩),uc,cu,tA,tc,ts,(some ⟨gsA,0,none⟩),sc,rs⟩:Stm).sta.Ok∧StFew (⟨cp,cr,gA,gc,gs,(some ⟨glA,0,none⟩),lc,cl,(some ⟨guA,0,none⟩),uc,cu,tA,tc,ts,(some ⟨gsA,0,none⟩),sc,rs⟩:Stm)∧StCap (⟨cp,cr,gA,gc,gs,(some ⟨glA,0,none⟩),lc,cl,(some ⟨guA,0,none⟩),uc,cu,tA,tc,ts,(some ⟨gsA,0,none⟩),sc,rs⟩:Stm):=⟨hcgN.ok,hcgN.few,hcgN.cap⟩
   have hlnN:Lns (⟨cp,cr,gA,gc,gs,(some ⟨glA,0,none⟩),lc,cl,(some ⟨guA,0,none⟩),uc,cu,tA,tc,ts,(some ⟨gsA,0,none⟩),sc,rs⟩:Stm) gs.length cl.length cu.length ts.length rs.length:=⟨rfl,rfl,rfl,rfl,rfl⟩
   exact ⟨(p.next+1),1,cp,cr,gA,gc,gs,(some ⟨glA,0,none⟩),lc,cl,(some ⟨guA,0,none⟩),uc,cu,tA,tc,ts,(some ⟨gsA,0,none⟩),sc,rs,gs.length,cl.length,cu.length,ts.length,rs.length,_,rfl,hlnN,fun w2 h2=>h2.qn4 (x:=(⟨cp,cr,gA,gc,gs,(some ⟨glA,0,none⟩),lc,cl,(some ⟨guA,0,none⟩),uc,cu,tA,tc,ts,(some ⟨gsA,0,none⟩),sc,rs⟩:Stm)) rfl hlnN,hC0N,hchN,Z.sub kr,I.pt 8 [0,1,3,4,5,6,7]⟩
  refine (JF∘JP∘Jp 2∘Jd1∘Jj) (Je (fun hd94=>?_) fun hd94=>?_)
  ·
   refine (JT∘JP∘Jf 1∘Jf 0∘Jg 1 O0∘Jp 1∘Jo (vQ (cr^^^1:Nat)) (by exact qmm (m:=cr) (n:=1) om om)∘Jf 1∘Jf 0∘Jf 1∘JW O0' O2') fun w18_8=>(Jt6∘Jj∘JR∘Jp 1∘Jd1∘Jq) fun a Z I=>?_
   have hcgN:ChgSn p ⟨p.next,(⟨cp,(cr^^^1),gA,gc,gs,(some ⟨glA,0,none⟩),lc,cl,(some ⟨guA,0,none⟩),uc,cu,tA,tc,ts,(some ⟨gsA,0,none⟩),sc,rs⟩:Stm)⟩ 1:=qi2 hEq (qr5 (y:=(⟨cp,cr,gA,gc,gs,some ⟨glA,0,none⟩,lc,cl,some ⟨guA,0,none⟩,uc,cu,tA,tc,ts,some ⟨gsA,0,none⟩,sc,rs⟩:Stm)) hok0 hfw0 hck0)
   have hchN:2=0∨(ChgSn p ⟨p.next,(⟨cp,(cr^^^1),gA,gc,gs,(some ⟨glA,0,none⟩),lc,cl,(some ⟨guA,0,none⟩),uc,cu,tA,tc,ts,(some ⟨gsA,0,none⟩),sc,rs⟩:Stm)⟩ (2-1)∧1≤2∧2≤7):= .inr ⟨hcgN,by decide,by decide⟩
   have hC0N:(⟨cp,(cr^^^1),gA,gc,gs,(some ⟨glA,0,none⟩),lc,cl,(some ⟨guA,0,none⟩),uc,cu,tA,tc,ts,(some ⟨gsA,0,none⟩),sc,rs⟩:Stm).sta.Ok∧StFew (⟨cp,(cr^^^1),gA,gc,gs,(some ⟨glA,0,none⟩),lc,cl,(some ⟨guA,0,none⟩),uc,cu,tA,tc,ts,(some ⟨gsA,0,none⟩),sc,rs⟩:Stm)∧StCap (⟨cp,(cr^^^1),gA,gc,gs,(some ⟨glA,0,none⟩),lc,cl,(some ⟨guA,0,none⟩),uc,cu,tA,tc,ts,(some ⟨gsA,0,none⟩),sc,rs⟩:Stm):=⟨hcgN.ok,hcgN.few,hcgN.cap⟩
   have hlnN:Lns (⟨cp,(cr^^^1),gA,gc,gs,(some ⟨glA,0,none⟩),lc,cl,(some ⟨guA,0,none⟩),uc,cu,tA,tc,ts,(some ⟨gsA,0,none⟩),sc,rs⟩:Stm) gs.length cl.length cu.length ts.length rs.length:=⟨rfl,rfl,rfl,rfl,rfl⟩
   exact ⟨p.next,2,cp,(cr^^^1),gA,gc,gs,(some ⟨glA,0,none⟩),lc,cl,(some ⟨guA,0,none⟩),uc,cu,tA,tc,ts,(some ⟨gsA,0,none⟩),sc,rs,gs.length,cl.length,cu.length,ts.length,rs.length,_,rfl,hlnN,fun w2 h2=>h2.qn4 (x:=(⟨cp,(cr^^^1),gA,gc,gs,(some ⟨glA,0,none⟩),lc,cl,(some ⟨guA,0,none⟩),uc,cu,tA,tc,ts,(some ⟨gsA,0,none⟩),sc,rs⟩:Stm)) rfl hlnN,hC0N,hchN,Z.sub kr,I.pt 8 [0,1,3,4,5,6,7]⟩
  refine (JF∘JP∘Jp 2∘Jd1∘Jj) (Ju (fun hb104=>?_) fun hb104=>?_)
  ·
   intro a Z I
   have hd104:=eq_of_beq hb104
   have hclb:0≤cl.getD c 0∧cl.getD c 0≤281474976710656:=of_decide_eq_true (hGz.sh.cls c (by show c<cl.length;omega))
   obtain ⟨m,hm⟩:∃m:Nat,cl.getD c 0=(m:Int):=⟨(cl.getD c 0).toNat,by omega⟩
   refine Jb Z I ((JT∘JP∘Jf 1∘Jg 3 O0∘Jp 1∘Jy (h:=by exact Yl.ix0 glA c 1 rfl rfl rfl)∘Jy (v:=vI (cl.getD c 0)) (h:=by exact Yl.r1 4 c 0 om rfl rfl rfl)∘Jo (vI m) (by rw [hm])∘Jp 1∘Jo (vI (m^^^1:Nat)) (by exact qzv (m:=m) (n:=1) om om)∘Jy (h:=by exact Yl.ix0 glA c 1 rfl rfl rfl)) fun a Z I=>?_)
   refine fo Z 8 rfl rfl ?_
   refine q4 Z I (i:=4) rfl rfl rfl rfl kr rfl rfl (by rw [List.length_map];omega) ?_
   clear I;intro w21_8 I
   replace I:=I.asRow (i:=4) (ys:=(cl.set c ((m^^^1:Nat):Int)).map I64i) rfl (qc7 I64i cl c _ om)
   refine Jb Z I ((Jt6∘Jj∘JR∘Jp 1∘Jd1∘Jq) fun a Z I=>?_)
   have hcgN:ChgSn p ⟨p.next,(⟨cp,cr,gA,gc,gs,(some ⟨glA,0,none⟩),lc,(cl.set c ((m^^^1:Nat):Int)),(some ⟨guA,0,none⟩),uc,cu,tA,tc,ts,(some ⟨gsA,0,none⟩),sc,rs⟩:Stm)⟩ 3:=qi2 hEq (qvy (y:=(⟨cp,cr,gA,gc,gs,some ⟨glA,0,none⟩,lc,cl,some ⟨guA,0,none⟩,uc,cu,tA,tc,ts,some ⟨gsA,0,none⟩,sc,rs⟩:Stm)) hok0 hfw0 hck0 (by show c<cl.length;omega) hm om)
   have hchN:4=0∨(ChgSn p ⟨p.next,(⟨cp,cr,gA,gc,gs,(some ⟨glA,0,none⟩),lc,(cl.set c ((m^^^1:Nat):Int)),(some ⟨guA,0,none⟩),uc,cu,tA,tc,ts,(some ⟨gsA,0,none⟩),sc,rs⟩:Stm)⟩ (4-1)∧1≤4∧4≤7):= .inr ⟨hcgN,by decide,by decide⟩
   have hC0N:(⟨cp,cr,gA,gc,gs,(some ⟨glA,0,none⟩),lc,(cl.set c ((m^^^1:Nat):Int)),(some ⟨guA,0,none⟩),uc,cu,tA,tc,ts,(some ⟨gsA,0,none⟩),sc,rs⟩:Stm).sta.Ok∧StFew (⟨cp,cr,gA,gc,gs,(some ⟨glA,0,none⟩),lc,(cl.set c ((m^^^1:Nat):Int)),(some ⟨guA,0,none⟩),uc,cu,tA,tc,ts,(some ⟨gsA,0,none⟩),sc,rs⟩:Stm)∧StCap (⟨cp,cr,gA,gc,gs,(some ⟨glA,0,none⟩),lc,(cl.set c ((m^^^1:Nat):Int)),(some ⟨guA,0,none⟩),uc,cu,tA,tc,ts,(some ⟨gsA,0,none⟩),sc,rs⟩:Stm):=⟨hcgN.ok,hcgN.few,hcgN.cap⟩
   have hlnN:Lns (⟨cp,cr,gA,gc,gs,(some ⟨glA,0,none⟩),lc,(cl.set c ((m^^^1:Nat):Int)),(some ⟨guA,0,none⟩),uc,cu,tA,tc,ts,(some ⟨gsA,0,none⟩),sc,rs⟩:Stm) gs.length cl.length cu.length ts.length rs.length:=⟨rfl,by show (List.set _ _ _).length=_;rw [List.length_set],rfl,rfl,rfl⟩
   exact ⟨p.next,4,cp,cr,gA,gc,gs,(some ⟨glA,0,none⟩),lc,(cl.set c ((m^^^1:Nat):Int)),(some ⟨guA,0,none⟩),uc,cu,tA,tc,ts,(some ⟨gsA,0,none⟩),sc,rs,gs.length,cl.length,cu.length,ts.length,rs.length,_,rfl,hlnN,fun w2 h2=>h2.qn4 (x:=(⟨cp,cr,gA,gc,gs,(some ⟨glA,0,none⟩),lc,(cl.set c ((m^^^1:Nat):Int)),(some ⟨guA,0,none⟩),uc,cu,tA,tc,ts,(some ⟨gsA,0,none⟩),sc,rs⟩:Stm)) rfl hlnN,hC0N,hchN,Z.sub kr,I.pt 8 [0,1,3,4,5,6,7]⟩
  intro a Z I
  have hd104:=ne_of_beq_false hb104
  refine Jb Z I ((JF∘JP∘Jp 2∘Jd1∘Jj) (Ju (fun hb114=>?_) fun hb114=>?_))
  ·
   intro a Z I
   have hd114:=eq_of_beq hb114
   have hc2:2^c≤9223372036854775808:=Nat.le_trans (Nat.pow_le_pow_right de (show c≤63 by omega)) de
   refine Jb Z I ((JT) fun a Z I=>?_)
   refine wp_seq ?_
   refine Jb Z I ((Vs (.t (.t (.t (.t (.t (.t (.f .n))))))) [13]) fun wd24=>(Vf 0 1∘Vf 1 5∘Vp [3,5,6]∘Vc 2 O0∘Vp [4]∘Vo (vI (100+c:Nat)) (by exact qa5 om om)∘Vy 7 (v:=vQ (1*2^c:Nat)) (h:=by exact Yl.shlN (m:=1) (n:=c) rfl rfl rfl (by show _≤64;omega) (by show _≤18446744073709551615;omega))∘Vy 8 (v:= .agg #[vI (100+c:Nat),vI 0,vI 1,vI c,vQ (1*2^c:Nat),.bool false,vQ 0,vW 0]) (h:=by exact Yl.build (vs:=[(0,vI (100+c:Nat)),(2,vI 1),(3,vI c),(4,vQ (1*2^c:Nat))]) rfl kr kr)) fun a Z I HS=>?_)
   refine s_on Z 9 rfl (s_el Z I ei_tk [(0,.agg #[vI (100+c:Nat),vI 0,vI 1,vI c,vQ (1*2^c:Nat),.bool false,vQ 0,vW 0])] #[vI (100+c:Nat),vI 0,vI 1,vI c,vQ (1*2^c:Nat),.bool false,vQ 0,vW 0] ?_)
   clear Z I;intro a w125 g125 Z I
   refine keepS (I.pt 9 [1,2,3,4,5,6,8]) (fun HS=>?_)
   refine s_on Z 10 rfl (qad Z I (i:=7) rfl ei_tk rfl rfl rfl (news:=([(⟨((100+c:Nat):Int),0,1,(c:Int),1*2^c,false,0,0⟩:Tk)].flatMap tkL)) (I.rdBlk (i:=0) (n:=1) (size:=8) rfl rfl) (q10 _) om om rfl de ?_)
   clear Z I;intro a w126 A126 c126 Z I hc126
   refine keepS (I.pt 9 [1,2,3,4,5,6,8]) (fun HS=>?_)
   refine Vb Z I HS ((Vf 11 1∘Vf 12 5) fun a Z I HS=>?_)
   refine s_on Z 13 rfl (s_es Z I 1 ?_)
   clear I;intro w24_13 I
   refine noS kr ?_
   refine qb kr ?_
   replace I:Mem w _ (.blk g125 #[vI (100+c:Nat),vI 0,vI 1,vI c,vQ (1*2^c:Nat),.bool false,vQ 0,vW 0] 61:: .blk g11 #[vI p.next,vI cp,vQ cr,.slice gA gs.length gc,vS glA cl.length lc,vS guA cu.length uc,.slice A126 (ts.length+1) c126,vS gsA rs.length sc] 40:: .blk g9 p.cells 40:: .blk g4 n.cells 27::fG gA gs.length gc gs::fI (some ⟨glA,0,none⟩) cl.length lc cl::fI (some ⟨guA,0,none⟩) cu.length uc cu::fT A126 (ts.length+1) c126 (ts++[(⟨((100+c:Nat):Int),0,1,(c:Int),1*2^c,false,0,0⟩:Tk)])::fS (some ⟨gsA,0,none⟩) rs.length sc rs::(fR rs++(stF p.st++([])))):=I.asRow (i:=7) (ys:=(ts++[(⟨((100+c:Nat):Int),0,1,(c:Int),1*2^c,false,0,0⟩:Tk)]).flatMap tkL) rfl (by rw [List.flatMap_append])
   refine Jb Z I ((JR∘Jp 1∘Jd6∘Jq) fun a Z I=>?_)
   have hcgN:ChgSn p ⟨p.next,(⟨cp,cr,gA,gc,gs,(some ⟨glA,0,none⟩),lc,cl,(some ⟨guA,0,none⟩),uc,cu,A126,c126,(ts++[(⟨((100+c:Nat):Int),0,1,(c:Int),1*2^c,false,0,0⟩:Tk)]),(some ⟨gsA,0,none⟩),sc,rs⟩:Stm)⟩ 5:=qi2 hEq (qyl (y:=(⟨cp,cr,gA,gc,gs,some ⟨glA,0,none⟩,lc,cl,some ⟨guA,0,none⟩,uc,cu,tA,tc,ts,some ⟨gsA,0,none⟩,sc,rs⟩:Stm)) hok0 hfw0 hck0 ⟨by unfold I64;show _≤((100+c:Nat):Int)∧((100+c:Nat):Int)≤_;omega,show I64 (0:Int) from by unfold I64;decide,show I64 (1:Int) from by unfold I64;decide,by unfold I64;show _≤((c:Nat):Int)∧((c:Nat):Int)≤_;omega,by show 1*2^c<18446744073709551616;omega,show (0:Nat)<18446744073709551616 from by decide,show (0:Nat)<4294967296 from by decide⟩ hc126 (by show ts.length+1≤_;omega))
   have hchN:6=0∨(ChgSn p ⟨p.next,(⟨cp,cr,gA,gc,gs,(some ⟨glA,0,none⟩),lc,cl,(some ⟨guA,0,none⟩),uc,cu,A126,c126,(ts++[(⟨((100+c:Nat):Int),0,1,(c:Int),1*2^c,false,0,0⟩:Tk)]),(some ⟨gsA,0,none⟩),sc,rs⟩:Stm)⟩ (6-1)∧1≤6∧6≤7):= .inr ⟨hcgN,by decide,by decide⟩
   have hC0N:(⟨cp,cr,gA,gc,gs,(some ⟨glA,0,none⟩),lc,cl,(some ⟨guA,0,none⟩),uc,cu,A126,c126,(ts++[(⟨((100+c:Nat):Int),0,1,(c:Int),1*2^c,false,0,0⟩:Tk)]),(some ⟨gsA,0,none⟩),sc,rs⟩:Stm).sta.Ok∧StFew (⟨cp,cr,gA,gc,gs,(some ⟨glA,0,none⟩),lc,cl,(some ⟨guA,0,none⟩),uc,cu,A126,c126,(ts++[(⟨((100+c:Nat):Int),0,1,(c:Int),1*2^c,false,0,0⟩:Tk)]),(some ⟨gsA,0,none⟩),sc,rs⟩:Stm)∧StCap (⟨cp,cr,gA,gc,gs,(some ⟨glA,0,none⟩),lc,cl,(some ⟨guA,0,none⟩),uc,cu,A126,c126,(ts++[(⟨((100+c:Nat):Int),0,1,(c:Int),1*2^c,false,0,0⟩:Tk)]),(some ⟨gsA,0,none⟩),sc,rs⟩:Stm):=⟨hcgN.ok,hcgN.few,hcgN.cap⟩
   have hlnN:Lns (⟨cp,cr,gA,gc,gs,(some ⟨glA,0,none⟩),lc,cl,(some ⟨guA,0,none⟩),uc,cu,A126,c126,(ts++[(⟨((100+c:Nat):Int),0,1,(c:Int),1*2^c,false,0,0⟩:Tk)]),(some ⟨gsA,0,none⟩),sc,rs⟩:Stm) gs.length cl.length cu.length (ts.length+1) rs.length:=⟨rfl,rfl,rfl,by show (_++_:List Tk).length=_;rw [List.length_append];rfl,rfl⟩
   exact ⟨p.next,6,cp,cr,gA,gc,gs,(some ⟨glA,0,none⟩),lc,cl,(some ⟨guA,0,none⟩),uc,cu,A126,c126,(ts++[(⟨((100+c:Nat):Int),0,1,(c:Int),1*2^c,false,0,0⟩:Tk)]),(some ⟨gsA,0,none⟩),sc,rs,gs.length,cl.length,cu.length,(ts.length+1),rs.length,_,rfl,hlnN,fun w2 h2=>h2.qn4 (x:=(⟨cp,cr,gA,gc,gs,(some ⟨glA,0,none⟩),lc,cl,(some ⟨guA,0,none⟩),uc,cu,A126,c126,(ts++[(⟨((100+c:Nat):Int),0,1,(c:Int),1*2^c,false,0,0⟩:Tk)]),(some ⟨gsA,0,none⟩),sc,rs⟩:Stm)) rfl hlnN,hC0N,hchN,Z.sub kr,I.pt 9 [1,2,4,5,6,7,8]⟩
  intro a Z I
  have hd114:=ne_of_beq_false hb114
  refine Jb Z I ((JF∘JP∘Jp 2∘Jd1∘Jj) (Je (fun hd129=>?_) fun hd129=>?_))
  ·
   refine (JT∘JP∘Jf 1∘Jg 5 O0∘Jl∘Jp 1∘Jj∘JB) fun a Z I=>?_
   refine qj (fun mS aS wS=>∃(i:Nat) (tt:List Tk) (wz:Nat),(i≤ts.length)∧(tt.length=ts.length)∧(∀t∈tt,t.Ok)∧(LoopT ts tt wz)∧mS=ts.length-i∧Fr aS 303 [] [(135,vI i),(134,vI ts.length),(133,.slice tA ts.length tc),(129,.bool true),(114,.bool false),(104,.bool false),(94,.bool false),(88,.bool false),(54,vB (b%6:Nat)),(13,vI c),(12,vI wz),(46,.bool false),(11,vP g11 0),(9,vP g9 0),(27,.bool false),(8,.bool false)]∧Mem w wS (.blk g11 #[vI p.next,vI cp,vQ cr,.slice gA gs.length gc,vS glA cl.length lc,vS guA cu.length uc,.slice tA ts.length tc,vS gsA rs.length sc] 40:: .blk g9 p.cells 40:: .blk g4 n.cells 27::fG gA gs.length gc gs::fI (some ⟨glA,0,none⟩) cl.length lc cl::fI (some ⟨guA,0,none⟩) cu.length uc cu::fT tA ts.length tc tt::fS (some ⟨gsA,0,none⟩) rs.length sc rs::(fR rs++(stF p.st++([]))))) (m:=ts.length-0) ⟨0,ts,0,Nat.zero_le _,rfl,hok0.ts,.inl ⟨rfl,rfl⟩,rfl,Z.sub kr,I.pt 8 [0,1,2,3,4,5,6,7]⟩ ?_
   clear Z I;rintro mS a w_ ⟨i,tt,wz,hi,htl,hto,hlt,rfl,Z,I⟩
   refine Jb Z I ((JP∘Jp 1∘Jj∘JQ) (Ju (fun hb136=>?_) fun hb136=>?_))
   ·
    intro a Z I
    have hd136:=of_decide_eq_true hb136
    have hil:i<ts.length:=by omega
    obtain ⟨t,ht⟩:∃t,tt[i]?=some t:=⟨_,List.getElem?_eq_getElem om⟩
    have htv:t.v<18446744073709551616:=by have h:=List.mem_of_getElem? ht;exact (hto t h).v
    refine Jb Z I ((JT∘JS'∘JQ∘JB∘JP∘Jp 1) ?_)
    repeat (first|clear Z|clear I)
    intro a Z I
    obtain ⟨gtA,rfl⟩:=qn (I.own (i:=6) rfl) (Nat.lt_of_le_of_lt (Nat.zero_le _) (show i<ts.length from by omega))
    refine Jb Z I ((Jy (h:=by exact Yl.ix0 gtA i 8 rfl rfl rfl)∘Jy (v:= .agg t.cells) (h:=by exact Yl.loadS rfl rfl si_tk rfl (fun _ h=>h.qde qf (i:=6) rfl (ht)))∘JA #[vI 0,vI 0,vI 0,vI 0,vQ 0,.bool false,vQ 0,vW 0]) fun w15 g15=>(Jp 1∘JV si_tk O0' (h1:=by exact qid t)) fun w29_5=>(Jr∘Jg 5 O0∘Jp 2) (Ju (fun hb143=>?_) fun hb143=>?_))
    ·
     refine (Jp 3∘Jd5∘Jj) (Je (fun hd146=>?_) fun hd146=>?_)
     ·
      refine (JT∘JP∘Jf 1∘Jg 5 O1∘Jp 1∘Jy (h:=by exact Yl.ix0 gtA i 8 rfl rfl rfl)∘Jf 6∘Jy (v:=vQ t.v) (h:=by exact Yl.qe rfl rfl kr (fun _ h=>h.qp qf (i:=7) rfl (k:=i) (off:=6) (x:=t) (ht) rfl))∘Jp 1∘Jo (vQ (t.v^^^2:Nat)) (by exact qmm (m:=t.v) (n:=2) om om)∘Jy (h:=by exact Yl.ix0 gtA i 8 rfl rfl rfl)∘Jf 6) fun a Z I=>?_
      refine fo Z 10 rfl rfl ?_
      refine q4 Z I (i:=7) rfl rfl rfl rfl kr rfl rfl (by rw [zt tkL 8 qf];omega) ?_
      clear I;intro w31_10 I
      replace I:=I.asRow (i:=7) (ys:=(tt.set i t.flip).flatMap tkL) rfl (zu tkL 8 qf tt i t t.flip ht 6 de _ rfl)
      refine Jb Z I ((Jt6∘Jj∘JR∘Jp 1∘Jd3∘Jj∘JR∘JaK 1∘Jp 1∘Jd1∘Jq) fun a Z I=>?_)
      exact ⟨_,om,i+1,(tt.set i t.flip),6,by omega,by rw [List.length_set];exact htl,qhs hto (q11 (hto t (List.mem_of_getElem? ht))),hlt.step om ht,rfl,Z.sub kr,I.pt 9 [1,2,3,4,5,6,7,8]⟩
     refine (JF∘JS'∘JR∘JaK 1∘Jp 1∘Jd1∘Jq) fun a Z I=>?_
     exact ⟨_,om,i+1,tt,wz,by omega,htl,hto,hlt,rfl,Z.sub kr,I.pt 9 [1,2,3,4,5,6,7,8]⟩
    refine (Jp 3∘Jd5∘Jj∘JF∘JS'∘JR∘JaK 1∘Jp 1∘Jd1∘Jq) fun a Z I=>?_
    exact ⟨_,om,i+1,tt,wz,by omega,htl,hto,hlt,rfl,Z.sub kr,I.pt 9 [1,2,3,4,5,6,7,8]⟩
   intro a Z I
   have hd136:=of_decide_eq_false hb136
   refine Jb Z I ((JF∘JX) fun a Z I=>?_)
   have hchN:wz=0∨(ChgSn p ⟨p.next,(⟨cp,cr,gA,gc,gs,(some ⟨glA,0,none⟩),lc,cl,(some ⟨guA,0,none⟩),uc,cu,tA,tc,tt,(some ⟨gsA,0,none⟩),sc,rs⟩:Stm)⟩ (wz-1)∧1≤wz∧wz≤7):=hlt.chg (y:=(⟨cp,cr,gA,gc,gs,some ⟨glA,0,none⟩,lc,cl,some ⟨guA,0,none⟩,uc,cu,tA,tc,ts,some ⟨gsA,0,none⟩,sc,rs⟩:Stm)) hEq hok0 hfw0 hck0
   have hC0N:(⟨cp,cr,gA,gc,gs,(some ⟨glA,0,none⟩),lc,cl,(some ⟨guA,0,none⟩),uc,cu,tA,tc,tt,(some ⟨gsA,0,none⟩),sc,rs⟩:Stm).sta.Ok∧StFew (⟨cp,cr,gA,gc,gs,(some ⟨glA,0,none⟩),lc,cl,(some ⟨guA,0,none⟩),uc,cu,tA,tc,tt,(some ⟨gsA,0,none⟩),sc,rs⟩:Stm)∧StCap (⟨cp,cr,gA,gc,gs,(some ⟨glA,0,none⟩),lc,cl,(some ⟨guA,0,none⟩),uc,cu,tA,tc,tt,(some ⟨gsA,0,none⟩),sc,rs⟩:Stm):=⟨⟨hok0.cpus,hok0.credit,hok0.gs,hok0.cl,hok0.cu,hto,hok0.sp⟩,⟨hfw0.g,hfw0.l,hfw0.u,by show tt.length≤_;rw [htl];exact hfw0.t,hfw0.s,hfw0.r⟩,⟨hcg,hcl,hcu,by show tt.length≤tc;rw [htl];exact hct,hcs,hcr⟩⟩
   have hlnN:Lns (⟨cp,cr,gA,gc,gs,(some ⟨glA,0,none⟩),lc,cl,(some ⟨guA,0,none⟩),uc,cu,tA,tc,tt,(some ⟨gsA,0,none⟩),sc,rs⟩:Stm) gs.length cl.length cu.length ts.length rs.length:=⟨rfl,rfl,rfl,htl,rfl⟩
   exact ⟨p.next,wz,cp,cr,gA,gc,gs,(some ⟨glA,0,none⟩),lc,cl,(some ⟨guA,0,none⟩),uc,cu,tA,tc,tt,(some ⟨gsA,0,none⟩),sc,rs,gs.length,cl.length,cu.length,ts.length,rs.length,_,rfl,hlnN,fun w2 h2=>h2.qn4 (x:=(⟨cp,cr,gA,gc,gs,(some ⟨glA,0,none⟩),lc,cl,(some ⟨guA,0,none⟩),uc,cu,tA,tc,tt,(some ⟨gsA,0,none⟩),sc,rs⟩:Stm)) rfl hlnN,hC0N,hchN,Z.sub kr,I.pt 8 [0,1,3,4,5,6,7]⟩
  refine (JF∘JP∘Jf 1∘Jg 6 O0∘Jl∘Jp 1∘Jo (vI g) (by exact qa5 om om)∘Jp 1∘Jd4∘Jr∘Jp 2∘Jd1∘Jj) (Ju (fun hb61=>?_) fun hb61=>?_)
  ·
   intro a Z I
   have hd61:=of_decide_eq_true hb61
   have hg0:0<g:=by omega
   obtain ⟨⟨yA,yc,yl⟩,hy⟩:∃y,rs.getD g Rw.zero=y:=⟨_,rfl⟩
   have hyl:(yl.length:Int)=cp:=by have h:=hGz.sh.rows g (by show g<(rs.map Rw.l).length;rw [List.length_map];omega);rw [show ((⟨cp,cr,gA,gc,gs,(some ⟨glA,0,none⟩),lc,cl,(some ⟨guA,0,none⟩),uc,cu,tA,tc,ts,(some ⟨gsA,0,none⟩),sc,rs⟩:Stm).sta.sp.getD g [])=(rs.getD g Rw.zero).l from qb9 (x:=(⟨cp,cr,gA,gc,gs,(some ⟨glA,0,none⟩),lc,cl,(some ⟨guA,0,none⟩),uc,cu,tA,tc,ts,(some ⟨gsA,0,none⟩),sc,rs⟩:Stm)) (show g<rs.length by omega),hy] at h;exact h
   revert I;revert a;repeat (first|clear Z|clear I)
   intro a Z I
   obtain ⟨gy,rfl⟩:=I.rwSome 8 rfl om hy om
   obtain ⟨yz,hyz⟩:∃z,yl[c]?=some z:=⟨_,List.getElem?_eq_getElem om⟩
   have hyo:yz.Ok:=hok0.sp yl (List.mem_map.2 ⟨_,qd Rw.zero (show g<rs.length by omega),by rw [hy]⟩) yz (List.mem_of_getElem? hyz)
   have hyf:=hyo.floor
   have hof:yz.floor|||9223372036854775808<18446744073709551616:=Nat.or_lt_two_pow (n:=64) hyf de
   refine Jb Z I ((JT∘JP∘Jf 1∘Jg 6 O0∘Jp 1∘Jy (h:=by exact Yl.ix0 gsA g 1 rfl rfl rfl)∘Jy (v:= .slice ((rs.getD g Rw.zero).A) ((rs.getD g Rw.zero).l.length) ((rs.getD g Rw.zero).c)) (h:=by exact Yl.r1 7 g Rw.zero om rfl rfl rfl)∘Jo (vS gy yl.length yc) (by rw [hy])∘Jp 1∘Jy (h:=by exact Yl.ix0 gy c 3 rfl rfl rfl)∘Jf 2∘Jy (v:=vQ yz.floor) (h:=by exact Yl.qe rfl rfl kr (fun _ h=>h.qb1 8 (j:=2) rfl om hy (hyz) rfl))∘Jp 1∘Jo (vQ (yz.floor|||9223372036854775808:Nat)) (by exact qyu (m:=yz.floor) (n:=9223372036854775808) om om)∘Jy (h:=by exact Yl.ix0 gy c 3 rfl rfl rfl)∘Jf 2) fun a Z I=>?_)
   refine fo Z 13 rfl rfl ?_
   refine qar Z I 7 (c:=c) 2 ({yz with floor:=yz.floor|||9223372036854775808}) rfl rfl rfl rfl kr rfl rfl om (hy) (hyz) rfl de rfl ?_
   clear I;intro w12_13 I
   replace I:Mem w w12_13 (.blk g11 #[vI p.next,vI cp,vQ cr,.slice gA gs.length gc,vS glA cl.length lc,vS guA cu.length uc,.slice tA ts.length tc,vS gsA rs.length sc] 40:: .blk g9 p.cells 40:: .blk g4 n.cells 27::fG gA gs.length gc gs::fI (some ⟨glA,0,none⟩) cl.length lc cl::fI (some ⟨guA,0,none⟩) cu.length uc cu::fT tA ts.length tc ts::fS (some ⟨gsA,0,none⟩) rs.length sc (rsPut rs g c ({yz with floor:=yz.floor|||9223372036854775808}))::(fR (rsPut rs g c ({yz with floor:=yz.floor|||9223372036854775808}))++(stF p.st++([])))):=I
   refine Jb Z I ((Jt6∘Jr∘Jf 1∘Jg 6 O0∘Jp 1∘Jy (h:=by exact Yl.ix0 gsA g 1 rfl rfl rfl)∘Jy (v:= .slice (((rsPut rs g c {yz with floor:=yz.floor|||9223372036854775808}).getD g Rw.zero).A) (((rsPut rs g c {yz with floor:=yz.floor|||9223372036854775808}).getD g Rw.zero).l.length) (((rsPut rs g c {yz with floor:=yz.floor|||9223372036854775808}).getD g Rw.zero).c)) (h:=by exact Yl.r1 7 g Rw.zero (by rw [qt];omega) rfl rfl rfl)∘Jo (vS gy yl.length yc) (by rw [qg9 om hy];show Value.slice _ (List.set _ _ _).length _=_;rw [List.length_set])∘Jp 1∘Jy (h:=by exact Yl.ix0 gy c 3 rfl rfl rfl)∘Jf 2∘Jy (v:=vQ (yz.floor|||9223372036854775808:Nat)) (h:=by exact Yl.qe rfl rfl kr (fun _ h=>h.qb1 8 (j:=2) rfl (by rw [qt];omega) (qg9 om hy) (qc0 hyz) rfl))∘Jp 1∘Jo (vQ ((yz.floor|||9223372036854775808)^^^1:Nat)) (by exact qmm (m:=yz.floor|||9223372036854775808) (n:=1) om om)∘Jy (h:=by exact Yl.ix0 gy c 3 rfl rfl rfl)∘Jf 2) fun a Z I=>?_)
   refine fo Z 13 rfl rfl ?_
   refine qar Z I 7 (c:=c) 2 yz.flip rfl rfl rfl rfl kr rfl rfl (by first|omega|(rw [qt];omega)) (qg9 om hy) (qc0 hyz) rfl de rfl ?_
   clear I;intro w13_13 I
   replace I:Mem w w13_13 (.blk g11 #[vI p.next,vI cp,vQ cr,.slice gA gs.length gc,vS glA cl.length lc,vS guA cu.length uc,.slice tA ts.length tc,vS gsA rs.length sc] 40:: .blk g9 p.cells 40:: .blk g4 n.cells 27::fG gA gs.length gc gs::fI (some ⟨glA,0,none⟩) cl.length lc cl::fI (some ⟨guA,0,none⟩) cu.length uc cu::fT tA ts.length tc ts::fS (some ⟨gsA,0,none⟩) rs.length sc (rsPut (rsPut rs g c ({yz with floor:=yz.floor|||9223372036854775808})) g c yz.flip)::(fR (rsPut (rsPut rs g c ({yz with floor:=yz.floor|||9223372036854775808})) g c yz.flip)++(stF p.st++([])))):=I
   rw [qew (by first|omega|(rw [qt];omega))] at I
   refine Jb Z I ((Jt6∘Jj∘JR∘Jp 1∘Jd6∘Jq) fun a Z I=>?_)
   have hcgN:ChgSn p ⟨p.next,(⟨cp,cr,gA,gc,gs,(some ⟨glA,0,none⟩),lc,cl,(some ⟨guA,0,none⟩),uc,cu,tA,tc,ts,(some ⟨gsA,0,none⟩),sc,(rsPut rs g c yz.flip)⟩:Stm)⟩ 6:=qi2 hEq (qv0 (y:=(⟨cp,cr,gA,gc,gs,some ⟨glA,0,none⟩,lc,cl,some ⟨guA,0,none⟩,uc,cu,tA,tc,ts,some ⟨gsA,0,none⟩,sc,rs⟩:Stm)) hok0 hfw0 hck0 (show g<rs.length by omega) hg0 (by show (rs.getD g Rw.zero).l[c]?=_;rw [hy];exact hyz))
   have hchN:7=0∨(ChgSn p ⟨p.next,(⟨cp,cr,gA,gc,gs,(some ⟨glA,0,none⟩),lc,cl,(some ⟨guA,0,none⟩),uc,cu,tA,tc,ts,(some ⟨gsA,0,none⟩),sc,(rsPut rs g c yz.flip)⟩:Stm)⟩ (7-1)∧1≤7∧7≤7):= .inr ⟨hcgN,by decide,by decide⟩
   have hC0N:(⟨cp,cr,gA,gc,gs,(some ⟨glA,0,none⟩),lc,cl,(some ⟨guA,0,none⟩),uc,cu,tA,tc,ts,(some ⟨gsA,0,none⟩),sc,(rsPut rs g c yz.flip)⟩:Stm).sta.Ok∧StFew (⟨cp,cr,gA,gc,gs,(some ⟨glA,0,none⟩),lc,cl,(some ⟨guA,0,none⟩),uc,cu,tA,tc,ts,(some ⟨gsA,0,none⟩),sc,(rsPut rs g c yz.flip)⟩:Stm)∧StCap (⟨cp,cr,gA,gc,gs,(some ⟨glA,0,none⟩),lc,cl,(some ⟨guA,0,none⟩),uc,cu,tA,tc,ts,(some ⟨gsA,0,none⟩),sc,(rsPut rs g c yz.flip)⟩:Stm):=⟨hcgN.ok,hcgN.few,hcgN.cap⟩
   have hlnN:Lns (⟨cp,cr,gA,gc,gs,(some ⟨glA,0,none⟩),lc,cl,(some ⟨guA,0,none⟩),uc,cu,tA,tc,ts,(some ⟨gsA,0,none⟩),sc,(rsPut rs g c yz.flip)⟩:Stm) gs.length cl.length cu.length ts.length rs.length:=⟨rfl,rfl,rfl,rfl,qt _ _ _ _⟩
   exact ⟨p.next,7,cp,cr,gA,gc,gs,(some ⟨glA,0,none⟩),lc,cl,(some ⟨guA,0,none⟩),uc,cu,tA,tc,ts,(some ⟨gsA,0,none⟩),sc,(rsPut rs g c yz.flip),gs.length,cl.length,cu.length,ts.length,rs.length,_,rfl,hlnN,fun w2 h2=>h2.qn4 (x:=(⟨cp,cr,gA,gc,gs,(some ⟨glA,0,none⟩),lc,cl,(some ⟨guA,0,none⟩),uc,cu,tA,tc,ts,(some ⟨gsA,0,none⟩),sc,(rsPut rs g c yz.flip)⟩:Stm)) rfl hlnN,hC0N,hchN,Z.sub kr,I.pt 8 [0,1,3,4,5,6,7]⟩
  intro a Z I
  have hd61:=of_decide_eq_false hb61
  refine Jb Z I ((JF∘JS) fun a Z I=>?_)
  have hchN:0=0∨(ChgSn p ⟨p.next,(⟨cp,cr,gA,gc,gs,(some ⟨glA,0,none⟩),lc,cl,(some ⟨guA,0,none⟩),uc,cu,tA,tc,ts,(some ⟨gsA,0,none⟩),sc,rs⟩:Stm)⟩ (0-1)∧1≤0∧0≤7):= .inl rfl
  have hC0N:(⟨cp,cr,gA,gc,gs,(some ⟨glA,0,none⟩),lc,cl,(some ⟨guA,0,none⟩),uc,cu,tA,tc,ts,(some ⟨gsA,0,none⟩),sc,rs⟩:Stm).sta.Ok∧StFew (⟨cp,cr,gA,gc,gs,(some ⟨glA,0,none⟩),lc,cl,(some ⟨guA,0,none⟩),uc,cu,tA,tc,ts,(some ⟨gsA,0,none⟩),sc,rs⟩:Stm)∧StCap (⟨cp,cr,gA,gc,gs,(some ⟨glA,0,none⟩),lc,cl,(some ⟨guA,0,none⟩),uc,cu,tA,tc,ts,(some ⟨gsA,0,none⟩),sc,rs⟩:Stm):=⟨hok0,hfw0,hck0⟩
  have hlnN:Lns (⟨cp,cr,gA,gc,gs,(some ⟨glA,0,none⟩),lc,cl,(some ⟨guA,0,none⟩),uc,cu,tA,tc,ts,(some ⟨gsA,0,none⟩),sc,rs⟩:Stm) gs.length cl.length cu.length ts.length rs.length:=⟨rfl,rfl,rfl,rfl,rfl⟩
  exact ⟨p.next,0,cp,cr,gA,gc,gs,(some ⟨glA,0,none⟩),lc,cl,(some ⟨guA,0,none⟩),uc,cu,tA,tc,ts,(some ⟨gsA,0,none⟩),sc,rs,gs.length,cl.length,cu.length,ts.length,rs.length,_,rfl,hlnN,fun w2 h2=>h2.qn4 (x:=(⟨cp,cr,gA,gc,gs,(some ⟨glA,0,none⟩),lc,cl,(some ⟨guA,0,none⟩),uc,cu,tA,tc,ts,(some ⟨gsA,0,none⟩),sc,rs⟩:Stm)) rfl hlnN,hC0N,hchN,Z.sub kr,I.pt 8 [0,1,3,4,5,6,7]⟩
 clear Z I;rintro a w_ ⟨nx,wh,cp,cr,gA,gc,gs,lA,lc,cl,uA,uc,cu,tA,tc,ts,sA,sc,rs,ng,nl,nu,nt,ns,q,hq,hln,hrd,hC0,hch,Z,I⟩
 refine Jb Z I ((JG∘JQ∘JP∘Jp 3) (Je (fun hd160=>?_) fun hd160=>?_))
 ·
  exact (Jp 4∘Jd6∘Jj∘JT∘JP∘Jp 1∘Jj∘JZ) JY1
 refine (Jy (v:= .agg #[vI nx,vI cp,vQ cr,.slice gA ng gc,.slice lA nl lc,.slice uA nu uc,.slice tA nt tc,.slice sA ns sc]) (h:=by exact Yl.loadS rfl rfl qu rfl (fun _ h=>qa (h.blk (i:=0) rfl)))∘JI (h:=by exact fun I=>qym (nx:=nx) (x:=(⟨cp,cr,gA,gc,gs,lA,lc,cl,uA,uc,cu,tA,tc,ts,sA,sc,rs⟩:Stm)) hq hln hC0.1 hC0.2.1 hC0.2.2 (hrd _ (I.dropN 2 rfl)))) fun w162 hbw=>(Jp 2∘Jd6∘Jj) (Ju (fun hb164=>?_) fun hb164=>?_)
 ·
  intro a Z I
  have hd164:=bne_iff_ne.1 hb164
  exact Jb Z I ((JT∘JP∘Jp 1∘Jj∘JZ) JY1)
 intro a Z I
 have hd164:=bne_eq_false_iff_eq.1 hb164
 have hw0:wh≠0:=by omega
 have hck:chkS q=0:=by omega
 obtain ⟨hC,hw1,hw7⟩:=hch.resolve_left hw0
 have hqR:=hC.right hck
 have hln1:=hqR.len
 have hs8:=qe1 q
 refine Jb Z I ((JF∘JS'∘JP∘Jy (v:= .agg p.cells) (h:=by exact Yl.loadS rfl rfl qu rfl (fun _ h=>qa (h.blk (i:=1) rfl)))∘JK (h:=by exact fun I=>cw_ok hsp (hL.mem I hB) (I.le hB) (I.st2 7 rfl))) fun A167 c167 w167 hc167=>(Jp 1∘Jx∘Jx∘Jp 2∘Jr∘Jy (v:= .agg #[vI nx,vI cp,vQ cr,.slice gA ng gc,.slice lA nl lc,.slice uA nu uc,.slice tA nt tc,.slice sA ns sc]) (h:=by exact Yl.loadS rfl rfl qu rfl (fun _ h=>qa (h.blk (i:=1) rfl)))∘JK (h:=by exact fun I=>qyn (nx:=nx) (x:=(⟨cp,cr,gA,gc,gs,lA,lc,cl,uA,uc,cu,tA,tc,ts,sA,sc,rs⟩:Stm)) hq hln hqR (hL.mem I hB) (I.le hB) (hrd _ (I.dropN 3 rfl)))) fun A172 c172 w172 hc172=>(Jp 1∘Jx∘Jx∘Jp 2∘Jr∘Jy (v:= .agg p.cells) (h:=by exact Yl.loadS rfl rfl qu rfl (fun _ h=>qa (h.blk (i:=3) rfl)))∘JK (h:=by exact fun I=>qvs hsp (I.st2 9 rfl))) fun A177 c177 w177 hc177=>(Jp 1∘Jx∘Jx∘Jp 2∘Jr∘Jy (v:= .agg #[vI nx,vI cp,vQ cr,.slice gA ng gc,.slice lA nl lc,.slice uA nu uc,.slice tA nt tc,.slice sA ns sc]) (h:=by exact Yl.loadS rfl rfl qu rfl (fun _ h=>qa (h.blk (i:=3) rfl)))∘JK (h:=by exact fun I=>q1y (nx:=nx) (x:=(⟨cp,cr,gA,gc,gs,lA,lc,cl,uA,uc,cu,tA,tc,ts,sA,sc,rs⟩:Stm)) hq hln hqR (hrd _ (I.dropN 5 rfl)))) fun A182 c182 w182 hc182=>(Jp 1∘Jx∘Jx∘Jp 2∘Jj∘JQ∘JP∘Jv 10 [(194,.slice A177 ((secsS p).length) c177),(193,.bool false)]∘Jl∘Jp 1∘Jo (.bool false) (by simp [qe1])∘Jp 3∘Jl∘Jp 1∘Jo (.bool false) (by simp [qe1])∘Jp 2∘Jy (v:= .agg p.cells) (h:=by exact Yl.loadS rfl rfl qu rfl (fun _ h=>qa (h.blk (i:=5) rfl)))∘Jy (v:= .agg #[vI nx,vI cp,vQ cr,.slice gA ng gc,.slice lA nl lc,.slice uA nu uc,.slice tA nt tc,.slice sA ns sc]) (h:=by exact Yl.loadS rfl rfl qu rfl (fun _ h=>qa (h.blk (i:=4) rfl)))∘JI (h:=by exact fun I=>q1z (nx:=nx) (x:=(⟨cp,cr,gA,gc,gs,lA,lc,cl,uA,uc,cu,tA,tc,ts,sA,sc,rs⟩:Stm)) hq hln (I.st2 11 rfl) hsp.few hC.few (hrd _ (I.dropN 6 rfl)) (hC.ne hck))) fun w206 hbw=>(Jp 1∘Jd6) fun a Z I=>?_)
 refine Jb Z I ((Jj∘JF∘JS'∘JQ∘JP∘Jp 1∘Jj∘JB) fun a Z I=>?_)
 refine qj (fun mS aS wS=>∃(i:Nat),(i≤8)∧mS=8-i∧Fr aS 303 [] [(208,vI i),(207,.bool false),(23,.slice A182 ((secsS q).length) c182),(21,.slice A177 ((secsS p).length) c177),(19,.slice A172 ((sealL (bodyS q)).length) c172),(17,.slice A167 ((sealL (bodyS p)).length) c167),(164,.bool false),(12,vI wh),(11,vP g11 0),(9,vP g9 0),(8,.bool false)]∧Mem w wS (.row (.slice A182 ((secsS q).length) c182) ((secsS q).length) ((secsS q).flatMap secL) 69 3:: .row (.slice A177 ((secsS p).length) c177) ((secsS p).length) ((secsS p).flatMap secL) 69 3:: .row (.slice A172 ((sealL (bodyS q)).length) c172) ((sealL (bodyS q)).length) ((sealL (bodyS q)).map B8) 5 1:: .row (.slice A167 ((sealL (bodyS p)).length) c167) ((sealL (bodyS p)).length) ((sealL (bodyS p)).map B8) 5 1:: .blk g11 #[vI nx,vI cp,vQ cr,.slice gA ng gc,.slice lA nl lc,.slice uA nu uc,.slice tA nt tc,.slice sA ns sc] 40:: .blk g9 p.cells 40::fG gA ng gc gs::fI lA nl lc cl::fI uA nu uc cu::fT tA nt tc ts::fS sA ns sc rs::(fR rs++(stF p.st++([]))))) (m:=8-0) ⟨0,Nat.zero_le _,rfl,Z.sub kr,I.pt 11 [0,1,2,3,4,5,6,7,8,9,10]⟩ ?_
 clear Z I;rintro mS a w_ ⟨i,hi,rfl,Z,I⟩
 refine Jb Z I ((JP∘Jp 1∘Jj∘JQ) (Ju (fun hb209=>?_) fun hb209=>?_))
 ·
  intro a Z I
  have hd209:=of_decide_eq_true hb209
  have hpi:((secsS p).getD i Sec.zero).fr≤((secsS p).getD i Sec.zero).to∧((secsS p).getD i Sec.zero).to≤(sealL (bodyS p)).length:=by rw [qzl p om];exact qpv p om
  have hqi:((secsS q).getD i Sec.zero).fr≤((secsS q).getD i Sec.zero).to∧((secsS q).getD i Sec.zero).to≤(sealL (bodyS q)).length:=by rw [qzl q om];exact qpv q om
  refine Jb Z I ((JT∘JS'∘JQ∘JB∘JP∘Jp 2∘Jd1∘Jj∘JQ) fun a Z I=>?_)
  refine wp_seq ?_
  refine Jb Z I ((Vs .n []) fun wd45=>(Vp [0,1]) ?_)
  repeat (first|clear Z|clear I|clear HS)
  intro a Z I HS
  obtain ⟨gA177,rfl⟩:=qn (I.own (i:=1) rfl) (Nat.lt_of_le_of_lt (Nat.zero_le _) (show i<(secsS p).length from by omega))
  refine Vb Z I HS ((Vy 2 (h:=by exact Yl.ix0 gA177 i 3 rfl rfl rfl)∘Vf 3 1∘Vy 4 (v:=vI (((secsS p).getD i Sec.zero).fr)) (h:=by exact Yl.qe rfl rfl kr (fun _ h=>h.qp zx (i:=1) rfl (k:=i) (off:=1) (x:=((secsS p).getD i Sec.zero)) ((getD_at Sec.zero (k:=i) (by first|omega|(simp;omega)))) rfl))∘Vq [5] [(216,.bool (decide ((((secsS p).getD i Sec.zero).fr:Int)<(0:Int))))]∘Vo (.bool false) (by exact congrArg Value.bool (decide_eq_false om))∘Vp [6,7,8,12,13]∘Vy 9 (h:=by exact Yl.ix0 gA177 i 3 rfl rfl rfl)∘Vf 10 1∘Vy 11 (v:=vI (((secsS p).getD i Sec.zero).fr)) (h:=by exact Yl.qe rfl rfl kr (fun _ h=>h.qp zx (i:=1) rfl (k:=i) (off:=1) (x:=((secsS p).getD i Sec.zero)) ((getD_at Sec.zero (k:=i) (by first|omega|(simp;omega)))) rfl))∘Vy 14 (h:=by exact Yl.ix0 gA177 i 3 rfl rfl rfl)∘Vf 15 2∘Vy 16 (v:=vI (((secsS p).getD i Sec.zero).to)) (h:=by exact Yl.qe rfl rfl kr (fun _ h=>h.qp zx (i:=1) rfl (k:=i) (off:=2) (x:=((secsS p).getD i Sec.zero)) ((getD_at Sec.zero (k:=i) (by first|omega|(simp;omega)))) rfl))∘Vq [17] [(228,.bool (decide ((((secsS p).getD i Sec.zero).fr:Int)>(((secsS p).getD i Sec.zero).to:Int))))]∘Vo (.bool false) (by exact congrArg Value.bool (decide_eq_false om))∘Vp [18,19,20,21,25]∘Vy 22 (h:=by exact Yl.ix0 gA177 i 3 rfl rfl rfl)∘Vf 23 2∘Vy 24 (v:=vI (((secsS p).getD i Sec.zero).to)) (h:=by exact Yl.qe rfl rfl kr (fun _ h=>h.qp zx (i:=1) rfl (k:=i) (off:=2) (x:=((secsS p).getD i Sec.zero)) ((getD_at Sec.zero (k:=i) (by first|omega|(simp;omega)))) rfl))∘Vl 26∘Vq [27] [(238,.bool (decide ((((secsS p).getD i Sec.zero).to:Int)>(((sealL (bodyS p)).length:Nat):Int))))]∘Vo (.bool false) (by exact congrArg Value.bool (decide_eq_false om))∘Vp [28,29,30,31]) ?_)
  repeat (first|clear Z|clear I|clear HS)
  intro a Z I HS
  obtain ⟨gA182,rfl⟩:=qn (I.own (i:=0) rfl) (Nat.lt_of_le_of_lt (Nat.zero_le _) (show i<(secsS q).length from by omega))
  refine Vb Z I HS ((Vy 32 (h:=by exact Yl.ix0 gA182 i 3 rfl rfl rfl)∘Vf 33 1∘Vy 34 (v:=vI (((secsS q).getD i Sec.zero).fr)) (h:=by exact Yl.qe rfl rfl kr (fun _ h=>h.qp zx (i:=0) rfl (k:=i) (off:=1) (x:=((secsS q).getD i Sec.zero)) ((getD_at Sec.zero (k:=i) (by first|omega|(simp;omega)))) rfl))∘Vq [35] [(246,.bool (decide ((((secsS q).getD i Sec.zero).fr:Int)<(0:Int))))]∘Vo (.bool false) (by exact congrArg Value.bool (decide_eq_false om))∘Vp [36,37,38,39,43,44]∘Vy 40 (h:=by exact Yl.ix0 gA182 i 3 rfl rfl rfl)∘Vf 41 1∘Vy 42 (v:=vI (((secsS q).getD i Sec.zero).fr)) (h:=by exact Yl.qe rfl rfl kr (fun _ h=>h.qp zx (i:=0) rfl (k:=i) (off:=1) (x:=((secsS q).getD i Sec.zero)) ((getD_at Sec.zero (k:=i) (by first|omega|(simp;omega)))) rfl))∘Vy 45 (h:=by exact Yl.ix0 gA182 i 3 rfl rfl rfl)∘Vf 46 2∘Vy 47 (v:=vI (((secsS q).getD i Sec.zero).to)) (h:=by exact Yl.qe rfl rfl kr (fun _ h=>h.qp zx (i:=0) rfl (k:=i) (off:=2) (x:=((secsS q).getD i Sec.zero)) ((getD_at Sec.zero (k:=i) (by first|omega|(simp;omega)))) rfl))∘Vq [48] [(259,.bool (decide ((((secsS q).getD i Sec.zero).fr:Int)>(((secsS q).getD i Sec.zero).to:Int))))]∘Vo (.bool false) (by exact congrArg Value.bool (decide_eq_false om))∘Vp [49,50,51,52,56]∘Vy 53 (h:=by exact Yl.ix0 gA182 i 3 rfl rfl rfl)∘Vf 54 2∘Vy 55 (v:=vI (((secsS q).getD i Sec.zero).to)) (h:=by exact Yl.qe rfl rfl kr (fun _ h=>h.qp zx (i:=0) rfl (k:=i) (off:=2) (x:=((secsS q).getD i Sec.zero)) ((getD_at Sec.zero (k:=i) (by first|omega|(simp;omega)))) rfl))∘Vl 57∘Vq [58] [(269,.bool (decide ((((secsS q).getD i Sec.zero).to:Int)>(((sealL (bodyS q)).length:Nat):Int))))]∘Vo (.bool false) (by exact congrArg Value.bool (decide_eq_false om))∘Vp [59]∘Vd∘Jd6) fun a Z I=>?_)
  replace Z:=Z.to [(270,.bool false),(25,vI i),(209,.bool true),(208,vI i),(207,.bool false),(23,vS gA182 ((secsS q).length) c182),(21,vS gA177 ((secsS p).length) c177),(19,.slice A172 ((sealL (bodyS q)).length) c172),(17,.slice A167 ((sealL (bodyS p)).length) c167),(164,.bool false),(12,vI wh),(11,vP g11 0),(9,vP g9 0),(8,.bool false)]
  refine Jb Z I ((JF∘JS') fun a Z I=>?_)
  refine wp_seq ?_
  refine Jb Z I ((Vs .n []) fun wd47=>(Vp [0,1,2,6,7,13,14,15,19,20,27,28,29]∘Vy 3 (h:=by exact Yl.ix0 gA177 i 3 rfl rfl rfl)∘Vf 4 1∘Vy 5 (v:=vI (((secsS p).getD i Sec.zero).fr)) (h:=by exact Yl.qe rfl rfl kr (fun _ h=>h.qp zx (i:=1) rfl (k:=i) (off:=1) (x:=((secsS p).getD i Sec.zero)) ((getD_at Sec.zero (k:=i) (by first|omega|(simp;omega)))) rfl))∘Vy 8 (h:=by exact Yl.ix0 gA177 i 3 rfl rfl rfl)∘Vf 9 2∘Vy 10 (v:=vI (((secsS p).getD i Sec.zero).to)) (h:=by exact Yl.qe rfl rfl kr (fun _ h=>h.qp zx (i:=1) rfl (k:=i) (off:=2) (x:=((secsS p).getD i Sec.zero)) ((getD_at Sec.zero (k:=i) (by first|omega|(simp;omega)))) rfl))∘Vy 11 (v:= .slice (if c167=((secsS p).getD i Sec.zero).fr then A167 else A167.map (·.add ((((secsS p).getD i Sec.zero).fr)*1))) ((((secsS p).getD i Sec.zero).to)- (((secsS p).getD i Sec.zero).fr)) (c167- (((secsS p).getD i Sec.zero).fr))) (h:=by exact Yl.qv3 ei_u8 (i:=((secsS p).getD i Sec.zero).fr) (j:=((secsS p).getD i Sec.zero).to) rfl rfl rfl rfl om om)∘Vy 12 (h:=by exact Yl.str rfl rfl (fun _ h=>qzj (h.rd (i:=3) rfl) hpi hc167))∘Vy 16 (h:=by exact Yl.ix0 gA182 i 3 rfl rfl rfl)∘Vf 17 1∘Vy 18 (v:=vI (((secsS q).getD i Sec.zero).fr)) (h:=by exact Yl.qe rfl rfl kr (fun _ h=>h.qp zx (i:=0) rfl (k:=i) (off:=1) (x:=((secsS q).getD i Sec.zero)) ((getD_at Sec.zero (k:=i) (by first|omega|(simp;omega)))) rfl))∘Vy 21 (h:=by exact Yl.ix0 gA182 i 3 rfl rfl rfl)∘Vf 22 2∘Vy 23 (v:=vI (((secsS q).getD i Sec.zero).to)) (h:=by exact Yl.qe rfl rfl kr (fun _ h=>h.qp zx (i:=0) rfl (k:=i) (off:=2) (x:=((secsS q).getD i Sec.zero)) ((getD_at Sec.zero (k:=i) (by first|omega|(simp;omega)))) rfl))∘Vy 24 (v:= .slice (if c172=((secsS q).getD i Sec.zero).fr then A172 else A172.map (·.add ((((secsS q).getD i Sec.zero).fr)*1))) ((((secsS q).getD i Sec.zero).to)- (((secsS q).getD i Sec.zero).fr)) (c172- (((secsS q).getD i Sec.zero).fr))) (h:=by exact Yl.qv3 ei_u8 (i:=((secsS q).getD i Sec.zero).fr) (j:=((secsS q).getD i Sec.zero).to) rfl rfl rfl rfl om om)∘Vy 25 (h:=by exact Yl.str rfl rfl (fun _ h=>qzj (h.rd (i:=2) rfl) hqi hc172))∘Vq [26] [(297,.bool (!(((bstr (cutB (sealL (bodyS p)) ((secsS p).getD i Sec.zero)))).toList==((bstr (cutB (sealL (bodyS q)) ((secsS q).getD i Sec.zero)))).toList)))]∘Vo (.bool (!(decide (cutB (sealL (bodyS p)) ((secsS p).getD i Sec.zero)=cutB (sealL (bodyS q)) ((secsS q).getD i Sec.zero))))) (by rw [qzz (qzi (qmw (qjl p)) _) (qzi (qmw (qjl q)) _)])∘Vy 30 (v:= .bool (!((!(decide (cutB (sealL (bodyS p)) ((secsS p).getD i Sec.zero)=cutB (sealL (bodyS q)) ((secsS q).getD i Sec.zero))))==((i:Int)==(wh:Int))))) (h:=by exact Yl.q12 rfl rfl rfl kr)∘Vo (.bool false) (by rw [q1x hC hck hsp om om];try rfl)∘Vd∘Jd6∘JF∘JS'∘JR∘JaK 1∘Jp 1∘Jd1∘Jq) fun a Z I=>?_)
  exact ⟨_,om,i+1,by omega,rfl,Z.sub kr,I.pt 11 [0,1,2,3,4,5,6,7,8,9,10]⟩
 intro a Z I
 have hd209:=of_decide_eq_false hb209
 exact Jb Z I ((JF∘JX∘JG∘JP∘Jp 1∘Jj∘JZ) JY1)
end Go.Proofs.YtcajpeiobkcliaaGreatDoor
