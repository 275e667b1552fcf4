/- A part of the proof. -/
import Derived.Test.YtekiimhdnigmcaaGreatDoorQsOneWay
namespace Go.Proofs.YtekiimhdnigmcaaGreatDoor
open Go.RowKit
theorem q1l (i:Nat) (h:i≤8):2^ (64-7*i)=128*2^ (64-7*(i+1)):=by
 rw [show 64-7*i=7+(64-7*(i+1)) by omega,Nat.pow_add]
theorem q1m (acc y i:Nat):acc+(y%128+128-128)*128^i+y/128*128^ (i+1)=acc+y*128^i:=by
 rw [Nat.pow_succ,Nat.add_sub_cancel,Nat.add_assoc,Nat.mul_comm (128^i) 128,←Nat.mul_assoc,←Nat.add_mul]
 congr 2
 omega
theorem Us:∀(f y i acc:Nat) (rest:List Nat),i+f=10→1≤f→y<2^ (64-7*i)→(0<i→0<y)→
  jg i acc ((gq f y).map gW++rest)=(acc+y*128^i,i+(gq f y).length,0)
 |0,_,_,_,_,_,h,_,_=>by omega
 | f + 1, y, i, acc, rest, hi, _, hy, h0 => by
  have h9:i=9→y<2:=fun e=>by subst e;simpa using hy
  by_cases h:y<128
  ·rw [wH f y h]
   show jg i acc (y::rest)=_
   rw [jg,if_neg (by omega),if_neg (by omega),if_pos h]
   rfl
  ·rw [uN f y (by omega)]
   show jg i acc ((y%128+128)::((gq f (y/128)).map gW++rest))=_
   have hi8:i≤8:=by
    rcases Nat.lt_or_ge i 9 with h|h
    ·omega
    ·have:=h9 (by omega);omega
   have hy':y/128<2^ (64-7*(i+1)):=by
    rw [q1l i hi8] at hy
    exact Nat.div_lt_of_lt_mul hy
   rw [jg,if_neg (by omega),if_neg (by omega),if_neg (by omega),Us f (y/128) (i+1) _ rest (by omega) (by omega) hy' (fun _=>by omega),q1m]
   simp only [List.length_cons,Prod.mk.injEq,and_true,true_and]
   omega
theorem MV {y:Nat} (rest:List Nat) (hy:y<18446744073709551616):av (ak y++rest)=(y,(ak y).length,0):=by
 have:=Us 10 y 0 0 rest rfl (by omega) (by simpa using hy) (fun h=>by omega)
 unfold av ak
 rw [this]
 simp
theorem Ut:∀(xs rest:List Nat),(∀x∈xs,x<18446744073709551616)→aH xs.length (xs.flatMap ak++rest)=(xs,(xs.flatMap ak).length,0)
 |[],_,_=>rfl
 |x::xs,rest,h=>by
  rw [List.length_cons,aH,List.flatMap_cons,List.append_assoc,MV _ (h x (by simp))]
  simp only [List.drop_left,ne_eq,not_true_eq_false,if_false]
  rw [Ut xs rest (fun z hz=>h z (by simp [hz]))]
  simp
theorem q6k {a b:Ev} (h1:a.seq=b.seq) (h2:a.time=b.time) (h3:a.cpu=b.cpu) (h4:a.kind=b.kind) (h5:∀i,i<7→a.bJ i=b.bJ i):a=b:=by
 have f0:a.task=b.task:=h5 0 (by omega)
 have f1:a.group=b.group:=h5 1 (by omega)
 have f2:a.to=b.to:=h5 2 (by omega)
 have f3:a.weight=b.weight:=h5 3 (by omega)
 have f4:a.ticks=b.ticks:=h5 4 (by omega)
 have f5:(a.mask:Int)=(b.mask:Int):=h5 5 (by omega)
 have f6:a.got=b.got:=h5 6 (by omega)
 cases a
 cases b
 simp only at*
 simp_all
 omega
theorem wrap_small {x:Int} (h0:0≤x) (h1:x≤4294967295):wrap64 ((x.toNat:Nat):Int)=x:=by
 rw [←IntWalk.i64_left,IntKind.wrap_i64];omega
theorem q1n (e:Ev):∀i,i<7→e.base.bJ i=0:=by
 intro i hi
 obtain rfl|rfl|rfl|rfl|rfl|rfl|rfl:i=0∨i=1∨i=2∨i=3∨i=4∨i=5∨i=6:=by omega
 all_goals rfl
theorem qqy {e:Ev} (h:e.check=0) (i:Nat) (hi:i<7) (hn:i∉aj e.kind):e.bJ i=0:=by
 unfold Ev.check at h
 split at h
 ·cases h
 ·split at h
  ·cases h
  ·split at h
   ·cases h
   ·split at h
    ·cases h
    ·rename_i h4
     have h4':(List.range 7).all (fun i=>decide (e.bJ i=0)||(aj e.kind).contains i)=true:=by rwa [Bool.not_eq_false] at h4
     have:=List.all_eq_true.1 h4' i (List.mem_range.2 hi)
     simpa [hn] using this
theorem qxe {e b:Ev} (hc:e.check=0) (h1:b.seq=e.seq) (h2:b.time=e.time) (h3:b.cpu=e.cpu) (h4:b.kind=e.kind):b.made e.vals=e:=by
 have hmk:=BX b e.vals
 have hw:=(nu hc).2.1
 rw [List.all_eq_true] at hw
 have hlen:e.vals.length=(aj e.kind).length:=by unfold Ev.vals;rw [List.length_map]
 have hkeys:∀p∈(aj e.kind).zip e.vals,p.1<7:=fun p hp=>oG _ _ (List.of_mem_zip hp).1
 have hnd:(((aj e.kind).zip e.vals).map (·.1)).Nodup:=by rw [List.map_fst_zip (by omega)];exact Ia _
 have hmem:∀i∈aj e.kind,(i,(e.bJ i).toNat)∈(aj e.kind).zip e.vals:=by
  intro i hi
  unfold Ev.vals
  have hz:∀l:List Nat,i∈l→(i,(e.bJ i).toNat)∈l.zip (l.map fun i=>(e.bJ i).toNat):=by
   intro l
   induction l with
   |nil=>intro h;cases h
   | cons a l ih =>
    intro h
    rcases List.mem_cons.1 h with rfl|h
    ·simp
    ·simp only [List.map_cons,List.zip_cons_cons,List.mem_cons]
     exact Or.inr (ih h)
  exact hz _ hi
 refine q6k (hmk.2.1.trans h1) (hmk.2.2.1.trans h2) (hmk.2.2.2.trans h3) (hmk.1.trans h4) fun i hi=>?_
 unfold Ev.made
 rw [h4]
 by_cases hu:i∈aj e.kind
 ·by_cases h5:i=5
  ·subst h5
   have:=MR _ _ b.base hkeys hnd (hmem 5 hu)
   show (((b.base.fill ((aj e.kind).zip e.vals)).mask:Nat):Int)=(e.mask:Int)
   rw [this]
   show (((e.mask:Int).toNat:Nat):Int)=_
   simp
  ·rw [DT i _ h5 _ _ hkeys hnd (hmem i hu)]
   exact wrap_small (zp (hw i hu)) (MQ hi h5 (hw i hu))
 ·rw [H9 i hi _ _ (fun p hp=>⟨hkeys p hp,fun h=>hu (h▸ (List.of_mem_zip hp).1)⟩),q1n b i hi,qqy hc i hi hu]
theorem qxf {e:Ev} (hc:e.check=0) (ho:e.Ok):∀x∈e.vals,x<18446744073709551616:=by
 intro x hx
 obtain ⟨i,hi,rfl⟩:=List.mem_map.1 hx
 have hw:=(nu hc).2.1
 rw [List.all_eq_true] at hw
 by_cases h5:i=5
 ·subst h5
  have:=ho.mask
  show ((e.mask:Int)).toNat<_
  simpa using this
 ·have:=MQ (oG _ _ hi) h5 (hw i hi)
  have h0:=zp (hw i hi)
  show (e.bJ i).toNat<_
  omega
theorem q1o {e:Ev} (hc:e.check=0):(aj e.kind).length≠0:=by
 have:=(nu hc).1
 rcases Lr e.kind with h|h|h|h|h|h|h|h|h|h|h
 any_goals (rw [h];decide)
 exact absurd h.2 (by rw [this];exact id)
structure Fit (b:Bs) (e:Ev):Prop where
 right:b.right=true
 check:e.check=0
 ok:e.Ok
 behind:b.behind e=true
theorem Fit.nums {b:Bs} {e:Ev} (h:Fit b e):(∀x∈pz b e,x<18446744073709551616)∧(pz b e).length=2+(aj e.kind).length∧b.seq+(((e.seq-b.seq).toNat:Nat):Int)=e.seq∧b.time+(((e.time-b.time).toNat:Nat):Int)=e.time∧
  1≤b.seq∧0≤b.time∧e.seq≤281474976710656∧e.time≤281474976710656:=by
 have h1:=h.right
 have h2:=h.behind
 unfold Bs.right at h1
 unfold Bs.behind at h2
 simp only [decide_eq_true_eq] at h1 h2
 obtain ⟨_,_,_,g1,g2,g3,g4⟩:=nu h.check
 refine ⟨fun x hx=>?_,?_,by omega,by omega,by omega,by omega,by omega,by omega⟩
 ·unfold pz at hx
  rcases List.mem_cons.1 hx with rfl|hx
  ·omega
  ·rcases List.mem_cons.1 hx with rfl|hx
   ·omega
   ·exact qxf h.check h.ok x hx
 ·unfold pz Ev.vals
  simp only [List.length_cons,List.length_map]
  omega
theorem qxg {b:Bs} {e:Ev} (h:Fit b e) (rest:List Nat):aG b e.cpu (qq b e++rest)=(e,(qq b e).length,0):=by
 obtain ⟨n1,n2,n3,n4,n5,n6,n7,n8⟩:=h.nums
 unfold aG qq
 rw [if_neg (by simp [h.right]),if_neg (by simp)]
 simp only [List.cons_append,List.getD_cons_zero,List.drop_succ_cons,List.drop_zero]
 rw [if_neg (q1o h.check),←n2,Ut _ rest n1]
 unfold j5
 have hm:(b.ev e.cpu e.kind (e.seq-b.seq).toNat (e.time-b.time).toNat).made e.vals=e:=
  qxe h.check n3 n4 rfl rfl
 have hv:e.vals.length=(aj e.kind).length:=by unfold Ev.vals;rw [List.length_map]
 have hE:(b.ev e.cpu e.kind (e.seq-b.seq).toNat (e.time-b.time).toNat).aD e.vals=0:=by
  unfold Ev.aD
  rw [if_neg (by show ¬(e.kind=0∨10<e.kind);rw [(nu h.check).1];exact id),if_neg (by rw [hv];show ¬(aj e.kind).length≠(aj e.kind).length;omega),hm,if_neg (by rw [h.check];omega)]
 simp only [pz,List.getD_cons_zero,List.getD_cons_succ,List.drop_succ_cons,List.drop_zero,ne_eq,not_true_eq_false,if_false]
 rw [if_neg (by omega),hE,if_neg (by omega),hm]
 simp only [List.length_cons,Prod.mk.injEq,true_and,and_true]
 omega
def Chain (cpu:Nat):Option Ev→Bs→List Ev→Prop
 |_,_,[]=>True
 |p,b,e::r=>Fit b e∧e.cpu=cpu∧(∀q,p=some q→q.seq<e.seq)∧Chain cpu (some e) e.at r
theorem I6 {e:Ev} (hc:e.check=0):e.at.right=true:=by
 obtain ⟨_,_,_,g1,g2,g3,g4⟩:=nu hc
 unfold Bs.right Ev.at
 rw [decide_eq_true_eq]
 exact ⟨g1,g2,g3,g4⟩
theorem Uu {cpu:Nat}:∀(es:List Ev) (p:Option Ev) (b:Bs) (rest:List Nat),Chain cpu p b es→qj cpu es.length b p (recs b es++rest)=(es,(recs b es).length,0)
 |[],_,_,_,_=>rfl
 | e :: r, p, b, rest, h => by
  obtain ⟨h1,h2,h3,h4⟩:=h
  subst h2
  have hp:p.any (fun q=>decide (e.seq=q.seq))=false:=by
   cases p with
   |none=>rfl
   |some q=>have:=h3 q rfl;simp;omega
  rw [List.length_cons,qj,recs,List.append_assoc,qxg h1]
  simp only [List.drop_left,ne_eq,not_true_eq_false,if_false,hp,Bool.false_eq_true]
  rw [Uu r (some e) e.at rest h4]
  simp
theorem Uv {cpu:Nat}:∀(es:List Ev) (p:Option Ev) (b:Bs) (i:Nat),Chain cpu p b es→(∀q,p=some q→b=q.at∧q.cpu=cpu)→bW p i es=(-1,0)
 |[],_,_,_,_,_=>rfl
 | e :: r, p, b, i, h, hp => by
  obtain ⟨h1,h2,h3,h4⟩:=h
  rw [bW,if_neg (by simp [h1.check]),if_neg]
  ·exact Uv r (some e) e.at (i+1) h4 (fun q hq=>by injection hq with hq;subst hq;exact ⟨rfl,h2⟩)
  ·cases p with
   |none=>simp
   | some q =>
    obtain ⟨rfl,hc⟩:=hp q rfl
    have hb:=h1.behind
    unfold Bs.behind Ev.at at hb
    simp only [decide_eq_true_eq] at hb
    have:=h3 q rfl
    have MU:e.after q=true:=by
     unfold Ev.after
     rw [decide_eq_true_eq]
     exact ⟨by rw [h2,hc],this,hb.2⟩
    simp [MU]
theorem Uw {cpu:Nat} {es:List Ev} {b:Bs} (hb:b.right=true) (h:Chain cpu none b es):bL es=(-1,0)∧qr b es=0∧zd b es=recs b es:=by
 have h1:bL es=(-1,0):=Uv es none b 0 h (fun q hq=>by cases hq)
 have h2:qr b es=0:=by
  unfold qr
  have hh:es.head?.all b.behind=true:=by
   cases es with
   |nil=>rfl
   |cons e r=>simpa using h.1.behind
  rw [h1,if_neg (by simp),if_pos ⟨hb,hh⟩]
 refine ⟨h1,h2,?_⟩
 unfold zd
 rw [if_pos h2]
theorem Ux {cpu:Nat} {es:List Ev} {b:Bs} (hb:b.right=true) (h:Chain cpu none b es) (rest:List Nat):bq b cpu (es.length:Int) (recs b es++rest)=(es,(recs b es).length,0):=by
 unfold bq
 rw [if_neg (by omega),if_neg (by simp [hb])]
 exact Uu es none b rest h
end Go.Proofs.YtekiimhdnigmcaaGreatDoor
