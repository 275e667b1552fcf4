/- Parts. -/
import Derived.Test.YtekiimhdnigmcaaGreatDoorQtZ4
set_option linter.all false
set_option maxRecDepth 100000
set_option maxHeartbeats 1000000
namespace Go.Proofs.YtekiimhdnigmcaaGreatDoor
open Go.RowKit
theorem q8a {W w:World} {a:List Fact} {p:Pm} (h:Mem W w (a++(mK p++[]))):Mem W w (mK p):=by
 rw [List.append_nil] at h
 exact h.uW (List.sublist_append_right a _)
theorem q4m (A:Option Addr) (c:Nat) (b:List Nat) (BB:Nat) (w:World) (hL:aO BB w) (hB:BB≤w.heap.size) (hr:Rd w w.heap.size 1 A b.length (b.map B8)) (hc:b.length≤c) (hn:b.length≤100000000) (hl:∀z∈b,z<256) (n:Int) (hIn:bP n):
    Calls Tryz.prog 40 #[.slice A b.length c,vI n] w (Is w (.tuple #[vI (kH b n).1,vI ((kH b n).2:Int)])):=by
 refine (jw Tryz.func40 32) ?_
 refine (JP∘Jp 2∘Jq) fun a Z E=>?_
 obtain ⟨L,ie,hidx⟩:∃L ie,dP b=(L,ie):=⟨_,_,rfl⟩
 have hpl:(L,ie).1.length=L.length:=rfl
 refine Jb Z E ((JG∘JP∘Jp 1∘JK (h:=by exact fun E=>qrb A c b BB _ (hL.mem E hB) (E.le hB) (E.old hr) hc hn hl hidx)) fun PA pc wN hpc=>(Jp 1∘Jx∘Jx∘Jp 2∘Jj∘JQ∘JP∘Jp 2∘aQ∘Jj) (Ju (fun fP=>?_) fun fP=>?_))
 ·
  intro a Z E
  have kM:=bne_iff_ne.1 fP
  exact Jb Z E ((JT∘JP∘Jp 3∘Jj∘JZ∘bW) fun E=>yt (q7n hidx om) rfl E.below)
 intro a Z E
 have kM:=bne_eq_false_iff_eq.1 fP
 have rX:ie=0:=by omega
 have hL2:∀x∈L,x.sn≤x.st∧x.st≤x.en∧x.en≤b.length:=qmq hl (by rw [hidx,rX])
 have hLn:L.length≤1024:=q4l hl (by rw [hidx,rX])
 refine Jb Z E ((JF∘aG∘JQ∘JP∘Jp 1∘Jl∘Jp 1∘Jo (vI ((L.length:Int)-1)) (by exact Dp ⟨by omega,by omega⟩)∘Jp 1∘bQ∘Jj∘JB) fun a Z E=>?_)
 refine qc (fun mS aS wS=>∃(k:Nat),(k≤L.length)∧(kH b n=Ma L n k)∧mS=0+k∧Fr aS 32 [] [(8,vI ((k:Int)-1)),(15,.bool false),(7,vI ie),(6,.slice PA L.length pc),(5,vI 0),(4,vI 0),(1,vI n)]∧Mem w wS [.row (.slice PA L.length pc) L.length (L.flatMap kX) 57 4]) (m:=0+L.length) ⟨L.length,Nat.le_refl _,zb8 (by rw [hidx,rX]),rfl,Z.sub kr,E.pk [0]⟩ ?_
 clear Z E;rintro mS a w_ ⟨k,hk,hfi,rfl,Z,E⟩
 refine Jb Z E ((JQ∘JP∘Jp 2∘aQ∘Jj) (Ju (fun fT=>?_) fun fT=>?_))
 ·
  intro a Z E
  have nO:=of_decide_eq_true fT
  obtain ⟨j,hkj⟩:∃j,k=j+1:=⟨k-1,by omega⟩
  have hj:j<L.length:=by omega
  have hgo:Ma L n k=if ((L.getD j Pl.zero).nx:Int)≤n then ((j:Int),0) else Ma L n j:=by rw [hkj];rfl
  refine Jb Z E ((JT∘aG∘JQ∘JB∘JP∘Jp 2∘Jo (vI j) (by rw [show ((k:Int)-1)=(j:Int) by omega])) ?_)
  repeat (first|clear Z|clear E)
  intro a Z E
  obtain ⟨RA,rfl⟩:=Dq (E.own (i:=0) rfl) (Nat.lt_of_le_of_lt (Nat.zero_le _) (show j<L.length from by omega))
  refine Jb Z E ((Jy (h:=by exact Yl.uV RA j 4 rfl rfl rfl)∘Jf 0∘Jy (v:=vI ((L.getD j Pl.zero).nx)) (h:=by exact Yl.qj rfl rfl kr (fun _ h=>(by have:=h.KV y8 (i:=0) rfl (k:=j) (off:=0) (x:=(L.getD j Pl.zero)) ((getD_at Pl.zero hj)) rfl;simpa using this)))∘Jp 2∘aF∘Jj) (Ji (fun vT=>?_) fun vT=>?_))
  ·
   exact (JT∘JP∘Jp 1∘Jo (vI j) (by rw [show ((k:Int)-1)=(j:Int) by omega])∘Jp 2∘Jj∘JZ∘bW) fun E=>yt (m:=0) (hfi.trans (hgo.trans (if_pos om))) rfl E.below
  refine (JF∘aG∘JR∘Jp 1∘Jo (vI j) (by rw [show ((k:Int)-1)=(j:Int) by omega])∘Jp 1∘Jo (vI ((j:Int)-1)) (by exact Dp ⟨by omega,by omega⟩)∘Jp 1∘aT∘Jq) fun a Z E=>?_
  exact ⟨_,om,j,by omega,(hfi.trans (hgo.trans (if_neg om))),rfl,Z.sub kr,E.pk [0]⟩
 intro a Z E
 have nO:=of_decide_eq_false fT
 exact Jb Z E ((JF∘JX∘JG∘JP∘Jp 2∘Jj∘JZ∘bW) fun E=>yt (m:=6) (hfi.trans (by rw [show k=0 by omega];rfl)) rfl E.below)
theorem qrc (A:Option Addr) (c:Nat) (b:List Nat) (BB:Nat) (w:World) (hL:aO BB w) (hB:BB≤w.heap.size) (hr:Rd w w.heap.size 1 A b.length (b.map B8)) (hc:b.length≤c) (hn:b.length≤100000000) (hl:∀z∈b,z<256) (i:Int) (hIi:bP i) (hk1:∀x∈(dP b).1,iT (bR b x.st x.en)):
    Calls Tryz.prog 20 #[.slice A b.length c,vI i] w (Qh w b i):=by
 refine (jw Tryz.func20 37) ?_
 refine (JP∘JA #[vI 0,vI 0,vQ 0,vN,vN,vN,vN,vN,vN]) fun w4 g4=>(Jp 1∘Jq) fun a Z E=>?_
 obtain ⟨L,ie,hidx⟩:∃L ie,dP b=(L,ie):=⟨_,_,rfl⟩
 have hpl:(L,ie).1.length=L.length:=rfl
 refine Jb Z E ((JG∘JP∘Jp 1∘JK (h:=by exact fun E=>qrb A c b BB _ (hL.mem E hB) (E.le hB) (E.old hr) hc hn hl hidx)) fun PA pc ru hpc=>(Jp 1∘Jx∘Jx∘Jp 2∘Jj∘JQ∘JB∘JP∘Jp 3∘aT∘Jj) (Ju (fun dS=>?_) fun dS=>?_))
 ·
  intro a Z E
  have kU:=bne_iff_ne.1 dS
  refine Jb Z E ((JT∘JP∘Jy (v:= .agg #[vI 0,vI 0,vQ 0,vN,vN,vN,vN,vN,vN]) (h:=by exact Yl.build (vs:=[]) rfl kr kr)∘Jp 1∘JV bS gQ) fun DJ=>(Jp 1∘aT∘Jj∘JZ) fun a Z E=>?_)
  exact jc rfl Z (.cellS (i:=1) Z E rfl rfl bS rfl) (.tmp Z rfl) (Zk (q7m hidx om) rfl om (E.pk []))
 intro a Z E
 have kU:=bne_eq_false_iff_eq.1 dS
 have rX:ie=0:=by omega
 have hL2:∀x∈L,x.sn≤x.st∧x.st≤x.en∧x.en≤b.length:=qmq hl (by rw [hidx,rX])
 have hLn:L.length≤1024:=q4l hl (by rw [hidx,rX])
 refine Jb Z E ((JF∘JP∘Jp 3) (Ji (fun nO=>?_) fun nO=>?_))
 ·
  refine (Jp 6∘aF∘Jj∘JT∘JP∘Jy (v:= .agg #[vI 0,vI 0,vQ 0,vN,vN,vN,vN,vN,vN]) (h:=by exact Yl.build (vs:=[]) rfl kr kr)∘JV bS gQ) fun EK=>(Jp 1∘aQ∘Jj∘JZ) fun a Z E=>?_
  exact jc rfl Z (.cellS (i:=1) Z E rfl rfl bS rfl) (.tmp Z rfl) (Zk (e:=2) (qvs (by rw [hidx,rX]) om) rfl de (E.pk []))
 refine (Jp 2∘Jl∘Jp 3∘aF∘Jj) (Ju (fun fQ=>?_) fun fQ=>?_)
 ·
  intro a Z E
  have kQ:=of_decide_eq_true fQ
  refine Jb Z E ((JT∘JP∘Jy (v:= .agg #[vI 0,vI 0,vQ 0,vN,vN,vN,vN,vN,vN]) (h:=by exact Yl.build (vs:=[]) rfl kr kr)∘JV bS gQ) fun EK=>(Jp 1∘aQ∘Jj∘JZ) fun a Z E=>?_)
  exact jc rfl Z (.cellS (i:=1) Z E rfl rfl bS rfl) (.tmp Z rfl) (Zk (e:=2) (qvs (by rw [hidx,rX]) om) rfl de (E.pk []))
 intro a Z E
 have kQ:=of_decide_eq_false fQ
 obtain ⟨k,hk⟩:∃k:Nat,i=(k:Int):=⟨i.toNat,by omega⟩
 have hkl:k<L.length:=by omega
 obtain ⟨x,hx⟩:∃x,L.getD k Pl.zero=x:=⟨_,rfl⟩
 have hxx:=hL2 x (by rw [←hx];exact qi Pl.zero hkl)
 refine Jb Z E ((JF∘aG∘JP∘Jp 2∘Jo (vI k) (by rw [hk])) ?_)
 repeat (first|clear Z|clear E)
 intro a Z E
 obtain ⟨RA,rfl⟩:=Dq (E.own (i:=0) rfl) (Nat.lt_of_le_of_lt (Nat.zero_le _) (show k<L.length from by omega))
 refine Jb Z E ((Jy (h:=by exact Yl.uV RA k 4 rfl rfl rfl)∘Jy (v:= .agg ((L.getD k Pl.zero).cells)) (h:=by exact Yl.qf rfl rfl wX rfl (fun _ h=>h.VR y8 (i:=0) rfl ((getD_at Pl.zero hkl))))∘Jo (.agg x.cells) (by rw [hx])∘Jp 1∘Jy (v:= .agg #[vI x.nx,vI x.sn,vI x.st,vI x.en,.slice A b.length c]) (h:=by exact Yl.build (vs:=[(0,.agg x.cells),(1,.slice A b.length c)]) rfl kr kr)∘JL (h:=by exact fun E=>q4j A c b BB _ (hL.mem E hB) (E.le hB) (E.old hr) hc hn hl x hxx (hk1 x (by rw [hidx,←hx];exact qi Pl.zero hkl)))) ?_)
 rintro E _ Uo ⟨p,rfl,hpe,hpo,hm⟩
 refine ⟨_,rfl,_,(show Mem w Uo (.row (vS RA L.length pc) L.length (L.flatMap kX) 57 4:: .blk g4 #[vI 0,vI 0,vQ 0,vN,vN,vN,vN,vN,vN] 53::(mK p++([]))) from E.lu (T:=[]) 2 hm rfl),?_⟩
 refine (Jx∘Jx∘JV bS gQ (h1:=by exact FY p)) fun avk=>(Jp 1∘aF∘Jj∘JZ) fun a Z E=>?_
 exact jc rfl Z (.cellS (i:=1) Z E rfl rfl bS rfl) (.tmp Z rfl) (q7l (by rw [hidx,rX]) hk hkl hx hpe hpo (q8a (a:=[.row (vS RA L.length pc) L.length (L.flatMap kX) 57 4,.blk g4 p.cells 53]) E))
theorem Ml (n:Int) (hn:bP n) (w:World):
    Calls Tryz.prog 34 #[vI n] w (q9k w n):=by
 refine (bZ Tryz.func34 19) ?_
 refine (JP∘JA #[vI 0,vI 0,vQ 0,vN,vN,vN,vN,vN,vN]) fun w2 g2=>(Jr∘Jy (v:= .agg #[vI 0,vI 1]) (h:=by exact Yl.build (vs:=[(1,vI 1)]) rfl kr kr)∘JU oz #[vI 0,vI 1]) fun w5 g5=>(Jy (v:= .agg #[vI 1,vQ 0,vS g5 1 1]) (h:=by exact Yl.build (vs:=[(0,vI 1),(2,vS g5 1 1)]) rfl kr kr)∘JU yL #[vI 0]) fun w7 g7=>(JU yL #[vI 0]) fun w8 g8=>(Jy (v:= .agg #[vQ 0,vW 0,vQ 0]) (h:=by exact Yl.build (vs:=[]) rfl kr kr)∘JU qD #[vQ 0,vW 0,vQ 0]) fun ru g10=>(JU sW #[vS g10 1 1]) fun wN g11=>(Jy (v:= .agg #[vI 1,vQ 0,vS g5 1 1,vS g7 1 1,vS g8 1 1,vN,vS g11 1 1]) (h:=by exact Yl.build (vs:=[(0,.agg #[vI 1,vQ 0,vS g5 1 1]),(1,vS g7 1 1),(2,vS g8 1 1),(4,vS g11 1 1)]) rfl kr kr)∘JA #[vI 0,vQ 0,vN,vN,vN,vN,vN]) fun w3 g3=>(JV dD bg) fun Rl=>(aF∘Jr∘Jp 1∘Jy (v:= .agg #[vI 1,vQ 0,vS g5 1 1,vS g7 1 1,vS g8 1 1,vN,vS g11 1 1]) (h:=by exact Yl.qf rfl rfl dD rfl (fun _ h=>qb (h.blk (i:=0) rfl)))∘Jy (v:= .agg #[vI n,vI 1,vQ 0,vS g5 1 1,vS g7 1 1,vS g8 1 1,vN,vS g11 1 1]) (h:=by exact Yl.build (vs:=[(0,vI n),(1,.agg #[vI 1,vQ 0,vS g5 1 1,vS g7 1 1,vS g8 1 1,vN,vS g11 1 1])]) rfl kr kr)∘Jy (v:= .agg #[vB 2,vB 0,vI 0,vI 7,vN]) (h:=by exact Yl.build (vs:=[(0,vB 2),(3,vI 7)]) rfl kr kr)∘JU Xb #[vB 2,vB 0,vI 0,vI 7,vN]) fun DF g17=>(Jy (v:= .agg #[vI n,vI 1,vQ 0,vS g5 1 1,vS g7 1 1,vS g8 1 1,vN,vS g11 1 1,vS g17 1 1]) (h:=by exact Yl.build (vs:=[(0,.agg #[vI n,vI 1,vQ 0,vS g5 1 1,vS g7 1 1,vS g8 1 1,vN,vS g11 1 1]),(1,vS g17 1 1)]) rfl kr kr)∘JV bS MZ) fun avl=>(lH∘Jj∘JZ) fun a Z E=>?_
 exact nN rfl Z (.cellS (i:=7) Z E rfl rfl bS rfl) (Ro hn (E.pk (fs':=[.blk g5 #[vI 0,vI 1] 198,.blk g7 #[vI 0] 3,.blk g8 #[vI 0] 3,.blk g11 #[vS g10 1 1] 176,.blk g10 #[vQ 0,vW 0,vQ 0] 200,.blk g17 #[vB 2,vB 0,vI 0,vI 7,vN] 85]) [6,5,4,2,3,0]))
theorem qtq (B:Nat) (w:World) (hL:aO B w) (hB:B≤w.heap.size):Calls Tryz.prog 16 #[vN] w (qx w 0 nX):=by
 have h:=qh1 none 0 [] B w hL hB Rd.nil (fun p hp=>by cases hp) (Nat.le_refl _) (Nat.zero_le _)
 rwa [show nI (List.map Pm.v [])=(nX,0) from GN.1] at h
theorem q4n (A:Option Addr) (c:Nat) (p:Pm) (hs:bM (mq 1) p.z) (hq:p.q.map Hb.b=[l6 7]) (B:Nat) (w:World) (hL:aO B w) (hB:B≤w.heap.size) (hr:Rd w w.heap.size 9 A 1 ([p].flatMap jM)) (hP:∀x∈[p],fH x∧dQ w x) (hc:1≤c):Calls Tryz.prog 16 #[.slice A 1 c] w (qx w 0 cO):=by
 have h:=qh1 A c [p] B w hL hB hr hP hc (by show 1≤100000;decide)
 rwa [show nI (List.map Pm.v [p])=(cO,0) from (qqv (.cons (qU hs hq) .nil)).trans q7p] at h
theorem qyb (A:Option Addr) (c:Nat) (p q:Pm) (hs:bM (mq 1) p.z) (hq:p.q.map Hb.b=[l6 7]) (hs2:bM (mq 0) q.z) (hq2:q.q.map Hb.b=[l6 7]) (B:Nat) (w:World) (hL:aO B w) (hB:B≤w.heap.size) (hr:Rd w w.heap.size 9 A 2 ([p,q].flatMap jM)) (hP:∀x∈[p,q],fH x∧dQ w x) (hc:2≤c):Calls Tryz.prog 15 #[.slice A 2 c] w (Is w (.tuple #[vI 1,vI 330])):=
 UK A c [p,q] B w hL hB hr hP hc (by show 2≤1000000;decide) ((Ut (.cons (qU hs hq) (.cons (qU hs2 hq2) .nil))).trans Qj)
theorem qrd (A:Option Addr) (c:Nat) (p q s:Pm) (hs:bM (mq 1) p.z) (hq:p.q.map Hb.b=[l6 7]) (hs2:bM (mq 5) q.z) (hq2:q.q.map Hb.b=[l6 7]) (hs3:bM (mq 4) s.z) (hq3:s.q.map Hb.b=[l6 7]) (B:Nat) (w:World) (hL:aO B w) (hB:B≤w.heap.size) (hr:Rd w w.heap.size 9 A 3 ([p,q,s].flatMap jM)) (hP:∀x∈[p,q,s],fH x∧dQ w x) (hc:3≤c):Calls Tryz.prog 15 #[.slice A 3 c] w (Is w (.tuple #[vI 2,vI 411])):=
 UK A c [p,q,s] B w hL hB hr hP hc (by show 3≤1000000;decide) ((Ut (.cons (qU hs hq) (.cons (qU hs2 hq2) (.cons (qU hs3 hq3) .nil)))).trans Qk)
theorem q4o (A:Option Addr) (c:Nat) (B:Nat) (w:World) (hL:aO B w) (hB:B≤w.heap.size) (hr:Rd w w.heap.size 1 A 39 (cO.map B8)) (hc:39≤c):Calls Tryz.prog 18 #[.slice A 39 c] w (L9 w ([⟨1,11,26,39⟩],0)):=by
 have h:=qh2 A c cO B w hL hB (by rw [uE];exact hr) (by rw [uE];exact hc) (by rw [uE];decide) xI
 rwa [uE,Zl] at h
theorem qyc (A:Option Addr) (c:Nat) (B:Nat) (w:World) (hL:aO B w) (hB:B≤w.heap.size) (hr:Rd w w.heap.size 1 A 40 ((cO++[0]).map B8)) (hc:40≤c):Calls Tryz.prog 18 #[.slice A 40 c] w (L9 w ([],410)):=by
 have e:(cO++[0]).length=40:=by rw [List.length_append,uE];rfl
 have h:=qh2 A c (cO++[0]) B w hL hB (by rw [e];exact hr) (by rw [e];exact hc) (by rw [e];decide) ze8
 rwa [e,zcw] at h
theorem qwc (A:Option Addr) (c:Nat) (B:Nat) (w:World) (hL:aO B w) (hB:B≤w.heap.size) (hr:Rd w w.heap.size 1 A 39 (cO.map B8)) (hc:39≤c) {n v:Int} {e:Nat} (hn:bP n) (hf:kH cO n=(v,e)):Calls Tryz.prog 40 #[.slice A 39 c,vI n] w (Is w (.tuple #[vI v,vI e])):=by
 have h:=q4m A c cO B w hL hB (by rw [uE];exact hr) (by rw [uE];exact hc) (by rw [uE];decide) xI n hn
 rwa [uE,hf] at h
theorem q4p (A:Option Addr) (c:Nat) (B:Nat) (w:World) (hL:aO B w) (hB:B≤w.heap.size) (hr:Rd w w.heap.size 1 A 39 (cO.map B8)) (hc:39≤c):Calls Tryz.prog 20 #[.slice A 39 c,vI 0] w (Rt w):=by
 have h:=qrc A c cO B w hL hB (by rw [uE];exact hr) (by rw [uE];exact hc) (by rw [uE];decide) xI 0 (by unfold bP;decide) q4h
 rw [uE] at h
 exact h.mono fun _ _=>zcz
theorem q4q (A:Option Addr) (c:Nat) (B:Nat) (w:World) (hL:aO B w) (hB:B≤w.heap.size) (hr:Rd w w.heap.size 1 A 39 (cO.map B8)) (hc:39≤c):Calls Tryz.prog 20 #[.slice A 39 c,vI 1] w (fun r w'=>∃p:Pm,r= .returned (.tuple #[.agg p.cells,vI 2])∧Below w.heap.size w w'):=by
 have h:=qrc A c cO B w hL hB (by rw [uE];exact hr) (by rw [uE];exact hc) (by rw [uE];decide) xI 1 (by unfold bP;decide) q4h
 rw [uE] at h
 exact h.mono fun _ _=>q75
theorem UO (B:Nat) (w:World) (hL:aO B w) (hB:B≤w.heap.size):
    Calls Tryz.prog 13 #[] w (Is w (.bool true)):=by
 refine (JN0 Tryz.func13 172) ?_
 refine (JP∘Jp 1∘Jr∘JK (h:=by exact fun E=>qtq B _ (hL.mem E hB) (E.le hB))) fun F4 CQ Fg hc22=>fun a Z E=>?_
 replace hc22:8≤CQ:=hc22
 refine Jb Z E ((Jp 1∘Jx∘Jx∘Jp 2∘Jr∘JL (h:=by exact fun E=>Ml 1 (by unfold bP;decide) _)) ?_)
 rintro E _ vJ ⟨p26,rfl,aaK,aaL,yH,hm⟩
 refine ⟨_,rfl,_,(show Mem w vJ (.row (.slice F4 8 CQ) 8 (nX.map B8) 5 1::(mK p26++([]))) from E.lu (T:=[]) 1 hm rfl),?_⟩
 refine (JU AL p26.cells) fun LW Gv=>(JK (h:=by exact fun E=>q4n (some ⟨Gv,0,none⟩) 1 p26 aaK aaL B _ (hL.mem E hB) (E.le hB) (E.aN (i:=0) (n:=1) (size:=9) rfl rfl) (zct yH (E.paD 2 rfl)) de)) fun uS c28 UL hc28=>fun a Z E=>?_
 replace hc28:39≤c28:=hc28
 refine Jb Z E ((Jp 1∘Jx∘Jx∘Jp 2∘Jq) fun a Z E=>?_)
 replace E:Mem w _ [.row (.slice uS 39 c28) 39 (cO.map B8) 5 1,.blk Gv p26.cells 53,.row (.slice F4 8 CQ) 8 (nX.map B8) 5 1]:=E.uW (List.sublist_append_left _ _)
 refine Jb Z E ((JG∘JP∘Jp 1∘JK (h:=by exact fun E=>q4o uS c28 B _ (hL.mem E hB) (E.le hB) (E.rd (i:=0) rfl) hc28)) fun Lc Dy SV xW=>(Jp 1∘Jx∘Jx∘Jp 2∘Jr∘Jp 1∘JI (h:=by exact fun E=>qwc uS c28 B _ (hL.mem E hB) (E.le hB) (E.rd (i:=1) rfl) hc28 (by unfold bP;decide) Rq.1)) fun Wj hbw=>(Jp 1∘Jx∘Jx∘Jp 2∘Jr∘Jp 1∘JI (h:=by exact fun E=>qwc uS c28 B _ (hL.mem E hB) (E.le hB) (E.rd (i:=1) rfl) hc28 (by unfold bP;decide) Rq.2.1)) fun Hw hbw=>(Jp 1∘Jx∘Jx∘Jp 2∘aF∘Jr∘Jp 1∘JL (h:=by exact fun E=>q4p uS c28 B _ (hL.mem E hB) (E.le hB) (E.rd (i:=1) rfl) hc28)) ?_)
 rintro E _ WK ⟨z,gl,cl,hx,rfl,hxb,hm⟩
 refine ⟨_,rfl,_,E.join hm,?_⟩
 refine (Jp 1∘Jx∘Jx∘JA #[vI 0,vI 0,vQ 0,vN,vN,vN,vN,vN,vN]) fun wN g11=>(JV bS bg) fun avu=>(Jp 1∘Jr∘Jp 1∘JL (h:=by exact fun E=>q4q uS c28 B _ (hL.mem E hB) (E.le hB) (E.rd (i:=3) rfl) hc28)) ?_
 rintro E _ w53 ⟨y,rfl,hbw⟩
 refine ⟨_,rfl,_,E.call hbw,?_⟩
 refine (Jp 1∘Jx∘Jx∘JA #[vI 0,vI 0,vQ 0,vN,vN,vN,vN,vN,vN]) fun wP g13=>(JV bS bg (h1:=by exact FY y)) fun avv=>(Jp 1∘aF∘Jj∘JQ∘JP∘Jv 20 [(75,.slice F4 8 CQ),(74,.bool false)]∘Jl∘Jv 4 [(80,.slice F4 8 CQ),(79,.bool false)]∘Jy (h:=by exact Yl.zG aL (j:=4) rfl rfl rfl om)∘Jy (h:=by exact Yl.str rfl rfl (fun _ h=>zcy (h.rd (i:=6) rfl) rfl))∘Jp 3) (Ju (fun KL=>?_) fun KL=>?_)
 ·
  intro a Z E
  rw [show ((jo [113,97,1,0]).toList==(ByteArray.mk #[113,97,1,0]).toList)=true from qy7 [113,97,1,0]] at KL;cases KL
 refine (Jp 1∘Jl∘Jv 4 [(91,.slice uS 39 c28),(90,.bool false)]∘Jy (h:=by exact Yl.zG aL (j:=7) rfl rfl rfl om)∘Jy (h:=by exact Yl.str rfl rfl (fun _ h=>zcx (h.rd (i:=4) rfl) rfl))∘Jp 3) (Ju (fun KM=>?_) fun KM=>?_)
 ·
  intro a Z E
  rw [show ((jo [113,97,1,1,1,15,13]).toList==(ByteArray.mk #[113,97,1,1,1,15,13]).toList)=true from qy7 [113,97,1,1,1,15,13]] at KM;cases KM
 refine (Jp 1∘Jl∘Jv 4 [(102,.slice Lc 1 Dy),(101,.bool false)]) ?_
 repeat (first|clear Z|clear E)
 intro a Z E
 obtain ⟨CB,rfl⟩:=Dq (E.own (i:=3) rfl) (Nat.lt_of_le_of_lt (Nat.zero_le _) (show 0<1 from by omega))
 refine Jb Z E ((Jy (v:=vP CB 0) (h:=by exact Yl.indexAddr (ad:=⟨CB,0,none⟩) (y:=0) (sz:=4) rfl rfl rfl om kr)∘Jy (v:= .agg ((⟨1,11,26,39⟩:Pl).cells)) (h:=by exact Yl.qf rfl rfl wX rfl (fun _ h=>h.VR y8 (i:=3) rfl ((show [(⟨1,11,26,39⟩:Pl)][0]?=some _ from rfl))))∘Jy (v:= .agg #[vI 1,vI 11,vI 26,vI 39]) (h:=by exact Yl.build (vs:=[(0,vI 1),(1,vI 11),(2,vI 26),(3,vI 39)]) rfl kr kr)∘Jy (v:= .bool false) (h:=by exact Yl.MU (b:=true) rfl rfl rfl Ru)∘Jv 6 [(112,.bool false)]∘Jf 0∘Jg 0 O1∘Jv 3 [(118,.bool false)]∘Jg 8 O1∘Jl∘Jv 3 [(124,.bool false)]∘Jg 8 O1∘Jy (v:=vP gl 0) (h:=by exact Yl.indexAddr (ad:=⟨gl,0,none⟩) (y:=0) (sz:=5) rfl rfl rfl om kr)∘Jf 3∘Jy (v:=vI hx.b.next) (h:=by exact Yl.qj rfl rfl kr (fun _ h=>h.KV qc5 (i:=2) rfl (k:=0) (off:=3) (x:=hx) ((show [hx][0]?=some _ from rfl)) rfl))∘Jo (vI 7) (by rw [hxb];try rfl)∘Jv 2 [(131,.bool false)]∘aF∘Jq) fun a Z E=>?_)
 replace Z:=Z.to [(131,.bool false),(11,vP g11 0),(3,.slice uS 39 c28),(0,.bool false)]
 refine Jb Z E ((JG∘JF∘aG∘JP∘JL (h:=by exact fun E=>Ml 1 (by unfold bP;decide) _)) ?_)
 rintro E _ aaM ⟨bU,rfl,RB,RD,RF,hm⟩
 refine ⟨_,rfl,_,(show Mem w aaM (.blk g13 y.cells 53:: .blk g11 #[vI 1,vI z.aB,vQ z.ak,.slice z.gA z.gs.length z.gc,.slice z.lA z.cl.length z.lc,.slice z.uA z.cu.length z.uc,.slice z.tA z.ts.length z.tc,.slice z.sA z.rs.length z.sc,vS gl 1 cl] 53:: .row (vS gl 1 cl) 1 ([hx].flatMap hbL) 85 5:: .row (vS CB 1 Dy) 1 ([(⟨1,11,26,39⟩:Pl)].flatMap kX) 57 4:: .row (.slice uS 39 c28) 39 (cO.map B8) 5 1:: .blk Gv p26.cells 53:: .row (.slice F4 8 CQ) 8 (nX.map B8) 5 1::(mK bU++([]))) from E.lu (T:=[]) 7 hm rfl),?_⟩
 refine (JL (h:=by exact fun E=>Ml 0 (by unfold bP;decide) _)) ?_
 rintro E _ aaN ⟨dn,rfl,RG,RH,RI,hm⟩
 refine ⟨_,rfl,_,(show Mem w aaN (.blk g13 y.cells 53:: .blk g11 #[vI 1,vI z.aB,vQ z.ak,.slice z.gA z.gs.length z.gc,.slice z.lA z.cl.length z.lc,.slice z.uA z.cu.length z.uc,.slice z.tA z.ts.length z.tc,.slice z.sA z.rs.length z.sc,vS gl 1 cl] 53:: .row (vS gl 1 cl) 1 ([hx].flatMap hbL) 85 5:: .row (vS CB 1 Dy) 1 ([(⟨1,11,26,39⟩:Pl)].flatMap kX) 57 4:: .row (.slice uS 39 c28) 39 (cO.map B8) 5 1:: .blk Gv p26.cells 53:: .row (.slice F4 8 CQ) 8 (nX.map B8) 5 1::(mK dn++(mK bU++([])))) from E.lu (T:=mK bU++([])) 7 hm rfl),?_⟩
 refine (JU AL #[vI bU.z.next,vI bU.z.st.aB,vQ bU.z.st.ak,.slice bU.z.st.gA bU.z.st.gs.length bU.z.st.gc,.slice bU.z.st.lA bU.z.st.cl.length bU.z.st.lc,.slice bU.z.st.uA bU.z.st.cu.length bU.z.st.uc,.slice bU.z.st.tA bU.z.st.ts.length bU.z.st.tc,.slice bU.z.st.sA bU.z.st.rs.length bU.z.st.sc,.slice bU.A bU.q.length bU.c,vI dn.z.next,vI dn.z.st.aB,vQ dn.z.st.ak,.slice dn.z.st.gA dn.z.st.gs.length dn.z.st.gc,.slice dn.z.st.lA dn.z.st.cl.length dn.z.st.lc,.slice dn.z.st.uA dn.z.st.cu.length dn.z.st.uc,.slice dn.z.st.tA dn.z.st.ts.length dn.z.st.tc,.slice dn.z.st.sA dn.z.st.rs.length dn.z.st.sc,.slice dn.A dn.q.length dn.c]) fun avw RJ=>(JI (h:=by exact fun E=>qyb (some ⟨RJ,0,none⟩) 2 bU dn RB RD RG RH B _ (hL.mem E hB) (E.le hB) (E.aN (i:=0) (n:=2) (size:=9) rfl rfl) (zcu RF (E.Rp 8 rfl) RI (E.paD 8 rfl)) de)) fun avx hbw=>(Jp 1∘Jx∘Jx∘Jp 2∘Jq) fun a Z E=>?_
 replace E:Mem w _ [.blk RJ #[vI bU.z.next,vI bU.z.st.aB,vQ bU.z.st.ak,.slice bU.z.st.gA bU.z.st.gs.length bU.z.st.gc,.slice bU.z.st.lA bU.z.st.cl.length bU.z.st.lc,.slice bU.z.st.uA bU.z.st.cu.length bU.z.st.uc,.slice bU.z.st.tA bU.z.st.ts.length bU.z.st.tc,.slice bU.z.st.sA bU.z.st.rs.length bU.z.st.sc,.slice bU.A bU.q.length bU.c,vI dn.z.next,vI dn.z.st.aB,vQ dn.z.st.ak,.slice dn.z.st.gA dn.z.st.gs.length dn.z.st.gc,.slice dn.z.st.lA dn.z.st.cl.length dn.z.st.lc,.slice dn.z.st.uA dn.z.st.cu.length dn.z.st.uc,.slice dn.z.st.tA dn.z.st.ts.length dn.z.st.tc,.slice dn.z.st.sA dn.z.st.rs.length dn.z.st.sc,.slice dn.A dn.q.length dn.c] 53,.blk g13 y.cells 53,.blk g11 #[vI 1,vI z.aB,vQ z.ak,.slice z.gA z.gs.length z.gc,.slice z.lA z.cl.length z.lc,.slice z.uA z.cu.length z.uc,.slice z.tA z.ts.length z.tc,.slice z.sA z.rs.length z.sc,vS gl 1 cl] 53,.row (vS gl 1 cl) 1 ([hx].flatMap hbL) 85 5,.row (vS CB 1 Dy) 1 ([(⟨1,11,26,39⟩:Pl)].flatMap kX) 57 4,.row (.slice uS 39 c28) 39 (cO.map B8) 5 1,.blk Gv p26.cells 53,.row (.slice F4 8 CQ) 8 (nX.map B8) 5 1]:=E.uW (List.sublist_append_left _ _)
 replace E:=E.pk [5]
 refine Jb Z E ((JG∘JP∘JL (h:=by exact fun E=>Ml 1 (by unfold bP;decide) _)) ?_)
 rintro E _ aaO ⟨bO,rfl,RL,RN,RO,hm⟩
 refine ⟨_,rfl,_,(show Mem w aaO (.row (.slice uS 39 c28) 39 (cO.map B8) 5 1::(mK bO++([]))) from E.lu (T:=[]) 1 hm rfl),?_⟩
 refine (JL (h:=by exact fun E=>Ml 5 (by unfold bP;decide) _)) ?_
 rintro E _ aaP ⟨bV,rfl,RP,RQ,RS,hm⟩
 refine ⟨_,rfl,_,(show Mem w aaP (.row (.slice uS 39 c28) 39 (cO.map B8) 5 1::(mK bV++(mK bO++([])))) from E.lu (T:=mK bO++([])) 1 hm rfl),?_⟩
 refine (JL (h:=by exact fun E=>Ml 4 (by unfold bP;decide) _)) ?_
 rintro E _ aaQ ⟨dw,rfl,RU,RV,RX,hm⟩
 refine ⟨_,rfl,_,(show Mem w aaQ (.row (.slice uS 39 c28) 39 (cO.map B8) 5 1::(mK dw++(mK bV++(mK bO++([]))))) from E.lu (T:=mK bV++(mK bO++([]))) 1 hm rfl),?_⟩
 refine (JU AL #[vI bO.z.next,vI bO.z.st.aB,vQ bO.z.st.ak,.slice bO.z.st.gA bO.z.st.gs.length bO.z.st.gc,.slice bO.z.st.lA bO.z.st.cl.length bO.z.st.lc,.slice bO.z.st.uA bO.z.st.cu.length bO.z.st.uc,.slice bO.z.st.tA bO.z.st.ts.length bO.z.st.tc,.slice bO.z.st.sA bO.z.st.rs.length bO.z.st.sc,.slice bO.A bO.q.length bO.c,vI bV.z.next,vI bV.z.st.aB,vQ bV.z.st.ak,.slice bV.z.st.gA bV.z.st.gs.length bV.z.st.gc,.slice bV.z.st.lA bV.z.st.cl.length bV.z.st.lc,.slice bV.z.st.uA bV.z.st.cu.length bV.z.st.uc,.slice bV.z.st.tA bV.z.st.ts.length bV.z.st.tc,.slice bV.z.st.sA bV.z.st.rs.length bV.z.st.sc,.slice bV.A bV.q.length bV.c,vI dw.z.next,vI dw.z.st.aB,vQ dw.z.st.ak,.slice dw.z.st.gA dw.z.st.gs.length dw.z.st.gc,.slice dw.z.st.lA dw.z.st.cl.length dw.z.st.lc,.slice dw.z.st.uA dw.z.st.cu.length dw.z.st.uc,.slice dw.z.st.tA dw.z.st.ts.length dw.z.st.tc,.slice dw.z.st.sA dw.z.st.rs.length dw.z.st.sc,.slice dw.A dw.q.length dw.c]) fun avy RY=>(JI (h:=by exact fun E=>qrd (some ⟨RY,0,none⟩) 3 bO bV dw RL RN RP RQ RU RV B _ (hL.mem E hB) (E.le hB) (E.aN (i:=0) (n:=3) (size:=9) rfl rfl) (zcv RO (E.aaB 2 rfl) RS (E.Rp 2 rfl) RX (E.paD 2 rfl)) de)) fun avz hbw=>(Jp 1∘Jx∘Jx∘Jp 2∘Jq) fun a Z E=>?_
 replace E:Mem w _ [.blk RY #[vI bO.z.next,vI bO.z.st.aB,vQ bO.z.st.ak,.slice bO.z.st.gA bO.z.st.gs.length bO.z.st.gc,.slice bO.z.st.lA bO.z.st.cl.length bO.z.st.lc,.slice bO.z.st.uA bO.z.st.cu.length bO.z.st.uc,.slice bO.z.st.tA bO.z.st.ts.length bO.z.st.tc,.slice bO.z.st.sA bO.z.st.rs.length bO.z.st.sc,.slice bO.A bO.q.length bO.c,vI bV.z.next,vI bV.z.st.aB,vQ bV.z.st.ak,.slice bV.z.st.gA bV.z.st.gs.length bV.z.st.gc,.slice bV.z.st.lA bV.z.st.cl.length bV.z.st.lc,.slice bV.z.st.uA bV.z.st.cu.length bV.z.st.uc,.slice bV.z.st.tA bV.z.st.ts.length bV.z.st.tc,.slice bV.z.st.sA bV.z.st.rs.length bV.z.st.sc,.slice bV.A bV.q.length bV.c,vI dw.z.next,vI dw.z.st.aB,vQ dw.z.st.ak,.slice dw.z.st.gA dw.z.st.gs.length dw.z.st.gc,.slice dw.z.st.lA dw.z.st.cl.length dw.z.st.lc,.slice dw.z.st.uA dw.z.st.cu.length dw.z.st.uc,.slice dw.z.st.tA dw.z.st.ts.length dw.z.st.tc,.slice dw.z.st.sA dw.z.st.rs.length dw.z.st.sc,.slice dw.A dw.q.length dw.c] 53,.row (.slice uS 39 c28) 39 (cO.map B8) 5 1]:=E.uW (List.sublist_append_left _ _)
 replace E:=E.pk [1]
 refine Jb Z E ((JG∘JP∘Jp 1∘JU aL #[vB 0]) fun avA avB=>(JD ([0].map B8) 1 (fun _ _=>gQ) aL (hr:=by exact fun E=>E.aN (i:=0) (n:=1) (size:=1) rfl rfl) (h1:=by decide)) fun avC aaR aaS hc150=>(JL (h:=by exact fun E=>qyc aaR aaS B _ (hL.mem E hB) (E.le hB) (E.rd (i:=1) rfl) hc150)) ?_)
 rintro E _ avD ⟨⟨avE,avF,rfl,_,_⟩,hbw⟩
 refine ⟨_,rfl,_,E.call hbw,?_⟩
 exact (Jp 1∘Jx∘Jx∘Jp 2∘aF∘Jr∘Jv 19 [(0,.bool true)]∘aF∘Jj∘JZ) uI
def Zm (p:Pm):List Fact:=kE p.z.st++(.row (.slice p.A p.q.length p.c) p.q.length (p.q.flatMap hbL) 80 5::iB 242 p.q)
def iK (l:List Pm):List Fact:=l.flatMap Zm
structure yG (p:Pm):Prop where
 ok:p.z.st.aD.Ok
 few:aX p.z.st
 nx:bP p.z.next
 LU:∀h∈p.q,h.b.Ok
 FW:∀h∈p.q,h.b.evs.length≤1000000
 len:p.q.length≤1000000
section
variable {W w:World} {F T:List Fact} {p:Pm} {l:List Pm}
theorem Mem.Zn (h:Mem W w F) (hs:∀f∈Zm p,f∈F):dQ w p:=
 ⟨h.DY fun f hf=>hs f (List.mem_append_left _ hf),h.Du (hs _ (List.mem_append_right _ (List.mem_cons_self ..))),h.Ny fun f hf=>hs f (List.mem_append_right _ (List.mem_cons_of_mem _ hf))⟩
theorem Mem.BD (h:Mem W w F) (hs:∀f∈iK l,f∈F):∀p∈l,dQ w p:=fun p hp=>h.Zn fun f hf=>hs f (List.mem_flatMap.2 ⟨p,hp,hf⟩)
theorem q29:iK (l++[p])=iK l++Zm p:=by unfold iK;rw [List.flatMap_append];simp
end
theorem Zo:SI Tryz.prog 182 9:=⟨by kernel_rfl,by kernel_rfl⟩
theorem q9n:EI Tryz.prog 91 182 (.agg #[.int .i64 0,.int .i64 0,.int .u64 0,.slice none 0 0,.slice none 0 0,.slice none 0 0,.slice none 0 0,.slice none 0 0,.slice none 0 0]) 9 168:=⟨by kernel_rfl,by kernel_rfl,rfl,by omega⟩
def iZ (l:List Pm) (i:Nat):List Nat:=[113,97,1]++(bG l i).flatMap aj
def iL (l:List Pm) (i:Nat):List Nat:=(l.take i).flatMap fun p=>bT p.z++(zh (p.q.map Hb.b)).1
section
variable {l:List Pm} {i k:Nat} {x:Pm} {wb:List Nat} {we:Nat} {ci:Int}
theorem qqw:iZ l 0=[113,97,1]++aj l.length:=by
 unfold iZ bG
 rw [List.take_zero,List.flatMap_nil,List.flatMap_cons,List.flatMap_nil,List.append_nil]
theorem q3b (hi:i<l.length) (hx:l.getD i Pm.zero=x) (hw:zh (x.q.map Hb.b)=(wb,we)):iZ l (i+1)=iZ l i++[ay x.z.next,(bT x.z).length,wb.length].flatMap aj:=by
 unfold iZ
 rw [ql7 hi hx hw,List.flatMap_append,List.append_assoc]
theorem qvt (h:i≤l.length):(iZ l i).length≤20+40*i:=by
 unfold iZ
 have h1:=LV i h
 have h2:=q6 (bG l i)
 rw [List.length_append]
 have h9:([113,97,1]:List Nat).length=3:=rfl
 omega
theorem qqx (hi:i<l.length) (hx:l.getD i Pm.zero=x) (hw:zh (x.q.map Hb.b)=(wb,we)):iL l (i+1)=iL l i++bT x.z++wb:=by
 unfold iL
 rw [Lj Pm.zero hi,List.flatMap_append,hx,List.flatMap_cons,hw,List.flatMap_nil,List.append_nil,List.append_assoc]
theorem Zp {lv:List Pv} (h:(stA lv i).2=true):∀n,(stA lv (i+n)).2=true
 |0=>h
 |n+1=>by
  have h1:(stA lv (i+n)).2=true:=Zp h n
  show (qI (stA lv (i+n)) _).2=true
  unfold qI
  rw [h1,Bool.true_or,Bool.true_or]
  rfl
theorem Zq:∀{i:Nat},i≤l.length→(∀j,j<i→(zh ((l.getD j Pm.zero).q.map Hb.b)).2=0)→stA (l.map Pm.v) i=(iL l i,false)∨((stA (l.map Pm.v) i).2=true∧16777216<(iL l i).length)
 |0,_,_=> .inl rfl
 | i + 1, hi, hu => by
  obtain ⟨x,hx⟩:∃x,l.getD i Pm.zero=x:=⟨_,rfl⟩
  obtain ⟨wb,we,hw⟩:∃wb we,zh (x.q.map Hb.b)=(wb,we):=⟨_,_,rfl⟩
  have h0:=hu i (Nat.lt_succ_self i)
  rw [hx,hw] at h0
  have h0:we=0:=h0
  have hd:=qqx (l:=l) hi hx hw
  have hl:(iL l (i+1)).length=(iL l i).length+(bT x.z).length+wb.length:=by rw [hd,List.length_append,List.length_append]
  rcases Zq (Nat.le_of_succ_le hi) (fun j hj=>hu j (Nat.lt_succ_of_lt hj)) with h|⟨h1,h2⟩
  ·by_cases hc:16777216<(iL l i).length+(bT x.z).length+wb.length
   ·exact .inr ⟨by rw [OZ hi hx h hw (.inr (.inr hc))],by omega⟩
   ·refine .inl ?_
    rw [q9f hi hx h hw (by rintro (h|h|h)<;>first|(cases h;done)|exact h h0|exact hc h),hd]
  ·exact .inr ⟨Zp h1 1,by omega⟩
theorem q7q (h:nH (l.map Pm.v)=(ci,0)) (hi:i<l.length) (hx:l.getD i Pm.zero=x) (hw:zh (x.q.map Hb.b)=(wb,we)) (he:we≠0):nI (l.map Pm.v)=([],3):=by
 have h1:(stA (l.map Pm.v) (i+1)).2=true:=by rw [OZ hi hx rfl hw (.inr (.inl he))]
 have h2:=Zp h1 (l.length- (i+1))
 rw [Nat.add_sub_cancel' hi] at h2
 exact Ug h rfl rfl (.inl (by rw [List.length_map];exact h2))
theorem q3c (h:nH (l.map Pm.v)=(ci,0)) (hu:∀j,j<l.length→(zh ((l.getD j Pm.zero).q.map Hb.b)).2=0) (hn:16777216<(headA (l.map Pm.v)).length+(iL l l.length).length):nI (l.map Pm.v)=([],3):=by
 refine Ug h rfl rfl ?_
 rw [List.length_map]
 rcases Zq (Nat.le_refl _) hu with h1|⟨h1,_⟩
 ·rw [h1];exact .inr hn
 ·exact .inl h1
theorem zb9 (h:nH (l.map Pm.v)=(ci,0)) (hu:∀j,j<l.length→(zh ((l.getD j Pm.zero).q.map Hb.b)).2=0) (hn:¬16777216<(headA (l.map Pm.v)).length+(iL l l.length).length):nI (l.map Pm.v)=(headA (l.map Pm.v)++iL l l.length,0):=by
 rcases Zq (Nat.le_refl _) hu with h1|⟨_,h1⟩
 ·exact qqe h rfl (by rw [List.length_map];exact h1) (by rintro (h|h)<;>first|(cases h;done)|exact hn h)
 ·omega
theorem q3d (hu:∀j,j<i→(zh ((l.getD j Pm.zero).q.map Hb.b)).2=0) (hx:l.getD i Pm.zero=x) (hw:zh (x.q.map Hb.b)=(wb,we)) (h:we=0):∀j,j<i+1→(zh ((l.getD j Pm.zero).q.map Hb.b)).2=0:=fun j hj=>by
 rcases Nat.lt_or_ge j i with h1|h1
 ·exact hu j h1
 ·obtain rfl:j=i:=by omega
  rw [hx,hw]
  exact h
end
theorem qn6 {q:List Hb} {k:Nat} (h:k<q.length):(q.take (k+1)).map Hb.b=(q.take k).map Hb.b++[(q.getD k Hb.zero).b]:=by rw [Lj Hb.zero h,List.map_append];rfl
theorem q3e {q q2:List Hb} {p:Bk→Prop} (hqq:q.map Hb.b=q2.map Hb.b) (h:∀x∈q,p x.b):∀x∈q2,p x.b:=fun x hx=>by
 have h1:x.b∈q.map Hb.b:=by rw [hqq];exact List.mem_map_of_mem hx
 obtain ⟨y,hy,e⟩:=List.mem_map.1 h1
 rw [←e];exact h y hy
def BF (l m:List Pm):Prop:=m.length=l.length∧∀j,j<l.length→ug (l.getD j Pm.zero).v (m.getD j Pm.zero).v
theorem q9o:∀{l m:List Pm},BF l m→jO (l.map Pm.v) (m.map Pm.v)
 |[],[],_=> .nil
 |[],y::m,h=>by cases h.1
 |x::l,[],h=>by cases h.1
 |x::l,y::m,h=> .cons (h.2 0 (Nat.succ_pos _)) (q9o ⟨Nat.succ.inj h.1,fun j hj=>h.2 (j+1) (Nat.succ_lt_succ hj)⟩)
theorem Ql {p y:Pm} (hp:fH p) (h:ug p.v y.v):yG y:=by
 have hb:p.q.map Hb.b=y.q.map Hb.b:=h.2
 have hl:p.q.length=y.q.length:=by have:=congrArg List.length hb;rwa [List.length_map,List.length_map] at this
 refine ⟨Yt h.1 hp.ok,Oh (CX h.1) hp.few,by show bP y.z.next;rw [←show p.z.next=y.z.next from h.1.1];exact hp.nx,q3e (p:=fun b=>b.Ok) hb hp.LU,q3e (p:=fun b=>b.evs.length≤1000000) hb hp.FW,by rw [←hl];exact hp.len⟩
theorem zev {l m:List Pm} (hp:∀p∈l,fH p) (h:BF l m):∀y∈m,yG y:=fun y hy=>by
 obtain ⟨j,hj,rfl⟩:=List.getElem_of_mem hy
 have hj2:j<l.length:=by rw [←h.1];exact hj
 have h1:=h.2 j hj2
 rw [List.getD_eq_getElem?_getD (l:=m),List.getElem?_eq_getElem hj] at h1
 exact Ql (hp _ (qi Pm.zero hj2)) h1
def xC (l m:List Pm) (i:Nat):Prop:=m.length=i∧∀j,j<i→ug (l.getD j Pm.zero).v (m.getD j Pm.zero).v
theorem q7r {l:List Pm}:xC l [] 0:=⟨rfl,fun j h=>absurd h (Nat.not_lt_zero j)⟩
theorem zew {l m:List Pm} {i:Nat} {x y:Pm} (h:xC l m i) (hx:l.getD i Pm.zero=x) (hz:bM x.z y.z) (hq:y.q.map Hb.b=x.q.map Hb.b):xC l (m++[y]) (i+1):=by
 refine ⟨by rw [List.length_append,h.1];rfl,fun j hj=>?_⟩
 rw [List.getD_eq_getElem?_getD (l:=m++[y])]
 rcases Nat.lt_or_ge j i with h1|h1
 ·rw [List.getElem?_append_left (by rw [h.1];exact h1),←List.getD_eq_getElem?_getD]
  exact h.2 j h1
 ·obtain rfl:j=i:=by omega
  rw [List.getElem?_append_right (by rw [h.1];exact Nat.le_refl _),h.1,Nat.sub_self,hx]
  exact ⟨hz,hq.symm⟩
section
variable {W w:World} {a:List Fact} {l q:List Pm} {z:bH} {A:Option Addr} {c:Nat} {b:List Hb}
theorem Mem.Zr (h:Mem W w (.row (.slice A b.length c) b.length (b.flatMap hbL) 80 5::(a++(iB 242 b++(iK l++kE z.st))))):Mem W w (a++iK (l++[⟨z,A,c,b⟩])):=by
 rw [q29]
 refine h.perm (List.perm_middle.symm.trans (List.Perm.append_left a ?_))
 have h1:=List.perm_append_comm (l₁:=Fact.row (.slice A b.length c) b.length (b.flatMap hbL) 80 5::iB 242 b) (l₂:=iK l++kE z.st)
 rw [List.append_assoc (iK l)] at h1
 exact h1
def zex (w:World) (l:List Pm) (r:Ending) (w':World):Prop:=∃(A:Option Addr) (c:Nat) (q:List Pm),r= .returned (.slice A q.length c)∧BF l q∧q.length≤c∧Mem w w' (.row (.slice A q.length c) q.length (q.flatMap jM) 182 9::iK q)
end
theorem qtb (b:Bs) (A:Option Addr) (n c:Nat) (l:List Ev) (hok:∀e∈l,e.Ok) (w:World) (hr:Rd w w.heap.size 11 A n (l.flatMap eF)) (hn:n≤1000000000) (hn47:n≤140737488355328) (hln:l.length=n):
    Calls Tryz.prog 130 #[.agg b.cells,.slice A n c] w (qx w (q8 b l) (zu b l)):=by
 refine (jw Tryz.func130 56) ?_
 refine (JP∘JE) fun w2 g2=>(Jp 2∘Jj∘JQ∘JP∘Jp 1∘JL (h:=by exact fun E=>ZH _ _ _ l hok _ (E.old hr) hn47 hln)) ?_
 rintro E _ Fj ⟨rfl,hbw⟩
 refine ⟨_,rfl,_,E.call hbw,?_⟩
 refine (Jp 1∘Jx∘Jx∘Jp 2∘aF∘Jr∘Jp 2∘aQ∘Jj) (Ju (fun fQ=>?_) fun fQ=>?_)
 ·
  intro a Z E
  have hr0:(eu l).2≠0:=by rw [bne_iff_ne] at fQ;omega
  exact Jb Z E ((JT∘JP∘Jp 3∘Jj∘JZ∘bW) fun E=>Zh (qqq hr0) (hr0) E.below)
 intro a Z E
 have hr0:(eu l).2=0:=by rw [bne_eq_false_iff_eq] at fQ;omega
 refine Jb Z E ((JF∘aG∘JQ∘JP∘Jy (v:= .agg b.cells) (h:=by exact Yl.qf rfl rfl ⟨kr,kr⟩ rfl (fun _ h=>qb (h.blk (i:=0) rfl)))∘JL (h:=by exact fun E=>qke b _)) ?_)
 rintro E _ Pw ⟨rfl,hbw⟩
 refine ⟨_,rfl,_,E.call hbw,?_⟩
 refine (Jp 1∘aT∘Jj) (Ju (fun jD=>?_) fun jD=>?_)
 ·
  intro a Z E
  have hrf:¬b.right=true:=by simpa using jD
  exact Jb Z E ((JT∘JP∘Jp 2∘Jj∘JZ∘bW) fun E=>Zh (qn3 hr0 hrf) de E.below)
 intro a Z E
 have hrt:b.right=true:=by simpa using jD
 refine Jb Z E ((JF∘aG∘JP∘Jp 1∘Jq) fun a Z E=>?_)
 replace E:=E.nil 5 1
 refine Jb Z E ((JG∘JQ∘JP∘Jp 1∘Jj∘JB) fun a Z E=>?_)
 refine qc (fun mS aS wS=>∃(k:Nat) (bk:Bs) (Ak:Option Addr) (ck:Nat),(k≤n)∧(WriteAt b l k bk)∧((p9 b l k).length≤ck)∧mS=n-k∧Fr aS 56 [] [(9,vI k),(8,.slice Ak ((p9 b l k).length) ck),(22,.bool false),(18,.bool false),(7,vI ((eu l).2)),(5,vI 0),(4,vN),(2,vP g2 0),(1,.slice A n c)]∧Mem w wS [.row (.slice Ak ((p9 b l k).length) ck) ((p9 b l k).length) ((p9 b l k).map B8) 5 1,.blk g2 bk.cells 249]) (m:=n-0) ⟨0,b,none,0,Nat.zero_le _,WriteAt.start b l,Nat.le_refl _,rfl,Z.sub kr,E.pk [0,1]⟩ ?_
 clear Z E;rintro mS a w_ ⟨k,bk,Ak,ck,hk,hat,hck,rfl,Z,E⟩
 refine Jb Z E ((JQ∘JP∘Jp 2∘Jl∘Jp 1∘bQ∘Jj) (Ju (fun kR=>?_) fun kR=>?_))
 ·
  intro a Z E
  have yH:k<n:=by simp at kR;omega
  obtain ⟨e,hke⟩:∃e,l[k]?=some e:=⟨_,List.getElem?_eq_getElem om⟩
  have hpl:=q23 bk e
  have hwl:=qs1 b l k
  refine Jb Z E ((JT∘aG∘JQ∘JB) fun a Z E=>?_)
  refine wp_seq ?_
  refine Jb Z E ((Vs .n []) fun Px=>(Vp [1,2]∘Vy 0 (v:= .agg bk.cells) (h:=by exact Yl.qf rfl rfl ⟨kr,kr⟩ rfl (fun _ h=>qb (h.blk (i:=1) rfl)))) ?_)
  repeat (first|clear Z|clear E|clear HS)
  intro a Z E HS
  obtain ⟨gA,oA,rfl,_⟩:=hr.qd (Nat.lt_of_le_of_lt (Nat.zero_le _) (show k<n from yH)) de
  refine Vb Z E HS ((Vy 3 (h:=by exact Yl.ix gA oA k 11 rfl rfl rfl (yH))∘Vy 4 (v:= .agg e.cells) (h:=by exact Yl.qf rfl rfl ⟨kr,kr⟩ rfl (fun _ h=>(h.old hr).qm zf (hke)))∘VK 5 .n (h:=by exact fun E=>q3q bk e (hok e (List.mem_of_getElem? hke)) _)) fun F6 F7 PL yx=>(Vp [6]∘Vx 7∘Vx 8∘Vp [9,10]∘Vd∘JQ∘JP∘Jp 2∘aQ∘Jj) (Ju (fun nP=>?_) fun nP=>?_))
  ·
   intro a Z E
   have hpe:q9 bk e≠0:=by rw [bne_iff_ne] at nP;omega
   have ZN:k=0:=hat.bad hr0 hrt hke hpe
   have hend:=hat.fail hr0 hrt hke ZN hpe
   exact Jb Z E ((JT∘JP∘Jp 3∘Jj∘JZ∘bW) fun E=>Zh (hend) (hpe) E.below)
  intro a Z E
  have hpe:q9 bk e=0:=by rw [bne_eq_false_iff_eq] at nP;omega
  have hup:=hat.up hke hpe
  have hnx:=hat.next hke hpe
  refine Jb Z E ((JF∘aG∘JP∘Jp 2∘JD ((pI bk e).map B8) 1 (fun _ _=>gQ) aL (hr:=by exact fun E=>E.rd (i:=0) rfl) (h1:=by exact mH _)) fun Hw UG UH BK=>(Jp 1∘bQ∘Jq) fun a Z E=>?_)
  have oQ:((p9 b l k).length)+((pI bk e).length)=(p9 b l (k+1)).length:=by rw [hup];simp
  replace E:=E.aI (i:=1) (ys:=(p9 b l (k+1)).map B8) rfl oQ (by rw [hup];simp)
  rw [oQ] at BK
  replace Z:=Z.sp 8 (.slice UG ((p9 b l (k+1)).length) UH) rfl (by rw [oQ])
  refine Jb Z E ((JG∘Vs .n [11]) fun IU=>(Vp [0,1,5,6]∘Vy 2 (h:=by exact Yl.ix gA oA k 11 rfl rfl rfl (yH))∘Vf 3 0∘Vy 4 (v:=vI e.seq) (h:=by exact Yl.qj rfl rfl kr (fun _ h=>(by have:=(h.old hr).partAt zf (k:=k) (j:=0) (x:=e) (hke) rfl;simpa using this)))∘Vy 7 (h:=by exact Yl.ix gA oA k 11 rfl rfl rfl (yH))∘Vf 8 1∘Vy 9 (v:=vI e.time) (h:=by exact Yl.qj rfl rfl kr (fun _ h=>(h.old hr).partAt zf (k:=k) (j:=1) (x:=e) (hke) rfl))∘Vy 10 (v:= .agg e.at.cells) (h:=by exact (Yl.build (vs:=[(0,vI e.seq),(1,vI e.time)]) rfl kr kr))) fun a Z E HS=>?_)
  refine s_on Z 11 rfl (iX Z E 2 rfl rfl rfl rfl rfl ⟨kr,kr⟩ rfl rfl (Vi e.at) ?_)
  clear E;intro I4 E
  refine lG kr ?_
  refine qg kr ?_
  refine Jb Z E ((JG∘JR∘Jp 2∘Jo (vI (k+1:Nat)) (by rw [IntWalk.i64_in _ om];simp)∘Jp 1∘aF∘Jq) fun a Z E=>?_)
  exact ⟨_,om,k+1,e.at,UG,UH,by omega,hnx,BK,rfl,Z.sub kr,E.pk [1,2]⟩
 repeat (first|clear Z|clear E)
 intro a Z E
 obtain rfl:n=k:=by simp at kR;omega
 exact Jb Z E ((JF∘JX∘JG∘JP∘Jp 3∘Jj∘JZ∘bW) fun E=>hat.done hr0 hrt hln (E.own (i:=0) rfl) hck E.below)
theorem qxt (b:Bk) (hok:b.Ok) (A:Option Addr) (c:Nat) (w:World) (hr:Rd w w.heap.size 11 A b.evs.length (b.evs.flatMap eF)) (hn:b.evs.length≤1000000):
    Calls Tryz.prog 129 #[.agg (b.cells A c)] w (Is w (.bool b.fits)):=by
 refine (bZ Tryz.func129 91) ?_
 refine (JP∘JE) fun w1 g1=>(Jp 1∘Jj∘JQ∘JP∘Jg 0 O0∘Jp 1∘aQ∘Jj) (Ju (fun kP=>?_) fun kP=>?_)
 ·
  intro a Z E
  have pQ:=eq_of_beq kP
  refine Jb Z E ((JT∘JP∘Jg 3 O0∘Jp 2) (Ji (fun iR=>?_) fun iR=>?_))
  ·
   refine (Jg 3 O0∘Jp 3) (Ji (fun iQ=>?_) fun iQ=>?_)
   ·
    refine (Jg 1 O0∘Jp 3) (Je (fun jf=>?_) fun jf=>?_)
    ·
     refine (Jg 2 O0∘Jp 3) (Je (fun hd27=>?_) fun hd27=>?_)
     ·
      exact (Jg 4 O0∘Jl∘Jp 3∘aF∘Jj∘JZ∘aH) fun E=>by exact ⟨congrArg (fun x=>Ending.returned (.bool x)) (by rw [NK om,Bool.eq_iff_iff,beq_iff_eq,decide_eq_true_eq];omega),E.below⟩
     exact (Jp 6∘aF∘Jj∘JZ∘aH) fun E=>by exact ⟨by rw [NK om,decide_eq_false om],E.below⟩
    exact (Jv 11 [(2,.bool false)]∘aF∘Jj∘JZ∘aH) fun E=>by exact ⟨by rw [NK om,decide_eq_false om],E.below⟩
   exact (Jv 16 [(2,.bool false)]∘aF∘Jj∘JZ∘aH) fun E=>by exact ⟨by rw [NK om,decide_eq_false om],E.below⟩
  exact (Jv 21 [(2,.bool false)]∘bQ∘Jj∘JZ∘aH) fun E=>by exact ⟨by rw [NK om,decide_eq_false om],E.below⟩
 intro a Z E
 have pQ:=ne_of_beq_false kP
 refine Jb Z E ((JF∘aG∘JQ∘JP∘Jg 0 O0∘Jp 2) (Jh (fun Ir=>?_) fun Ir=>?_))
 ·
  exact (Jv 30 [(66,.bool true)]∘bQ∘Jj∘JT∘JP∘Jp 1∘Jj∘JZ∘aH) fun E=>by exact ⟨by rw [Li om om],E.below⟩
 refine (Jg 1 O0∘Jp 3) (Ji (fun J3=>?_) fun J3=>?_)
 ·
  exact (Jv 25 [(66,.bool true)]∘aF∘Jj∘JT∘JP∘Jp 1∘Jj∘JZ∘aH) fun E=>by exact ⟨by rw [Li om om],E.below⟩
 refine (Jg 2 O0∘Jp 3) (Ji (fun BL=>?_) fun BL=>?_)
 ·
  exact (Jv 20 [(66,.bool true)]∘aF∘Jj∘JT∘JP∘Jp 1∘Jj∘JZ∘aH) fun E=>by exact ⟨by rw [Li om om],E.below⟩
 refine (Jg 2 O0∘Jp 3) (Ji (fun J4=>?_) fun J4=>?_)
 ·
  exact (Jv 15 [(66,.bool true)]∘aF∘Jj∘JT∘JP∘Jp 1∘Jj∘JZ∘aH) fun E=>by exact ⟨by rw [Li om om],E.below⟩
 refine (Jg 3 O0∘Jp 3) (Jh (fun J5=>?_) fun J5=>?_)
 ·
  exact (Jv 10 [(66,.bool true)]∘aF∘Jj∘JT∘JP∘Jp 1∘Jj∘JZ∘aH) fun E=>by exact ⟨by rw [Li om om],E.below⟩
 refine (Jg 2 O0∘Jp 2) (Je (fun Iy=>?_) fun Iy=>?_)
 ·
  refine (Jg 4 O0∘Jl∘Jp 3∘aF∘Jj) (Je (fun ZO=>?_) fun ZO=>?_)
  ·
   exact (JT∘JP∘Jp 1∘Jj∘JZ∘aH) fun E=>by exact ⟨by rw [Li om om],E.below⟩
  refine (JF∘aG∘JQ∘JP∘Jp 1∘Jj∘JB) fun a Z E=>?_
  refine qc (fun mS aS wS=>∃(k:Nat),(k≤b.evs.length)∧(∀i,i<k→(b.evs.getD i Ev.zero).cpu=b.cpu)∧mS=b.evs.length-k∧Fr aS 91 [] [(3,vI k),(66,.bool false),(8,.bool false),(2,.bool false),(1,vP g1 0)]∧Mem w wS [.blk g1 (b.cells A c) 80]) (m:=b.evs.length-0) ⟨0,Nat.zero_le _,fun i hi=>absurd hi (Nat.not_lt_zero _),rfl,Z.sub kr,E.pk [0]⟩ ?_
  clear Z E;rintro mS a w_ ⟨k,hk,hall,rfl,Z,E⟩
  refine Jb Z E ((JQ∘JP∘Jp 1∘Jg 4 O0∘Jl∘Jp 1∘bQ∘Jj) (Ji (fun J6=>?_) fun J6=>?_))
  ·
   refine (JT∘aG∘JQ∘JB) fun a Z E=>?_
   refine wp_seq ?_
   refine Jb Z E ((Vs .n []) fun WJ=>(Vf 0 4∘Vp [2]∘Vf 6 1∘Vc 1 O0) ?_)
   repeat (first|clear Z|clear E|clear HS)
   intro a Z E HS
   obtain ⟨gA,oA,rfl,_⟩:=hr.qd (Nat.lt_of_le_of_lt (Nat.zero_le _) (show k<b.evs.length from by omega)) de
   refine Vb Z E HS ((Vy 3 (h:=by exact Yl.ix gA oA k 11 rfl rfl rfl)∘Vf 4 2∘Vy 5 (v:=vB ((b.evs.getD k Ev.zero).cpu)) (h:=by exact Yl.qj rfl rfl kr (fun _ h=>(h.old hr).partAt zf (k:=k) (j:=2) (x:=(b.evs.getD k Ev.zero)) ((getD_at Ev.zero (k:=k) (by first|omega|(simp;omega)))) rfl))∘Vc 7 O0∘Vp [8]∘Vd∘aF) (Jh (fun BM=>?_) fun BM=>?_))
   ·
    exact (JT∘JP∘Jp 1∘Jj∘JZ∘aH) fun E=>by exact ⟨by rw [qua hok om (k:=k) om om],E.below⟩
   refine (JF∘aG∘JR∘Jp 1∘bn 1∘Jp 1∘aT∘Jq) fun a Z E=>?_
   exact ⟨_,om,k+1,by omega,fun i hi=>(Nat.lt_succ_iff_lt_or_eq.1 hi).elim (hall i) (fun h=>by subst h;omega),rfl,Z.sub kr,E.pk [0]⟩
  refine (JF∘JX∘JG∘JP∘Jg 4 O0∘JL (h:=by exact fun E=>ZH _ _ _ b.evs hok.evs _ (E.old hr) om rfl)) ?_
  rintro E _ w86 ⟨rfl,hbw⟩
  refine ⟨_,rfl,_,E.call hbw,?_⟩
  exact (Jp 1∘Jx∘Jx∘Jp 2∘aF∘Jr∘Jp 3∘bQ∘Jj∘JZ∘aH) fun E=>by exact ⟨congrArg (fun x=>Ending.returned (.bool x)) (by rw [qpf om om om om om om (fun i hi=>hall i om),Bool.eq_iff_iff,beq_iff_eq,decide_eq_true_eq];omega),E.below⟩
 refine (Jp 6∘aF∘Jj∘JF∘aG∘JQ∘JP∘Jp 1∘Jj∘JB) fun a Z E=>?_
 refine qc (fun mS aS wS=>∃(k:Nat),(k≤b.evs.length)∧(∀i,i<k→(b.evs.getD i Ev.zero).cpu=b.cpu)∧mS=b.evs.length-k∧Fr aS 91 [] [(3,vI k),(66,.bool false),(8,.bool false),(2,.bool false),(1,vP g1 0)]∧Mem w wS [.blk g1 (b.cells A c) 80]) (m:=b.evs.length-0) ⟨0,Nat.zero_le _,fun i hi=>absurd hi (Nat.not_lt_zero _),rfl,Z.sub kr,E.pk [0]⟩ ?_
 clear Z E;rintro mS a w_ ⟨k,hk,hall,rfl,Z,E⟩
 refine Jb Z E ((JQ∘JP∘Jp 1∘Jg 4 O0∘Jl∘Jp 1∘bQ∘Jj) (Ji (fun J6=>?_) fun J6=>?_))
 ·
  refine (JT∘aG∘JQ∘JB) fun a Z E=>?_
  refine wp_seq ?_
  refine Jb Z E ((Vs .n []) fun WJ=>(Vf 0 4∘Vp [2]∘Vf 6 1∘Vc 1 O0) ?_)
  repeat (first|clear Z|clear E|clear HS)
  intro a Z E HS
  obtain ⟨gA,oA,rfl,_⟩:=hr.qd (Nat.lt_of_le_of_lt (Nat.zero_le _) (show k<b.evs.length from by omega)) de
  refine Vb Z E HS ((Vy 3 (h:=by exact Yl.ix gA oA k 11 rfl rfl rfl)∘Vf 4 2∘Vy 5 (v:=vB ((b.evs.getD k Ev.zero).cpu)) (h:=by exact Yl.qj rfl rfl kr (fun _ h=>(h.old hr).partAt zf (k:=k) (j:=2) (x:=(b.evs.getD k Ev.zero)) ((getD_at Ev.zero (k:=k) (by first|omega|(simp;omega)))) rfl))∘Vc 7 O0∘Vp [8]∘Vd∘aF) (Jh (fun BM=>?_) fun BM=>?_))
  ·
   exact (JT∘JP∘Jp 1∘Jj∘JZ∘aH) fun E=>by exact ⟨by rw [qua hok om (k:=k) om om],E.below⟩
  refine (JF∘aG∘JR∘Jp 1∘bn 1∘Jp 1∘aT∘Jq) fun a Z E=>?_
  exact ⟨_,om,k+1,by omega,fun i hi=>(Nat.lt_succ_iff_lt_or_eq.1 hi).elim (hall i) (fun h=>by subst h;omega),rfl,Z.sub kr,E.pk [0]⟩
 refine (JF∘JX∘JG∘JP∘Jg 4 O0∘JL (h:=by exact fun E=>ZH _ _ _ b.evs hok.evs _ (E.old hr) om rfl)) ?_
 rintro E _ w86 ⟨rfl,hbw⟩
 refine ⟨_,rfl,_,E.call hbw,?_⟩
 exact (Jp 1∘Jx∘Jx∘Jp 2∘aF∘Jr∘Jp 3∘bQ∘Jj∘JZ∘aH) fun E=>by exact ⟨congrArg (fun x=>Ending.returned (.bool x)) (by rw [qpf om om om om om om (fun i hi=>hall i om),Bool.eq_iff_iff,beq_iff_eq,decide_eq_true_eq];omega),E.below⟩
theorem qkg (b:Bk) (hok:b.Ok) (A:Option Addr) (c:Nat) (w:World) (hr:Rd w w.heap.size 11 A b.evs.length (b.evs.flatMap eF)) (hn:b.evs.length≤1000000) (hf:b.fits=true):
    Calls Tryz.prog 69 #[.agg (b.cells A c)] w (zz w b.raw):=by
 refine (bZ Tryz.func69 83) ?_
 refine (JP∘JE) fun w1 g1=>(Jp 1∘Jq) fun a Z E=>?_
 have hbl:=Lg b
 refine Jb Z E ((JG∘JP∘Jp 1∘Jj∘JQ∘JP∘Jg 0 O0∘Jp 1∘aQ∘Jj) (Ju (fun cK=>?_) fun cK=>?_))
 ·
  intro a Z E
  have gI:=eq_of_beq cK
  have hk2:b.kind=2:=by omega
  obtain ⟨n1,n2,n3,n4,n5⟩:=qo7 hf hk2
  refine Jb Z E ((JT∘JR∘Jg 3 O0∘Jv 1 [(14,vQ (IntKind.u64.wrap b.next))]∘Jo (vQ b.next.toNat) (by exact Dm om om)∘JK (h:=by exact fun E=>Zt b.next.toNat _ om)) fun A15 c15 CO asJ=>(Jp 1∘bQ∘Jj) fun a Z E=>?_)
  refine zn (fun aS wS=>∃(Ax:Option Addr) (cx:Nat),(b.body.length≤cx)∧Fr aS 83 [] [(3,.slice Ax b.body.length cx),(2,vN),(1,vP g1 0)]∧Mem w wS [.row (.slice Ax b.body.length cx) b.body.length (b.body.map B8) 5 1,.blk g1 (b.cells A c) 80]) ?_ ?_
  ·
   refine Jb Z E ((JP∘Jg 4 O1∘Jl∘Jp 1∘aT∘Jj) fun a Z E=>?_)
   have kW:(decide ((b.evs.length:Int)>(0:Int)))=false:=by rw [decide_eq_false om]
   have Z:=Z.sp 31 (.bool false) rfl (by rw [kW])
   have Gj:((aj b.next.toNat)).length=b.body.length:=by rw [qvq hk2]
   replace E:=E.aI (i:=0) (ys:=b.body.map B8) rfl Gj (by rw [qvq hk2])
   replace Z:=Z.sp 3 (.slice A15 b.body.length c15) rfl (by rw [Gj])
   refine Jb Z E ((JF∘JS) fun a Z E=>?_)
   exact ⟨A15,c15,by omega,Z.sub kr,E.pk [0,1]⟩
  clear Z E;rintro a w9 ⟨Ax,cx,hcx,Z,E⟩
  refine Jb Z E ((JP∘Jp 1∘Jl∘bn 12∘Jp 1∘bQ∘Jq) fun a Z E=>?_)
  have hbl:=Lg b
  refine Jb Z E ((JG∘JP∘Jp 2∘Jo (vI ((b.body.length+12)%256:Nat)) (by exact zy .i64 _ 256)∘Jv 1 [(65,vB (IntKind.u8.wrap (((b.body.length+12)%256:Nat):Int)))]∘Jo (vB ((b.body.length+12)%256:Nat)) (by exact (rC ((b.body.length+12)%256)).trans (by rw [Nat.mod_mod]))∘Jp 2∘Jo (vI ((b.body.length+12)/256:Nat)) (by exact zF .i64 256 (by show _≤9223372036854775807;omega))∘Jp 1∘Jo (vI (((b.body.length+12)/256)%256:Nat)) (by exact zy .i64 _ 256)∘Jv 1 [(69,vB (IntKind.u8.wrap ((((b.body.length+12)/256)%256:Nat):Int)))]∘Jo (vB (((b.body.length+12)/256)%256:Nat)) (by exact (rC (((b.body.length+12)/256)%256)).trans (by rw [Nat.mod_mod]))∘Jp 2∘Jo (vI ((b.body.length+12)/65536:Nat)) (by exact zF .i64 65536 (by show _≤9223372036854775807;omega))∘Jp 1∘Jo (vI (((b.body.length+12)/65536)%256:Nat)) (by exact zy .i64 _ 256)∘Jv 1 [(73,vB (IntKind.u8.wrap ((((b.body.length+12)/65536)%256:Nat):Int)))]∘Jo (vB (((b.body.length+12)/65536)%256:Nat)) (by exact (rC (((b.body.length+12)/65536)%256)).trans (by rw [Nat.mod_mod]))∘Jp 2∘Jo (vI ((b.body.length+12)/16777216:Nat)) (by exact zF .i64 16777216 (by show _≤9223372036854775807;omega))∘Jv 1 [(76,vB (IntKind.u8.wrap (((b.body.length+12)/16777216:Nat):Int)))]∘Jo (vB (((b.body.length+12)/16777216)%256:Nat)) (by exact rC ((b.body.length+12)/16777216))∘Jg 0 O1∘JU aL #[vB ((b.body.length+12)%256:Nat),vB (((b.body.length+12)/256)%256:Nat),vB (((b.body.length+12)/65536)%256:Nat),vB (((b.body.length+12)/16777216)%256:Nat),vB 113,vB 116,vB 1,vB b.kind]) fun XM g79=>(Jp 1∘aF∘Jr∘Jp 2) fun a Z E=>?_)
  refine fo Z 2 rfl rfl ?_
  replace E:=E.dJ (i:=0) (n:=8) (size:=1) rfl rfl de
  refine qz Z E (i:=0) rfl aL rfl rfl rfl (news:=(b.body.map B8)) (E.rd (i:=1) rfl) (mH _) om om rfl de ?_
  clear Z E;intro a w82 Me Mf Z E uy
  refine Jb Z E ((Jp 1∘aF∘Jq) fun a Z E=>?_)
  have jR:8+b.body.length=b.raw.length:=by rw [Lf]
  replace E:=E.aI (i:=0) (ys:=b.raw.map B8) rfl jR (Gb b)
  rw [jR] at uy
  replace Z:=Z.sp 2 (.slice Me b.raw.length Mf) rfl (by rw [jR])
  exact Jb Z E ((JG∘JZ∘aH) fun E=>by exact ⟨⟨_,_,rfl,E.own (i:=0) rfl,uy⟩,E.below⟩)
 intro a Z E
 have gI:=ne_of_beq_false cK
 have hk2:b.kind≠2:=by omega
 obtain ⟨m0,m1,m2,m3,m4⟩:=qo6 hf hk2
 refine Jb Z E ((JF∘JR∘Jg 1 O0∘Jw .u64∘Jg 2 O0∘Jv 1 [(21,vQ (IntKind.u64.wrap b.lost))]∘Jo (vQ b.lost.toNat) (by exact Dm om om)∘Jg 4 O0∘Jl∘Jw .u64∘JU qt #[vQ b.cpu,vQ b.lost.toNat,vQ b.evs.length]) fun vJ g26=>(JK (h:=by exact fun E=>Uv _ 3 _ [b.cpu,b.lost.toNat,b.evs.length] _ (E.aN (i:=0) (n:=3) (size:=1) rfl rfl) rfl (by intro x hx;simp only [List.mem_cons,List.not_mem_nil,or_false] at hx;omega) om)) fun yA uP LW hc27=>fun a Z E=>?_)
 have Qw:=q6 [b.cpu,b.lost.toNat,b.evs.length]
 simp only [List.length_cons,List.length_nil] at Qw
 refine Jb Z E ((Jp 1∘aF∘Jj) fun a Z E=>?_)
 refine zn (fun aS wS=>∃(Ax:Option Addr) (cx:Nat),(b.body.length≤cx)∧Fr aS 83 [] [(3,.slice Ax b.body.length cx),(2,vN),(1,vP g1 0)]∧Mem w wS [.row (.slice Ax b.body.length cx) b.body.length (b.body.map B8) 5 1,.blk g1 (b.cells A c) 80]) ?_ ?_
 ·
  refine Jb Z E ((JP∘Jg 4 O2∘Jl∘Jp 1∘aT∘Jj) (Ju (fun kW=>?_) fun kW=>?_))
  ·
   intro a Z E
   have hd31:=of_decide_eq_true kW
   obtain ⟨b1,b2,b3,b4⟩:0≤(b.evs.getD 0 Ev.zero).seq∧(b.evs.getD 0 Ev.zero).seq≤281474976710656∧0≤(b.evs.getD 0 Ev.zero).time∧(b.evs.getD 0 Ev.zero).time≤281474976710656:=by have hbd:=qt6 hok hf hk2 om;rw [Nq] at hbd;exact hbd
   have Qx:=qk9 hok (Nk hf hk2).2 om
   refine Jb Z E ((JT∘JP∘Jg 4 O2) ?_)
   repeat (first|clear Z|clear E)
   intro a Z E
   obtain ⟨gA,oA,rfl,_⟩:=hr.qd (Nat.lt_of_le_of_lt (Nat.zero_le _) (show 0<b.evs.length from by omega)) de
   refine Jb Z E ((Jy (v:=vP gA oA) (h:=by exact Yl.indexAddr (ad:=⟨gA,oA,none⟩) (y:=0) (sz:=11) rfl rfl rfl om kr)∘Jy (v:= .agg ((b.evs.getD 0 Ev.zero).cells)) (h:=by exact Yl.qf rfl rfl ⟨kr,kr⟩ rfl (fun _ h=>(h.old hr).qm zf ((getD_at Ev.zero (k:=0) (by first|omega|(simp;omega))))))∘JA #[vI 0,vI 0,vB 0,vB 0,vI 0,vI 0,vI 0,vI 0,vI 0,vQ 0,vI 0]) fun w4 g4=>(JV ⟨kr,kr⟩ bg (h1:=by exact MF (b.evs.getD 0 Ev.zero))) fun ZP=>(bQ∘Jr∘Jp 1∘Jg 0 O0∘Jv 1 [(39,vQ (IntKind.u64.wrap ((b.evs.getD 0 Ev.zero).seq)))]∘Jo (vQ (((b.evs.getD 0 Ev.zero).seq).toNat:Nat)) (by exact Dm om om)∘Jg 1 O0∘Jv 1 [(42,vQ (IntKind.u64.wrap ((b.evs.getD 0 Ev.zero).time)))]∘Jo (vQ (((b.evs.getD 0 Ev.zero).time).toNat:Nat)) (by exact Dm om om)∘JU qt #[vQ (((b.evs.getD 0 Ev.zero).seq).toNat:Nat),vQ (((b.evs.getD 0 Ev.zero).time).toNat:Nat)]) fun Hw Hu=>(JK (h:=by exact fun E=>Uv _ 2 _ [(b.evs.getD 0 Ev.zero).seq.toNat,(b.evs.getD 0 Ev.zero).time.toNat] _ (E.aN (i:=0) (n:=2) (size:=1) rfl rfl) rfl (by intro x hx;simp only [List.mem_cons,List.not_mem_nil,or_false] at hx;omega) om)) fun wQ wR Nv sS=>fun a Z E=>?_)
   have Qy:=q6 [(b.evs.getD 0 Ev.zero).seq.toNat,(b.evs.getD 0 Ev.zero).time.toNat]
   simp only [List.length_cons,List.length_nil] at Qy
   refine Jb Z E ((JD (([(b.evs.getD 0 Ev.zero).seq.toNat,(b.evs.getD 0 Ev.zero).time.toNat].flatMap aj).map B8) 3 (fun _ _=>xR) aL (hr:=by exact fun E=>E.rd (i:=0) rfl) (h1:=by exact mH _)) fun Nf A45 c45 ZK=>(Jp 1∘aF∘Jq∘JM (.f (.f (.t (.t (.f .n)))))∘JG∘JP∘Jg 0 O0∘Jg 1 O0∘Jy (v:= .agg ((⟨(b.evs.getD 0 Ev.zero).seq,(b.evs.getD 0 Ev.zero).time⟩:Bs).cells)) (h:=by exact (Yl.build (vs:=[(0,vI ((b.evs.getD 0 Ev.zero).seq)),(1,vI ((b.evs.getD 0 Ev.zero).time))]) rfl kr kr))∘Jg 4 O2∘JK (h:=by exact fun E=>(qtb ⟨(b.evs.getD 0 Ev.zero).seq,(b.evs.getD 0 Ev.zero).time⟩ _ _ _ b.evs hok.evs _ (E.old hr) om om rfl).mono (fun _ _ h=>h.as (uJ:=0) (R':=recs b.base b.evs) (by rw [←Nq];exact Qx.1) (by rw [←Nq];exact Qx.2)))) fun A54 c54 JN ZL=>fun a Z E=>?_)
   have hrl:=Wt b.evs b.base
   refine Jb Z E ((Jp 1∘Jx∘Jx∘Jp 2∘wK∘Jj∘JR∘Jp 2∘JD ((recs b.base b.evs).map B8) 2 (fun _ _=>gH) aL (hr:=by exact fun E=>E.rd (i:=0) rfl) (h1:=by exact mH _)) fun w59 Gl c59 J7=>(Jp 1∘aF∘Jq) fun a Z E=>?_)
   have oU:(((([b.cpu,b.lost.toNat,b.evs.length].flatMap aj)).length)+((([(b.evs.getD 0 Ev.zero).seq.toNat,(b.evs.getD 0 Ev.zero).time.toNat].flatMap aj)).length))+(((recs b.base b.evs)).length)=b.body.length:=by have h:=congrArg List.length (qqs hk2 om);rw [List.length_append,List.length_append] at h;omega
   replace E:=E.aI (i:=2) (ys:=b.body.map B8) rfl oU (by rw [←qqs hk2 om];simp)
   rw [oU] at J7
   replace Z:=Z.sp 3 (.slice Gl b.body.length c59) rfl (by rw [oU])
   exact ⟨Gl,c59,by omega,Z.sub kr,E.pk [2,3]⟩
  intro a Z E
  have hd31:=of_decide_eq_false kW
  have kJ:(([b.cpu,b.lost.toNat,b.evs.length].flatMap aj)).length=b.body.length:=by rw [qqr hk2 om]
  replace E:=E.aI (i:=0) (ys:=b.body.map B8) rfl kJ (by rw [qqr hk2 om])
  replace Z:=Z.sp 3 (.slice yA b.body.length uP) rfl (by rw [kJ])
  refine Jb Z E ((JF∘JS) fun a Z E=>?_)
  exact ⟨yA,uP,by omega,Z.sub kr,E.pk [0,2]⟩
 clear Z E;rintro a w9 ⟨Ax,cx,hcx,Z,E⟩
 refine Jb Z E ((JP∘Jp 1∘Jl∘bn 12∘Jp 1∘bQ∘Jq) fun a Z E=>?_)
 have hbl:=Lg b
 refine Jb Z E ((JG∘JP∘Jp 2∘Jo (vI ((b.body.length+12)%256:Nat)) (by exact zy .i64 _ 256)∘Jv 1 [(65,vB (IntKind.u8.wrap (((b.body.length+12)%256:Nat):Int)))]∘Jo (vB ((b.body.length+12)%256:Nat)) (by exact (rC ((b.body.length+12)%256)).trans (by rw [Nat.mod_mod]))∘Jp 2∘Jo (vI ((b.body.length+12)/256:Nat)) (by exact zF .i64 256 (by show _≤9223372036854775807;omega))∘Jp 1∘Jo (vI (((b.body.length+12)/256)%256:Nat)) (by exact zy .i64 _ 256)∘Jv 1 [(69,vB (IntKind.u8.wrap ((((b.body.length+12)/256)%256:Nat):Int)))]∘Jo (vB (((b.body.length+12)/256)%256:Nat)) (by exact (rC (((b.body.length+12)/256)%256)).trans (by rw [Nat.mod_mod]))∘Jp 2∘Jo (vI ((b.body.length+12)/65536:Nat)) (by exact zF .i64 65536 (by show _≤9223372036854775807;omega))∘Jp 1∘Jo (vI (((b.body.length+12)/65536)%256:Nat)) (by exact zy .i64 _ 256)∘Jv 1 [(73,vB (IntKind.u8.wrap ((((b.body.length+12)/65536)%256:Nat):Int)))]∘Jo (vB (((b.body.length+12)/65536)%256:Nat)) (by exact (rC (((b.body.length+12)/65536)%256)).trans (by rw [Nat.mod_mod]))∘Jp 2∘Jo (vI ((b.body.length+12)/16777216:Nat)) (by exact zF .i64 16777216 (by show _≤9223372036854775807;omega))∘Jv 1 [(76,vB (IntKind.u8.wrap (((b.body.length+12)/16777216:Nat):Int)))]∘Jo (vB (((b.body.length+12)/16777216)%256:Nat)) (by exact rC ((b.body.length+12)/16777216))∘Jg 0 O1∘JU aL #[vB ((b.body.length+12)%256:Nat),vB (((b.body.length+12)/256)%256:Nat),vB (((b.body.length+12)/65536)%256:Nat),vB (((b.body.length+12)/16777216)%256:Nat),vB 113,vB 116,vB 1,vB b.kind]) fun XM g79=>(Jp 1∘aF∘Jr∘Jp 2) fun a Z E=>?_)
 refine fo Z 2 rfl rfl ?_
 replace E:=E.dJ (i:=0) (n:=8) (size:=1) rfl rfl de
 refine qz Z E (i:=0) rfl aL rfl rfl rfl (news:=(b.body.map B8)) (E.rd (i:=1) rfl) (mH _) om om rfl de ?_
 clear Z E;intro a w82 Me Mf Z E uy
 refine Jb Z E ((Jp 1∘aF∘Jq) fun a Z E=>?_)
 have jR:8+b.body.length=b.raw.length:=by rw [Lf]
 replace E:=E.aI (i:=0) (ys:=b.raw.map B8) rfl jR (Gb b)
 rw [jR] at uy
 replace Z:=Z.sp 2 (.slice Me b.raw.length Mf) rfl (by rw [jR])
 exact Jb Z E ((JG∘JZ∘aH) fun E=>by exact ⟨⟨_,_,rfl,E.own (i:=0) rfl,uy⟩,E.below⟩)
theorem qkh (b:Bk) (hok:b.Ok) (A:Option Addr) (c:Nat) (w:World) (hr:Rd w w.heap.size 11 A b.evs.length (b.evs.flatMap eF)) (hn:b.evs.length≤1000000):
    Calls Tryz.prog 68 #[.agg (b.cells A c)] w (Is w (vI (b.err:Int))):=by
 refine (bZ Tryz.func68 11) ?_
 refine (JP∘JE) fun w1 g1=>(Jp 1∘Jj∘JQ∘JP∘Jy (v:= .agg (b.cells A c)) (h:=by exact Yl.qf rfl rfl BA rfl (fun _ h=>qb (h.blk (i:=0) rfl)))∘JI (h:=by exact fun E=>qxt b hok A c _ (E.old hr) hn)) fun w4 hbw=>(Jp 1∘aT∘Jj) (Ju (fun hb5=>?_) fun hb5=>?_)
 ·
  intro a Z E
  have hf:b.fits=false:=by simpa using hb5
  exact Jb Z E ((JT∘JP∘Jp 1∘Jj∘JZ∘aH) fun E=>by exact ⟨by rw [show b.err=107 from by unfold Bk.err;rw [if_pos hf]];rfl,E.below⟩)
 intro a Z E
 have hf:b.fits=true:=by simpa using hb5
 refine Jb Z E ((JF∘aG∘JQ∘JP∘Jy (v:= .agg (b.cells A c)) (h:=by exact Yl.qf rfl rfl BA rfl (fun _ h=>qb (h.blk (i:=0) rfl)))∘JK (h:=by exact fun E=>qkg b (hok) A c _ (E.old hr) (hn) (hf))) fun A7 c7 w7 Te=>fun a Z E=>?_)
 have asL:=Lf b
 have asM:=Lg b
 refine Jb Z E ((Jl∘bn 4∘Jp 1∘eZ∘Jj) (Ji (fun fM=>?_) fun fM=>?_))
 ·
  exact (JT∘JP∘Jp 1∘Jj∘JZ∘JM (.f .n)∘aH) fun E=>by exact ⟨by rw [show b.err=3 from by unfold Bk.err;rw [if_neg (by rw [hf];decide),if_pos om]];rfl,E.below⟩
 exact (JF∘aG∘JP∘Jp 1∘Jj∘JZ∘JM (.f .n)∘aH) fun E=>by exact ⟨by rw [show b.err=0 from by unfold Bk.err;rw [if_neg (by rw [hf];decide),if_neg om]];rfl,E.below⟩
theorem qtc (b:Bk) (hok:b.Ok) (A:Option Addr) (c:Nat) (w:World) (hr:Rd w w.heap.size 11 A b.evs.length (b.evs.flatMap eF)) (hn:b.evs.length≤1000000):
    Calls Tryz.prog 26 #[.agg (b.cells A c)] w (qx w b.err b.out):=by
 refine (bZ Tryz.func26 13) ?_
 refine (JP∘JE) fun w1 g1=>(Jp 2∘Jj∘JQ∘JP∘Jy (v:= .agg (b.cells A c)) (h:=by exact Yl.qf rfl rfl BA rfl (fun _ h=>qb (h.blk (i:=0) rfl)))∘JI (h:=by exact fun E=>qkh b hok A c _ (E.old hr) hn)) fun w6 hbw=>(Jp 1∘aT∘Jr∘Jp 2∘aQ∘Jj) (Ju (fun kP=>?_) fun kP=>?_)
 ·
  intro a Z E
  have pQ:=bne_iff_ne.1 kP
  have he:b.err≠0:=by omega
  exact Jb Z E ((JT∘JP∘Jp 3∘Jj∘JZ∘bW) fun E=>WM rfl he E.below)
 intro a Z E
 have pQ:=bne_eq_false_iff_eq.1 kP
 have he:b.err=0:=by omega
 obtain ⟨hf,hbb⟩:=q58 he
 refine Jb Z E ((JF∘aG∘JP∘Jy (v:= .agg (b.cells A c)) (h:=by exact Yl.qf rfl rfl BA rfl (fun _ h=>qb (h.blk (i:=0) rfl)))∘JK (h:=by exact fun E=>qkg b (hok) A c _ (E.old hr) (hn) (hf))) fun vC c11 wN Ig=>fun a Z E=>?_)
 have ahk:=Lf b
 have ahl:=Lg b
 exact Jb Z E ((JK (h:=by exact fun E=>ZG _ _ _ b.raw _ (E.rd (i:=0) rfl) rfl om (q8o hok))) fun Bn c12 Ld I7=>(Jp 2∘Jj∘JZ∘JM (.t (.f .n))∘bW) fun E=>Qf he (E.own (i:=0) rfl) I7 E.below)
theorem q4a {b d:Bk} (h1:b.kind=d.kind) (h2:b.cpu=d.cpu) (h3:b.lost=d.lost) (h4:b.next=d.next) (h5:b.evs.length=d.evs.length) (h:∀i,i<b.evs.length→b.evs.getD i Ev.zero=d.evs.getD i Ev.zero):b=d:=by
 have he:b.evs=d.evs:=by
  apply List.ext_getElem h5
  intro i hi hj
  have:=h i hi
  rwa [List.getD_eq_getElem?_getD,List.getD_eq_getElem?_getD,List.getElem?_eq_getElem hi,List.getElem?_eq_getElem hj] at this
 cases b;cases d
 simp only at h1 h2 h3 h4 he
 subst h1;subst h2;subst h3;subst h4;subst he
 rfl
theorem QU {b d:Bk} (h:b.kind≠d.kind∨b.cpu≠d.cpu∨b.lost≠d.lost∨b.next≠d.next∨b.evs.length≠d.evs.length):¬b=d:=by
 rintro rfl
 omega
theorem qx2 (b d:Bk) (A A2:Option Addr) (c c2:Nat) (w:World) (hr:Rd w w.heap.size 11 A b.evs.length (b.evs.flatMap eF)) (hr2:Rd w w.heap.size 11 A2 d.evs.length (d.evs.flatMap eF)) (hn:b.evs.length≤1000000):
    Calls Tryz.prog 78 #[.agg (b.cells A c),.agg (d.cells A2 c2)] w (Is w (.bool (decide (b=d)))):=by
 refine (jw Tryz.func78 59) ?_
 refine (JP∘JE) fun w2 g2=>(JE) fun w3 g3=>(Jp 1∘Jj∘JQ∘JP∘Jg 0 O1∘Jg 0 O0∘Jp 2) (Jh (fun gI=>?_) fun gI=>?_)
 ·
  exact (Jv 29 [(40,.bool true)]∘eZ∘Jj∘JT∘JP∘Jp 1∘Jj∘JZ∘aH) fun E=>by exact ⟨by rw [decide_eq_false (QU om)],E.below⟩
 refine (Jg 1 O1∘Jg 1 O0∘Jp 3) (Jh (fun kQ=>?_) fun kQ=>?_)
 ·
  exact (Jv 22 [(40,.bool true)]∘aF∘Jj∘JT∘JP∘Jp 1∘Jj∘JZ∘aH) fun E=>by exact ⟨by rw [decide_eq_false (QU om)],E.below⟩
 refine (Jg 2 O1∘Jg 2 O0∘Jp 3) (Jh (fun hd25=>?_) fun hd25=>?_)
 ·
  exact (Jv 15 [(40,.bool true)]∘aF∘Jj∘JT∘JP∘Jp 1∘Jj∘JZ∘aH) fun E=>by exact ⟨by rw [decide_eq_false (QU om)],E.below⟩
 refine (Jg 3 O1∘Jg 3 O0∘Jp 3) (Jh (fun hd32=>?_) fun hd32=>?_)
 ·
  exact (Jv 8 [(40,.bool true)]∘aF∘Jj∘JT∘JP∘Jp 1∘Jj∘JZ∘aH) fun E=>by exact ⟨by rw [decide_eq_false (QU om)],E.below⟩
 refine (Jg 4 O1∘Jl∘Jg 4 O0∘Jl∘Jp 2∘aF∘Jj) (Jh (fun rH=>?_) fun rH=>?_)
 ·
  exact (JT∘JP∘Jp 1∘Jj∘JZ∘aH) fun E=>by exact ⟨by rw [decide_eq_false (QU om)],E.below⟩
 refine (JF∘aG∘JQ∘JP∘Jp 1∘Jj∘JB) fun a Z E=>?_
 refine qc (fun mS aS wS=>∃(k:Nat),(k≤b.evs.length)∧(∀i,i<k→b.evs.getD i Ev.zero=d.evs.getD i Ev.zero)∧mS=b.evs.length-k∧Fr aS 59 [] [(5,vI k),(40,.bool false),(4,.bool false),(3,vP g3 0),(2,vP g2 0)]∧Mem w wS [.blk g3 (d.cells A2 c2) 80,.blk g2 (b.cells A c) 80]) (m:=b.evs.length-0) ⟨0,Nat.zero_le _,fun i hi=>absurd hi (Nat.not_lt_zero _),rfl,Z.sub kr,E.pk [0,1]⟩ ?_
 clear Z E;rintro mS a w_ ⟨k,hk,hall,rfl,Z,E⟩
 refine Jb Z E ((JQ∘JP∘Jp 1∘Jg 4 O1∘Jl∘Jp 1∘bQ∘Jj) (Ju (fun vE=>?_) fun vE=>?_))
 ·
  intro a Z E
  have zO:=of_decide_eq_true vE
  have atQ:k<b.evs.length:=by omega
  refine Jb Z E ((JT∘aG∘JQ∘JB) fun a Z E=>?_)
  refine wp_seq ?_
  refine Jb Z E ((Vs .n []) fun Ta=>(Vf 0 4∘Vp [2]∘Vf 5 4∘Vp [7]∘Vc 1 O1) ?_)
  repeat (first|clear Z|clear E|clear HS)
  intro a Z E HS
  obtain ⟨gA,oA,rfl,_⟩:=hr.qd (Nat.lt_of_le_of_lt (Nat.zero_le _) (show k<b.evs.length from by omega)) de
  refine Vb Z E HS ((Vy 3 (h:=by exact Yl.ix gA oA k 11 rfl rfl rfl)∘Vy 4 (v:= .agg ((b.evs.getD k Ev.zero).cells)) (h:=by exact Yl.qf rfl rfl ⟨kr,kr⟩ rfl (fun _ h=>(h.old hr).qm zf ((getD_at Ev.zero (k:=k) (by first|omega|(simp;omega))))))∘Vc 6 O0) ?_)
  repeat (first|clear Z|clear E|clear HS)
  intro a Z E HS
  obtain ⟨CW,Iq,rfl,_⟩:=hr2.qd (Nat.lt_of_le_of_lt (Nat.zero_le _) (show k<d.evs.length from by omega)) de
  refine Vb Z E HS ((Vy 8 (h:=by exact Yl.ix CW Iq k 11 rfl rfl rfl)∘Vy 9 (v:= .agg ((d.evs.getD k Ev.zero).cells)) (h:=by exact Yl.qf rfl rfl ⟨kr,kr⟩ rfl (fun _ h=>(h.old hr2).qm zf ((getD_at Ev.zero (k:=k) (by first|omega|(simp;omega))))))∘Vy 10 (v:= .bool (!(decide ((b.evs.getD k Ev.zero)=(d.evs.getD k Ev.zero))))) (h:=by exact Yl.zfh (x:=(b.evs.getD k Ev.zero)) (y:=(d.evs.getD k Ev.zero)) rfl rfl rfl kr)∘Vd∘aF) (Ju (fun ji=>?_) fun ji=>?_))
  ·
   intro a Z E
   have oV:=of_decide_eq_false ((Bool.not_eq_true' _).mp ji)
   exact Jb Z E ((JT∘JP∘Jp 1∘Jj∘JZ∘aH) fun E=>by exact ⟨by rw [decide_eq_false (fun h=>by rw [h] at ji;simp at ji)],E.below⟩)
  intro a Z E
  have oV:=of_decide_eq_true ((Bool.not_eq_false' _).mp ji)
  refine Jb Z E ((JF∘aG∘JR∘Jp 1∘bn 1∘Jp 1∘aT∘Jq) fun a Z E=>?_)
  exact ⟨_,om,k+1,by omega,fun i hi=>(Nat.lt_succ_iff_lt_or_eq.1 hi).elim (hall i) (fun h=>by subst h;simpa using ji),rfl,Z.sub kr,E.pk [0,1]⟩
 intro a Z E
 have zO:=of_decide_eq_false vE
 exact Jb Z E ((JF∘JX∘JG∘JP∘Jp 1∘Jj∘JZ∘aH) fun E=>by exact ⟨by rw [decide_eq_true (q4a om om om om om (fun i hi=>hall i om))],E.below⟩)
theorem qq7 (A:Option Addr) (c:Nat) (q:List Hb) (w:World) (hr:Rd w w.heap.size 5 A q.length (q.flatMap hbL)) (hQ:mU w q) (hok:∀h∈q,h.b.Ok) (hev:∀h∈q,h.b.evs.length≤1000000) (hn:q.length≤1000000):
    Calls Tryz.prog 94 #[.slice A q.length c] w (qx w (zh (q.map Hb.b)).2 (zh (q.map Hb.b)).1):=by
 refine (bZ Tryz.func94 32) ?_
 refine (JP∘Jp 2∘Jr∘Jp 1∘Jq) fun a Z E=>?_
 replace E:=E.nil 5 1
 refine Jb Z E ((JG∘JQ∘JP∘Jp 1∘Jj∘JB) fun a Z E=>?_)
 refine qc (fun mS aS wS=>∃(k:Nat) (R:List Nat) (Ao:Option Addr) (co:Nat),(k≤q.length)∧(dO (q.map Hb.b)=dO ((q.drop k).map Hb.b))∧(R=eD ((q.take k).map Hb.b))∧(R.length≤4096*k)∧(R.length≤co)∧mS=q.length-k∧Fr aS 32 [] [(5,vI k),(4,.slice Ao R.length co),(3,vI 0),(2,vN),(0,.slice A q.length c)]∧Mem w wS [.row (.slice Ao R.length co) R.length (R.map B8) 5 1]) (m:=q.length-0) ⟨0,[],none,0,Nat.zero_le _,by rw [List.drop_zero],rfl,by simp,Nat.le_refl _,rfl,Z.sub kr,E.pk [0]⟩ ?_
 clear Z E;rintro mS a w_ ⟨k,R,Ao,co,hk,her,hR,hRl,hco,rfl,Z,E⟩
 refine Jb Z E ((JQ∘JP∘Jp 2∘Jl∘Jp 1∘bQ∘Jj) (Ju (fun cK=>?_) fun cK=>?_))
 ·
  intro a Z E
  have gI:=of_decide_eq_true cK
  have nV:k<q.length:=by omega
  have hol:=WO (q.getD k Hb.zero).b
  refine Jb Z E ((JT∘aG∘JQ∘JB∘JP∘Jp 2) ?_)
  repeat (first|clear Z|clear E)
  intro a Z E
  obtain ⟨gA,oA,rfl,_⟩:=hr.qd (Nat.lt_of_le_of_lt (Nat.zero_le _) (show k<q.length from by omega)) de
  refine Jb Z E ((Jy (h:=by exact Yl.ix gA oA k 5 rfl rfl rfl)∘Jy (v:= .agg ((q.getD k Hb.zero).b.cells (q.getD k Hb.zero).A (q.getD k Hb.zero).c)) (h:=by exact Yl.qf rfl rfl BA rfl (fun _ h=>(h.old hr).qm qc5 ((getD_at Hb.zero (k:=k) (by first|omega|(simp;omega))))))∘JK (h:=by exact fun E=>qtc (q.getD k Hb.zero).b (hok _ (qi Hb.zero nV)) ((q.getD k Hb.zero).A) (q.getD k Hb.zero).c _ (E.old (hQ.at nV)) (hev _ (qi Hb.zero nV)))) fun El c19 FJ hc19=>(Jp 1∘Jx∘Jx∘Jp 2∘Jj∘JQ∘JP∘Jp 2∘aQ∘Jj) (Ju (fun fU=>?_) fun fU=>?_))
  ·
   intro a Z E
   have oF:=bne_iff_ne.1 fU
   have hE:=zcm nV her om
   exact Jb Z E ((JT∘JP∘Jp 3∘Jj∘JZ∘bW) fun E=>CY E.below (ql0 (by rw [hE];omega)) (by rw [hE]))
  intro a Z E
  have oF:=bne_eq_false_iff_eq.1 fU
  have hE:=zcn nV her om
  refine Jb Z E ((JF∘aG∘JR∘Jp 2∘JD ((q.getD k Hb.zero).b.out.map B8) 1 (fun _ _=>gQ) aL (hr:=by exact fun E=>E.rd (i:=0) rfl) (h1:=by exact mH _)) fun LW yA uP hc27=>fun a Z E=>?_)
  rw [show (R.map B8)++((q.getD k Hb.zero).b.out.map B8)=(R++(q.getD k Hb.zero).b.out).map B8 from by rw [List.map_append]] at E
  refine Jb Z E ((Jp 1∘bQ∘Jq) fun a Z E=>?_)
  have kJ:R.length+((q.getD k Hb.zero).b.out.length)=(R++(q.getD k Hb.zero).b.out).length:=by rw [List.length_append]
  replace E:=E.aI (i:=1) (ys:=(R++(q.getD k Hb.zero).b.out).map B8) rfl kJ (rfl)
  rw [kJ] at hc27
  replace Z:=Z.sp 4 (.slice yA ((R++(q.getD k Hb.zero).b.out).length) uP) rfl (by rw [kJ])
  refine Jb Z E ((JG∘JR∘Jp 1∘bn 1∘Jp 1∘aT∘Jq) fun a Z E=>?_)
  exact ⟨_,om,k+1,(R++(q.getD k Hb.zero).b.out),yA,uP,by omega,hE,by rw [hR,X3 nV],by rw [List.length_append];omega,hc27,rfl,Z.sub kr,E.pk [1]⟩
 intro a Z E
 have gI:=of_decide_eq_false cK
 have hdn:dO (q.map Hb.b)=0:=by rw [her,List.drop_of_length_le om];rfl
 rw [List.take_of_length_le (by omega:q.length≤k)] at hR
 refine Jb Z E ((JF∘JX∘JG∘JQ∘JP∘Jp 1∘Jl∘Jp 1∘aT∘Jj) (Ju (fun jI=>?_) fun jI=>?_))
 ·
  intro a Z E
  have vT:=of_decide_eq_true jI
  have hlong:524288<(eD (q.map Hb.b)).length:=by rw [←hR];omega
  exact Jb Z E ((JT∘JP∘Jp 2∘Jj∘JZ∘bW) fun E=>CY E.below (qj0 hdn hlong) rfl)
 intro a Z E
 have vT:=of_decide_eq_false jI
 have hlong:¬524288<(eD (q.map Hb.b)).length:=by rw [←hR];omega
 exact Jb Z E ((JF∘aG∘JP∘Jp 3∘Jj∘JZ∘bW) fun E=>by rw [qp2 hdn hlong,←hR];exact ⟨⟨Ao,co,rfl,E.own (i:=0) rfl,hco⟩,E.below⟩)
theorem qtj (A:Option Addr) (c:Nat) (q:List Hb) (w:World) (hr:Rd w w.heap.size 5 A q.length (q.flatMap hbL)) (hQ:mU w q) (hok:∀h∈q,h.b.Ok) (hev:∀h∈q,h.b.evs.length≤1000000) (hn:q.length≤1000000) {R:List Nat} {er:Nat} (h:zh (q.map Hb.b)=(R,er)):
  Calls Tryz.prog 94 #[.slice A q.length c] w (qx w er R):=by
 have h1:=qq7 A c q w hr hQ hok hev hn
 rw [h] at h1
 exact h1
theorem Q0 {z:bH} {n:Int} {wb:List Nat} (h1:(bT z).length≤6000007) (h2:wb.length≤524288):∀y∈[ay n,(bT z).length,wb.length],y<18446744073709551616:=fun y hy=>by
 rcases List.mem_cons.1 hy with rfl|hy
 ·exact FH _
 ·rcases List.mem_cons.1 hy with rfl|hy
  ·omega
  ·rw [List.mem_singleton.1 hy];omega
def nM (l:List Pm) (i:Nat):Int:=if i=0 then 0 else (l.getD (i-1) Pm.zero).z.next
theorem q4c {l:List Pm} {i:Nat} (h:0<i):nM l i=(l.getD (i-1) Pm.zero).z.next:=if_neg om
theorem qx4 {l:List Pm} {i:Nat} {x:Pm} (h:l.getD i Pm.zero=x):nM l (i+1)=x.z.next:=by rw [←h];exact if_neg om
theorem qtl (A:Option Addr) (c:Nat) (l:List Pm) (w:World) (hr:Rd w w.heap.size 9 A l.length (l.flatMap jM)) (hP:∀p∈l,yG p∧dQ w p) (hn:l.length≤1000):
    Calls Tryz.prog 81 #[.slice A l.length c] w (Is w (.tuple #[vI (nH (l.map Pm.v)).1,vI ((nH (l.map Pm.v)).2:Int)])):=by
 refine (bZ Tryz.func81 69) ?_
 refine (JP∘Jp 2∘Jj∘JQ∘JP∘Jp 1∘Jl∘Jp 1∘aT∘Jj) (Ji (fun fM=>?_) fun fM=>?_)
 ·
  exact (JT∘JP∘Jp 2∘Jj∘JZ∘bW) fun E=>yt (m:=5) (if_pos (by rw [List.length_map];omega)) rfl E.below
 refine (JF∘aG∘JQ∘JP∘Jp 1∘Jj∘JB) fun a Z E=>?_
 refine qc (fun mS aS wS=>∃(i:Nat),(i≤l.length)∧(nH (l.map Pm.v)=nT ((l.map Pm.v).drop i) (nM l i) i)∧mS=l.length-i∧Fr aS 69 [] [(4,vI i),(10,.bool false),(3,vI 0),(2,vI 0),(0,.slice A l.length c)]∧Mem w wS []) (m:=l.length-0) ⟨0,Nat.zero_le _,(if_neg (by rw [List.length_map];omega)),rfl,Z.sub kr,E.pk []⟩ ?_
 clear Z E;rintro mS a w_ ⟨i,hi,hck,rfl,Z,E⟩
 refine Jb Z E ((JQ∘JP∘Jp 2∘Jl∘Jp 1∘bQ∘Jj) (Ju (fun fZ=>?_) fun fZ=>?_))
 ·
  intro a Z E
  have kV:=of_decide_eq_true fZ
  have yK:i<l.length:=by omega
  obtain ⟨x,hx⟩:∃x,(l.getD i Pm.zero)=x:=⟨_,rfl⟩
  obtain ⟨hpo,hpr⟩:=hP x (by rw [←hx];exact qi Pm.zero yK)
  have hat:=q2j (last:=nM l i) yK
  rw [hx] at hat
  have hxn:=hpo.nx
  unfold bP at hxn
  have hxl:=hpo.len
  have hnx1:=fun h:bJ x.z=0=>(N8 h).1
  refine Jb Z E ((JT∘aG∘JQ∘JB∘JQ∘JP∘Jp 2) ?_)
  repeat (first|clear Z|clear E)
  intro a Z E
  obtain ⟨gA,oA,rfl,_⟩:=hr.qd (Nat.lt_of_le_of_lt (Nat.zero_le _) (show i<l.length from by omega)) de
  refine Jb Z E ((Jy (h:=by exact Yl.ix gA oA i 9 rfl rfl rfl)∘Jf 0∘Jy (v:= .agg ((l.getD i Pm.zero).z.cells)) (h:=by exact Yl.qf rfl rfl FC rfl (fun _ h=>(h.old hr).zfg vR (k:=i) (j:=0) (m:=8) (x:=(l.getD i Pm.zero)) ((getD_at Pm.zero yK)) rfl))∘Jo (.agg x.z.cells) (by rw [hx])∘JI (h:=by exact fun E=>qmm x.z hpo.ok hpo.few _ (hpr.st.old E))) fun Fg hbw=>(Jp 1∘aF∘Jr∘Jp 2∘aQ∘Jj) (Jh (fun hd24=>?_) fun hd24=>?_))
  ·
   exact (JT∘JP∘Jp 4∘Jj∘JZ∘bW) fun E=>yt (hck.trans (hat.trans (if_pos om))) rfl E.below
  refine (JF∘aG∘JQ∘JP∘Jp 1∘Jj∘JB) fun a Z E=>?_
  refine qc (fun mS aS wS=>∃(k:Nat),(k≤x.q.length)∧(dO (x.q.map Hb.b)=dO ((x.q.drop k).map Hb.b))∧mS=x.q.length-k∧Fr aS 69 [] [(6,vI k),(24,.bool false),(5,vI (bJ x.z)),(14,.bool true),(4,vI i),(10,.bool false),(3,vI 0),(2,vI 0),(0,.slice (some ⟨gA,oA,none⟩) l.length c)]∧Mem w wS []) (m:=x.q.length-0) ⟨0,Nat.zero_le _,rfl,rfl,Z.sub kr,E.pk []⟩ ?_
  clear Z E;rintro mS a w_ ⟨k,hk,hke,rfl,Z,E⟩
  refine Jb Z E ((JQ∘JP∘Jp 3∘Jy (h:=by exact Yl.ix gA oA i 9 rfl rfl rfl)∘Jf 8∘Jy (v:= .slice ((l.getD i Pm.zero).A) ((l.getD i Pm.zero).q.length) ((l.getD i Pm.zero).c)) (h:=by exact Yl.qj rfl rfl kr (fun _ h=>(h.old hr).partAt vR (k:=i) (j:=8) (x:=(l.getD i Pm.zero)) ((getD_at Pm.zero yK)) rfl))∘Jo (.slice x.A x.q.length x.c) (by rw [hx])∘Jl∘Jp 1∘aF∘Jj) (Ju (fun mD=>?_) fun mD=>?_))
  ·
   intro a Z E
   have hd34:=of_decide_eq_true mD
   have yB:k<x.q.length:=by omega
   have hek:=OH yB
   refine Jb Z E ((JT∘aG∘JQ∘JB∘JP∘Jp 2∘Jy (h:=by exact Yl.ix gA oA i 9 rfl rfl rfl)∘Jf 8∘Jy (v:= .slice ((l.getD i Pm.zero).A) ((l.getD i Pm.zero).q.length) ((l.getD i Pm.zero).c)) (h:=by exact Yl.qj rfl rfl kr (fun _ h=>(h.old hr).partAt vR (k:=i) (j:=8) (x:=(l.getD i Pm.zero)) ((getD_at Pm.zero yK)) rfl))∘Jo (.slice x.A x.q.length x.c) (by rw [hx])∘Jp 1) fun a Z E=>?_)
   obtain ⟨dU,dV,hq1,_⟩:=Rd.qd hpr.bl (Nat.lt_of_le_of_lt (Nat.zero_le _) (show k<x.q.length from by omega)) de
   have aZ:=hpr.bl;rw [hq1] at aZ
   replace Z:=Z.sp 41 (.slice (some ⟨dU,dV,none⟩) x.q.length x.c) rfl (by rw [hq1];try rfl)
   refine Jb Z E ((Jy (h:=by exact Yl.ix dU dV k 5 rfl rfl rfl)∘Jy (v:= .agg ((x.q.getD k Hb.zero).b.cells (x.q.getD k Hb.zero).A (x.q.getD k Hb.zero).c)) (h:=by exact Yl.qf rfl rfl BA rfl (fun _ h=>(h.old aZ).qm qc5 ((getD_at Hb.zero yB))))∘JI (h:=by exact fun E=>qkh (x.q.getD k Hb.zero).b (hpo.LU _ (qi Hb.zero yB)) ((x.q.getD k Hb.zero).A) (x.q.getD k Hb.zero).c _ (E.old (hpr.ev.at yB)) (hpo.FW _ (qi Hb.zero yB)))) fun Nf hbw=>(Jp 1∘aF∘Jr∘Jp 2∘aQ∘Jj) (Jh (fun J9=>?_) fun J9=>?_))
   ·
    exact (JT∘JP∘Jp 4∘Jj∘JZ∘bW) fun E=>yt (hck.trans (hat.trans ((if_neg om).trans (if_pos (by rw [hke,hek,if_neg om];omega))))) (by rw [hke,hek,if_neg om]) E.below
   refine (JF∘aG∘JR∘Jp 1∘bn 1∘Jp 1∘aT∘Jq) fun a Z E=>?_
   exact ⟨_,om,k+1,by omega,(hke.trans (by rw [hek,if_pos om])),rfl,Z.sub kr,E.pk []⟩
  intro a Z E
  have hd34:=of_decide_eq_false mD
  have he0:dO (x.q.map Hb.b)=0:=by rw [hke,List.drop_of_length_le om];rfl
  refine Jb Z E ((JF∘JX) fun a Z E=>?_)
  refine zn (fun aS wS=>Fr aS 69 [] [(67,.bool (decide (0<i∧x.z.next<nM l i))),(34,.bool false),(6,vI k),(24,.bool false),(5,vI (bJ x.z)),(14,.bool true),(4,vI i),(10,.bool false),(3,vI 0),(2,vI 0),(0,.slice (some ⟨gA,oA,none⟩) l.length c)]∧Mem w wS []) ?_ ?_
  ·
   refine Jb Z E ((Vs .n []) fun Kl=>(Vp [0,1,2]) fun a Z E HS=>?_)
   rcases Z.tf 52 rfl with ⟨vX,Z⟩|⟨vX,Z⟩
   ·
    have zZ:=of_decide_eq_true vX
    refine Vb Z E HS ((Vp [3,4,9,10]∘Vy 5 (h:=by exact Yl.ix gA oA i 9 rfl rfl rfl)∘Vf 6 0∘Vf 7 0∘Vy 8 (v:=vI ((l.getD i Pm.zero).z.next)) (h:=by exact Yl.qj rfl rfl kr (fun _ h=>(by have:=(h.old hr).partAt vR (k:=i) (j:=0) (x:=(l.getD i Pm.zero)) ((getD_at Pm.zero yK)) rfl;simpa using this)))∘Vo (vI x.z.next) (by rw [hx])∘K4 11 1∘Vy 12 (h:=by exact Yl.ix gA oA (i-1) 9 rfl rfl rfl)∘Vf 13 0∘Vf 14 0∘Vy 15 (v:=vI ((l.getD (i-1) Pm.zero).z.next)) (h:=by exact Yl.qj rfl rfl kr (fun _ h=>(by have:=(h.old hr).partAt vR (k:=(i-1)) (j:=0) (x:=(l.getD (i-1) Pm.zero)) ((getD_at Pm.zero om)) rfl;simpa using this)))∘Vo (vI (nM l i)) (by rw [q4c om])∘Vp [16,17]∘Vd∘aF) fun a Z E=>?_)
    have Z:=Z.sp 67 (.bool (decide (0<i∧x.z.next<nM l i))) rfl (congrArg Value.bool (decide_eq_decide.2 om))
    exact ⟨Z.sub kr,E.pk []⟩
   have zZ:=of_decide_eq_false vX
   refine ap Z (fun _=>HS) [3,4,5,6,7,8,9,10,11,12,13,14,15,16,17] (bt 18 []) [(67,.bool false)] fun a Z=>?_
   refine qg kr ?_
   have Z:=Z.sp 67 (.bool (decide (0<i∧x.z.next<nM l i))) rfl (congrArg Value.bool (by rw [decide_eq_false om]))
   exact ⟨Z.sub kr,E.pk []⟩
  clear Z E;rintro a CO ⟨Z,E⟩
  refine Jb Z E (Ji (fun yC=>?_) fun yC=>?_)
  ·
   exact (JT∘JP∘Jp 3∘Jj∘JZ∘bW) fun E=>yt (m:=411) (hck.trans (hat.trans ((if_neg om).trans ((if_neg om).trans (if_pos om))))) rfl E.below
  refine (JF∘aG∘JR∘Jp 1∘bn 1∘Jp 1∘aT∘Jq) fun a Z E=>?_
  exact ⟨_,om,i+1,by omega,(hck.trans (by rw [hat,if_neg om,if_neg om,if_neg (fun hq=>by rcases Nat.eq_zero_or_pos i with h0|h0;(rw [h0] at hq;have h1:=hnx1 om;have h2:x.z.next<0:=hq;omega);omega),qx4 hx])),rfl,Z.sub kr,E.pk []⟩
 intro a Z E
 have kV:=of_decide_eq_false fZ
 have hin:i=l.length:=by omega
 exact Jb Z E ((JF∘JX∘JG∘JP∘Jp 2∘Jj∘JZ∘bW) fun E=>yt (m:=0) (hck.trans (by rw [hin];exact qqd)) rfl E.below)
theorem qmn (A:Option Addr) (c:Nat) (l:List Pm) (w:World) (hr:Rd w w.heap.size 9 A l.length (l.flatMap jM)) (hP:∀p∈l,yG p∧dQ w p) (hn:l.length≤1000) {ci:Int} {ce:Nat} (h:nH (l.map Pm.v)=(ci,ce)):Calls Tryz.prog 81 #[.slice A l.length c] w (Is w (.tuple #[vI ci,vI ce])):=by
 have k:=qtl A c l w hr hP hn
 rwa [h] at k
theorem ze5 {z:bH} {n:Int} {wb:List Nat}:([ay n,(bT z).length,wb.length].flatMap aj).length≤100:=by
 have h1:=q6 [ay n,(bT z).length,wb.length]
 have h2: [ay n,(bT z).length,wb.length].length=3:=rfl
 omega
theorem qtm (A:Option Addr) (c:Nat) (l:List Pm) (w:World) (hr:Rd w w.heap.size 9 A l.length (l.flatMap jM)) (hP:∀p∈l,yG p∧dQ w p) (hn:l.length≤1000):
    Calls Tryz.prog 35 #[.slice A l.length c] w (qx w (nI (l.map Pm.v)).2 (nI (l.map Pm.v)).1):=by
 refine (bZ Tryz.func35 85) ?_
 refine (JP∘Jp 2∘Jq) fun a Z E=>?_
 obtain ⟨ci,ce,hce⟩:∃ci ce,nH (l.map Pm.v)=(ci,ce):=⟨_,_,rfl⟩
 refine Jb Z E ((JG∘JQ∘JP∘Jp 1∘JI (h:=by exact fun E=>qmn A c l _ (E.old hr) (fun p hp=>⟨(hP p hp).1,(hP p hp).2.old E⟩) hn hce)) fun w16 hbw=>(Jp 1∘Jx∘Jx∘Jp 2∘aF∘Jr∘Jp 2∘aQ∘Jj) (Ju (fun fB=>?_) fun fB=>?_))
 ·
  intro a Z E
  have iA:=bne_iff_ne.1 fB
  exact Jb Z E ((JT∘JP∘Jp 3∘Jj∘JZ∘bW) fun E=>CY E.below (ql8 hce om) rfl)
 intro a Z E
 have iA:=bne_eq_false_iff_eq.1 fB
 have Ch:ce=0:=by omega
 have hcz:nH (l.map Pm.v)=(ci,0):=by rw [hce,Ch]
 have hvl:=qy l.length
 have hvp:=WY l.length
 refine Jb Z E ((JF∘aG∘JP∘JU aL #[vB 113,vB 97,vB 1]) fun Fg g22=>(Jp 1∘Jl∘Jw .u64∘JK (h:=by exact fun E=>Zt l.length _ om)) fun dh bN vJ bD=>fun a Z E=>?_)
 refine fo Z 5 rfl rfl ?_
 refine VL Z E (xs:=([113,97,1]:List Nat).map B8) (news:=(aj l.length).map B8) rfl aL rfl rfl (E.aN (i:=1) (n:=3) (size:=1) rfl rfl) (E.rd (i:=0) rfl) om om (fun h=>by cases h) om om rfl de ?_
 clear Z E;intro a LW Gv uP Z E hc27
 have iI:3+(aj l.length).length=(iZ l 0).length:=by rw [qqw,List.length_append];rfl
 replace E:=E.aI (i:=0) (ys:=(iZ l 0).map B8) rfl iI (by rw [qqw,List.map_append])
 rw [iI] at hc27
 replace Z:=Z.sp 27 (vS Gv ((iZ l 0).length) uP) rfl (by rw [iI])
 refine Jb Z E ((Jp 1∘aF∘Jr∘Jp 1∘Jq) fun a Z E=>?_)
 replace E:=E.nil 5 1
 refine Jb Z E ((JG∘JQ∘JP∘Jp 1∘Jj∘JB) fun a Z E=>?_)
 refine qc (fun mS aS wS=>∃(i:Nat) (An:Option Addr) (cn:Nat) (Ad:Option Addr) (cd:Nat),(i≤l.length)∧((iZ l i).length≤cn)∧((iL l i).length≤cd)∧((iL l i).length≤i*6600000)∧(∀j,j<i→(zh ((l.getD j Pm.zero).q.map Hb.b)).2=0)∧mS=l.length-i∧Fr aS 85 [] [(8,vI i),(7,.slice Ad ((iL l i).length) cd),(6,.slice An ((iZ l i).length) cn),(20,.bool false),(5,vI ce),(3,vI 0),(2,vN),(0,.slice A l.length c)]∧Mem w wS [.row (.slice Ad ((iL l i).length) cd) ((iL l i).length) ((iL l i).map B8) 5 1,.row (.slice An ((iZ l i).length) cn) ((iZ l i).length) ((iZ l i).map B8) 5 1,.row (.slice dh ((aj l.length).length) bN) ((aj l.length).length) ((aj l.length).map B8) 5 1,.blk g22 #[vB 113,vB 97,vB 1] 5]) (m:=l.length-0) ⟨0,some ⟨Gv,0,none⟩,uP,none,0,Nat.zero_le _,by omega,Nat.le_refl _,Nat.zero_le _,fun j hj=>absurd hj (Nat.not_lt_zero j),rfl,Z.sub kr,E.pk [0,1,2,3]⟩ ?_
 clear Z E;rintro mS a w_ ⟨i,An,cn,Ad,cd,hi,hcn,hcd,hdl,hu,rfl,Z,E⟩
 refine Jb Z E ((JQ∘JP∘Jp 2∘Jl∘Jp 1∘bQ∘Jj) (Ju (fun kW=>?_) fun kW=>?_))
 ·
  intro a Z E
  have hd31:=of_decide_eq_true kW
  have wG:i<l.length:=by omega
  obtain ⟨x,hx⟩:∃x,(l.getD i Pm.zero)=x:=⟨_,rfl⟩
  obtain ⟨hpo,hpr⟩:=hP x (by rw [←hx];exact qi Pm.zero wG)
  obtain ⟨wb,we,hw⟩:∃wb we,zh (x.q.map Hb.b)=(wb,we):=⟨_,_,rfl⟩
  have hwl:wb.length≤524288:=by have h:=X0 (x.q.map Hb.b);rwa [hw] at h
  have hol:=Uf x.z
  have hpn:=q3b wG hx hw
  have hdn:=qqx wG hx hw
  have hpl:=qvt hi
  have hnl:([ay x.z.next,(bT x.z).length,wb.length].flatMap aj).length≤100:=ze5
  refine Jb Z E ((JT∘aG∘JQ∘JB∘JP∘Jp 2) ?_)
  repeat (first|clear Z|clear E)
  intro a Z E
  obtain ⟨gA,oA,rfl,_⟩:=hr.qd (Nat.lt_of_le_of_lt (Nat.zero_le _) (show i<l.length from by omega)) de
  refine Jb Z E ((Jy (h:=by exact Yl.ix gA oA i 9 rfl rfl rfl)∘Jf 0∘Jy (v:= .agg ((l.getD i Pm.zero).z.cells)) (h:=by exact Yl.qf rfl rfl FC rfl (fun _ h=>(h.old hr).zfg vR (k:=i) (j:=0) (m:=8) (x:=(l.getD i Pm.zero)) ((getD_at Pm.zero wG)) rfl))∘Jo (.agg x.z.cells) (by rw [hx])∘JK (h:=by exact fun E=>qx1 x.z hpo.ok hpo.few _ (hpr.st.old E))) fun SQ c40 Wm Nc=>(Jp 1∘Jx∘Jx∘Jp 2∘wK∘Jr∘Jp 2∘Jy (h:=by exact Yl.ix gA oA i 9 rfl rfl rfl)∘Jf 8∘Jy (v:= .slice ((l.getD i Pm.zero).A) ((l.getD i Pm.zero).q.length) ((l.getD i Pm.zero).c)) (h:=by exact Yl.qj rfl rfl kr (fun _ h=>(h.old hr).partAt vR (k:=i) (j:=8) (x:=(l.getD i Pm.zero)) ((getD_at Pm.zero wG)) rfl))∘Jo (.slice x.A x.q.length x.c) (by rw [hx])∘JK (h:=by exact fun E=>qtj x.A x.c x.q _ (E.old hpr.bl) (hpr.ev.old E) hpo.LU hpo.FW hpo.len hw)) fun A49 c49 TB auk=>(Jp 1∘Jx∘Jx∘Jp 2∘Jj∘JQ∘JP∘Jp 2∘aQ∘Jj) (Jh (fun Aa=>?_) fun Aa=>?_))
  ·
   exact (JT∘JP∘Jp 2∘Jj∘JZ∘bW) fun E=>CY E.below (q7q hcz wG hx hw om) rfl
  refine (JF∘aG∘JP∘Jp 3∘Jy (h:=by exact Yl.ix gA oA i 9 rfl rfl rfl)∘Jf 0∘Jf 0∘Jy (v:=vI ((l.getD i Pm.zero).z.next)) (h:=by exact Yl.qj rfl rfl kr (fun _ h=>(by have:=(h.old hr).partAt vR (k:=i) (j:=0) (x:=(l.getD i Pm.zero)) ((getD_at Pm.zero wG)) rfl;simpa using this)))∘Jo (vI x.z.next) (by rw [hx])∘Jv 1 [(61,vQ (IntKind.u64.wrap x.z.next))]∘Jo (vQ (ay x.z.next)) (by exact zl _)∘Jp 1∘Jl∘Jw .u64∘Jp 1∘Jl∘Jw .u64∘JU qt #[vQ (ay x.z.next),vQ ((bT x.z).length:Nat),vQ wb.length]) fun YG g68=>(JK (h:=by exact fun E=>Uv (some ⟨g68,0,none⟩) 3 3 [ay x.z.next,(bT x.z).length,wb.length] _ (E.aN (i:=0) (n:=3) (size:=1) rfl rfl) rfl (Q0 hol hwl) om)) fun A69 c69 XA aum=>(JD (([ay x.z.next,(bT x.z).length,wb.length].flatMap aj).map B8) 5 (fun _ _=>Hf) aL (hr:=by exact fun E=>E.rd (i:=0) rfl) (h1:=by exact mH _)) fun TD LX c70 Ed=>fun a Z E=>?_
  have nJ:((iZ l i).length)+(([ay x.z.next,(bT x.z).length,wb.length].flatMap aj).length)=(iZ l (i+1)).length:=by rw [hpn,List.length_append]
  replace E:=E.aI (i:=5) (ys:=(iZ l (i+1)).map B8) rfl nJ (by rw [hpn,List.map_append])
  rw [nJ] at Ed
  replace Z:=Z.sp 70 (.slice LX ((iZ l (i+1)).length) c70) rfl (by rw [nJ])
  refine Jb Z E ((Jp 1∘aF∘Jr∘Jp 2∘JD ((bT x.z).map B8) 4 (fun _ _=>sO) aL (hr:=by exact fun E=>E.rd (i:=3) rfl) (h1:=by exact mH _)) fun w73 A73 c73 aun=>(Jp 1∘bQ∘Jj∘JR∘Jp 2∘JD (wb.map B8) 4 (fun _ _=>sO) aL (hr:=by exact fun E=>E.rd (i:=2) rfl) (h1:=by exact mH _)) fun w76 A76 c76 aat=>fun a Z E=>?_)
  have Ck:(((iL l i).length)+((bT x.z).length))+wb.length=(iL l (i+1)).length:=by rw [hdn,List.length_append,List.length_append]
  replace E:=E.aI (i:=4) (ys:=(iL l (i+1)).map B8) rfl Ck (by rw [hdn,List.map_append,List.map_append])
  rw [Ck] at aat
  replace Z:=Z.sp 76 (.slice A76 ((iL l (i+1)).length) c76) rfl (by rw [Ck])
  refine Jb Z E ((Jp 1∘eZ∘Jj∘JR∘Jp 1∘bn 1∘Jp 1∘aT∘Jq) fun a Z E=>?_)
  exact ⟨_,om,i+1,LX,c70,A76,c76,by omega,by omega,by omega,by rw [hdn,List.length_append,List.length_append];omega,q3d hu hx hw om,rfl,Z.sub kr,E.pk [4,5,6,7]⟩
 intro a Z E
 have hd31:=of_decide_eq_false kW
 revert E;revert a;repeat (first|clear Z|clear E)
 intro a Z E
 obtain rfl:i=l.length:=by omega
 have hpl:=qvt (l:=l) (Nat.le_refl _)
 have hhd:(bF (jW l)).length≤10000000:=qwa om
 refine Jb Z E ((JF∘JX∘JG∘JP∘Jp 1∘JK (h:=by exact fun E=>ZG An ((iZ l l.length).length) cn (jW l) _ (E.rd (i:=1) rfl) rfl (by have:=qv9 (l:=l) om;omega) (q4b l))) fun A78 c78 w78 auo=>(Jp 1∘JD ((iL l l.length).map B8) 0 (fun _ _=>bg) aL (hr:=by exact fun E=>E.rd (i:=1) rfl) (h1:=by exact mH _)) fun w80 A80 c80 aau=>(Jp 1∘eZ∘Jj∘JQ∘JP∘Jp 1∘Jl∘Jp 1∘aT∘Jj) (Ji (fun aav=>?_) fun aav=>?_))
 ·
  exact (JT∘JP∘Jp 2∘Jj∘JZ∘bW) fun E=>CY E.below (q3c hcz hu (by rw [←Mj];omega)) rfl
 exact (JF∘aG∘JP∘Jp 3∘Jj∘JZ∘bW) fun E=>qq8 (zb9 hcz hu (by rw [←Mj];omega)) Mj (E.own (i:=0) rfl) aau E.below
theorem qq9 (A:Option Addr) (c:Nat) (l:List Pm) (w:World) (hr:Rd w w.heap.size 9 A l.length (l.flatMap jM)) (hP:∀p∈l,fH p∧dQ w p) (hn:l.length≤1000):
    Calls Tryz.prog 36 #[.slice A l.length c] w (zex w l):=by
 refine (bZ Tryz.func36 40) ?_
 refine (JP∘Jp 1∘Jr∘Jp 1∘Jq) fun a Z E=>?_
 replace E:=E.nil 182 9
 replace E:Mem w _ (.row (vN) 0 [] 182 9::iK []):=E
 refine Jb Z E ((JG∘JQ∘JP∘Jp 1∘Jl∘Jp 1∘Jj∘JB) fun a Z E=>?_)
 refine qc (fun mS aS wS=>∃(i:Nat) (qs:List Pm) (Ao:Option Addr) (co:Nat),(i≤l.length)∧(xC l qs i)∧(qs.length≤co)∧mS=l.length-i∧Fr aS 40 [] [(11,vI i),(10,vI l.length),(9,.slice A l.length c),(3,.slice Ao qs.length co),(2,vN)]∧Mem w wS (.row (.slice Ao qs.length co) qs.length (qs.flatMap jM) 182 9::iK qs)) (m:=l.length-0) ⟨0,[],none,0,Nat.zero_le _,q7r,Nat.le_refl _,rfl,Z.sub kr,E.pt 1 [0]⟩ ?_
 clear Z E;rintro mS a w_ ⟨i,qs,Ao,co,hi,EG,hco,rfl,Z,E⟩
 refine Jb Z E ((JP∘Jp 1∘Jj∘JQ) (Ju (fun dR=>?_) fun dR=>?_))
 ·
  intro a Z E
  have iR:=of_decide_eq_true dR
  have Rm:i<l.length:=by omega
  have kF:=EG.1
  obtain ⟨x,hx⟩:∃x,(l.getD i Pm.zero)=x:=⟨_,rfl⟩
  obtain ⟨hpo,hpr⟩:=hP x (by rw [←hx];exact qi Pm.zero Rm)
  have hxl:=hpo.len
  refine Jb Z E ((JT∘aG∘JQ∘JB∘JP) ?_)
  repeat (first|clear Z|clear E)
  intro a Z E
  obtain ⟨gA,oA,rfl,_⟩:=hr.qd (Nat.lt_of_le_of_lt (Nat.zero_le _) (show i<l.length from by omega)) de
  refine Jb Z E ((Jy (h:=by exact Yl.ix gA oA i 9 rfl rfl rfl)∘Jy (v:= .agg ((l.getD i Pm.zero).cells)) (h:=by exact Yl.qf rfl rfl bS rfl (fun _ h=>(h.old hr).qm vR ((getD_at Pm.zero Rm))))∘Jo (.agg x.cells) (by rw [hx])∘JA #[vI 0,vI 0,vQ 0,vN,vN,vN,vN,vN,vN]) fun w5 g5=>(JV bS bg (h1:=by exact FY x)) fun PK=>(aT∘Jr∘Jf 0∘Jy (v:= .agg x.z.cells) (h:=by exact Yl.qf rfl rfl zr rfl (fun _ h=>h.sub (i:=0) rfl 0 rfl))∘JL (h:=by exact fun E=>qmo x.z _ (hpr.st.old E) hpo.few)) ?_)
  rintro E _ DF ⟨z,rfl,hz,hzc,hm⟩
  refine ⟨_,rfl,_,(show Mem w _ (.blk g5 x.cells 53:: .row (.slice Ao qs.length co) qs.length (qs.flatMap jM) 182 9::(iK qs++(kE z.st))) from E.qG hm),?_⟩
  refine (Jy (v:= .agg #[vI z.next,vI z.st.aB,vQ z.st.ak,.slice z.st.gA z.st.gs.length z.st.gc,.slice z.st.lA z.st.cl.length z.st.lc,.slice z.st.uA z.st.cu.length z.st.uc,.slice z.st.tA z.st.ts.length z.st.tc,.slice z.st.sA z.st.rs.length z.st.sc,vN]) (h:=by exact Yl.build (vs:=[(0,.agg z.cells)]) rfl kr kr)∘JA #[vI 0,vI 0,vQ 0,vN,vN,vN,vN,vN,vN]) fun w6 g6=>(JV Zo bg) fun aax=>(eZ∘Jq) fun a Z E=>?_
  replace E:=E.nil 80 5
  replace E:Mem w _ (.row (vN) 0 [] 80 5:: .blk g6 #[vI z.next,vI z.st.aB,vQ z.st.ak,.slice z.st.gA z.st.gs.length z.st.gc,.slice z.st.lA z.st.cl.length z.st.lc,.slice z.st.uA z.st.cu.length z.st.uc,.slice z.st.tA z.st.ts.length z.st.tc,.slice z.st.sA z.st.rs.length z.st.sc,vN] 182:: .blk g5 x.cells 53:: .row (.slice Ao qs.length co) qs.length (qs.flatMap jM) 182 9::(iB 242 []++(iK qs++(kE z.st)))):=E
  refine Jb Z E ((JG∘JQ∘JP∘Jg 8 O2∘Jl∘Jp 1∘Jj∘JB) fun a Z E=>?_)
  refine qc (fun mS aS wS=>∃(k:Nat) (q2:List Hb) (Ab:Option Addr) (cb:Nat),(k≤x.q.length)∧(q2.map Hb.b=(x.q.take k).map Hb.b)∧(q2.length=k)∧(q2.length≤cb)∧mS=x.q.length-k∧Fr aS 40 [] [(22,vI k),(21,vI x.q.length),(20,.slice x.A x.q.length x.c),(6,vP g6 0),(5,vP g5 0),(12,.bool true),(11,vI i),(10,vI l.length),(9,.slice (some ⟨gA,oA,none⟩) l.length c),(3,.slice Ao qs.length co),(2,vN)]∧Mem w wS (.row (.slice Ab q2.length cb) q2.length (q2.flatMap hbL) 80 5:: .blk g6 #[vI z.next,vI z.st.aB,vQ z.st.ak,.slice z.st.gA z.st.gs.length z.st.gc,.slice z.st.lA z.st.cl.length z.st.lc,.slice z.st.uA z.st.cu.length z.st.uc,.slice z.st.tA z.st.ts.length z.st.tc,.slice z.st.sA z.st.rs.length z.st.sc,.slice Ab q2.length cb] 182:: .blk g5 x.cells 53:: .row (.slice Ao qs.length co) qs.length (qs.flatMap jM) 182 9::(iB 242 q2++(iK qs++(kE z.st))))) (m:=x.q.length-0) ⟨0,[],none,0,Nat.zero_le _,rfl,rfl,Nat.le_refl _,rfl,Z.sub kr,E.pt 4 [0,1,2,3]⟩ ?_
  clear Z E;rintro mS a w_ ⟨k,q2,Ab,cb,hk,hq2,hl2,hcb,rfl,Z,E⟩
  refine Jb Z E ((JP∘Jp 1∘Jj∘JQ) (Ju (fun fU=>?_) fun fU=>?_))
  ·
   intro a Z E
   have oF:=of_decide_eq_true fU
   have EH:k<x.q.length:=by omega
   have hts:=qn6 EH
   refine Jb Z E ((JT∘aG∘JQ∘JB∘JP) fun a Z E=>?_)
   obtain ⟨dU,dV,hq1,_⟩:=Rd.qd hpr.bl (Nat.lt_of_le_of_lt (Nat.zero_le _) (show k<x.q.length from by omega)) de
   have aZ:=hpr.bl;rw [hq1] at aZ
   replace Z:=Z.sp 20 (.slice (some ⟨dU,dV,none⟩) x.q.length x.c) rfl (by rw [hq1];try rfl)
   refine Jb Z E ((Jy (h:=by exact Yl.ix dU dV k 5 rfl rfl rfl)∘Jy (v:= .agg ((x.q.getD k Hb.zero).b.cells (x.q.getD k Hb.zero).A (x.q.getD k Hb.zero).c)) (h:=by exact Yl.qf rfl rfl aP rfl (fun _ h=>(h.old aZ).qm qc5 ((getD_at Hb.zero EH))))∘JA #[vB 0,vB 0,vI 0,vI 0,vN]) fun w8 g8=>(JV aP bg (h1:=by exact vg _ _ _)) fun auB=>(aT∘Jj∘Vs (.t (.f .n)) [7]) fun wd9=>(Vf 0 8∘Vc 1 O1∘Vy 2 (v:= .agg ((x.q.getD k Hb.zero).b.cells (x.q.getD k Hb.zero).A (x.q.getD k Hb.zero).c)) (h:=by exact Yl.qf rfl rfl aP rfl (fun _ h=>qb (h.blk (i:=0) rfl)))∘VK 3 (.t (.f .n)) (h:=by exact fun E=>qin (x.q.getD k Hb.zero).b ((x.q.getD k Hb.zero).A) (x.q.getD k Hb.zero).c _ (E.old (hpr.ev.at EH)) (hpo.FW _ (qi Hb.zero EH)))) fun fG eY Dz hc29=>fun a Z E HS=>?_)
   refine s_on Z 4 rfl (lT Z E q8r [(0,.agg ((x.q.getD k Hb.zero).b.cells fG eY))] ((x.q.getD k Hb.zero).b.cells fG eY) ?_)
   clear Z E;intro a w30 g30 Z E
   refine au (E.pt 7 [2,4,5,6]) (fun HS=>?_)
   refine s_on Z 5 rfl (qz Z E (i:=3) rfl q8r rfl rfl rfl (news:=(hbL (⟨(x.q.getD k Hb.zero).b,fG,eY⟩:Hb))) (E.aN (i:=0) (n:=1) (size:=5) rfl rfl) (vg _ _ _) om om rfl de ?_)
   clear Z E;intro a w31 EJ c31 Z E hc31
   refine au (E.pt 7 [2,4,5,6]) (fun HS=>?_)
   refine Vb Z E HS ((Vf 6 8) fun a Z E HS=>?_)
   refine s_on Z 7 rfl (lS Z E 4 ?_)
   clear E;intro YF E
   refine lG kr ?_
   refine qg kr ?_
   have xH:q2.length+1=(q2++[(⟨(x.q.getD k Hb.zero).b,fG,eY⟩:Hb)]).length:=by rw [List.length_append];rfl
   replace E:=E.aI (i:=3) (ys:=(q2++[(⟨(x.q.getD k Hb.zero).b,fG,eY⟩:Hb)]).flatMap hbL) rfl xH (by rw [List.flatMap_append,List.flatMap_cons,List.flatMap_nil,List.append_nil])
   rw [xH] at hc31
   replace Z:=Z.sp 31 (.slice EJ ((q2++[(⟨(x.q.getD k Hb.zero).b,fG,eY⟩:Hb)]).length) c31) rfl (by rw [xH])
   replace E:=E.dZ (i:=4) (ds:= #[vI z.next,vI z.st.aB,vQ z.st.ak,.slice z.st.gA z.st.gs.length z.st.gc,.slice z.st.lA z.st.cl.length z.st.lc,.slice z.st.uA z.st.cu.length z.st.uc,.slice z.st.tA z.st.ts.length z.st.tc,.slice z.st.sA z.st.rs.length z.st.sc,.slice EJ ((q2++[(⟨(x.q.getD k Hb.zero).b,fG,eY⟩:Hb)]).length) c31]) rfl (by rw [xH];try rfl)
   replace E:=Mem.Nz (a:=[.blk g30 ((x.q.getD k Hb.zero).b.cells fG eY) 80,.blk g8 ((x.q.getD k Hb.zero).b.cells (x.q.getD k Hb.zero).A (x.q.getD k Hb.zero).c) 85,.row (.slice EJ ((q2++[(⟨(x.q.getD k Hb.zero).b,fG,eY⟩:Hb)]).length) c31) ((q2++[(⟨(x.q.getD k Hb.zero).b,fG,eY⟩:Hb)]).length) ((q2++[(⟨(x.q.getD k Hb.zero).b,fG,eY⟩:Hb)]).flatMap hbL) 80 5,.blk g6 #[vI z.next,vI z.st.aB,vQ z.st.ak,.slice z.st.gA z.st.gs.length z.st.gc,.slice z.st.lA z.st.cl.length z.st.lc,.slice z.st.uA z.st.cu.length z.st.uc,.slice z.st.tA z.st.ts.length z.st.tc,.slice z.st.sA z.st.rs.length z.st.sc,.slice EJ ((q2++[(⟨(x.q.getD k Hb.zero).b,fG,eY⟩:Hb)]).length) c31] 182,.blk g5 x.cells 53,.row (.slice Ao qs.length co) qs.length (qs.flatMap jM) 182 9]) (q:=q2) (b:=iK qs++(kE z.st)) (E.pt (fs':=(.row (.slice fG ((x.q.getD k Hb.zero).b.evs.length) eY) ((x.q.getD k Hb.zero).b.evs.length) ((x.q.getD k Hb.zero).b.evs.flatMap eF) 242 11:: .blk g30 ((x.q.getD k Hb.zero).b.cells fG eY) 80:: .blk g8 ((x.q.getD k Hb.zero).b.cells (x.q.getD k Hb.zero).A (x.q.getD k Hb.zero).c) 85:: .row (.slice EJ ((q2++[(⟨(x.q.getD k Hb.zero).b,fG,eY⟩:Hb)]).length) c31) ((q2++[(⟨(x.q.getD k Hb.zero).b,fG,eY⟩:Hb)]).length) ((q2++[(⟨(x.q.getD k Hb.zero).b,fG,eY⟩:Hb)]).flatMap hbL) 80 5:: .blk g6 #[vI z.next,vI z.st.aB,vQ z.st.ak,.slice z.st.gA z.st.gs.length z.st.gc,.slice z.st.lA z.st.cl.length z.st.lc,.slice z.st.uA z.st.cu.length z.st.uc,.slice z.st.tA z.st.ts.length z.st.tc,.slice z.st.sA z.st.rs.length z.st.sc,.slice EJ ((q2++[(⟨(x.q.getD k Hb.zero).b,fG,eY⟩:Hb)]).length) c31] 182:: .blk g5 x.cells 53:: .row (.slice Ao qs.length co) qs.length (qs.flatMap jM) 182 9::(iB 242 q2++(iK qs++(kE z.st))))) 7 [1,0,2,3,4,5,6])
   replace E:Mem w _ (.blk g30 ((x.q.getD k Hb.zero).b.cells fG eY) 80:: .blk g8 ((x.q.getD k Hb.zero).b.cells (x.q.getD k Hb.zero).A (x.q.getD k Hb.zero).c) 85:: .row (.slice EJ ((q2++[(⟨(x.q.getD k Hb.zero).b,fG,eY⟩:Hb)]).length) c31) ((q2++[(⟨(x.q.getD k Hb.zero).b,fG,eY⟩:Hb)]).length) ((q2++[(⟨(x.q.getD k Hb.zero).b,fG,eY⟩:Hb)]).flatMap hbL) 80 5:: .blk g6 #[vI z.next,vI z.st.aB,vQ z.st.ak,.slice z.st.gA z.st.gs.length z.st.gc,.slice z.st.lA z.st.cl.length z.st.lc,.slice z.st.uA z.st.cu.length z.st.uc,.slice z.st.tA z.st.ts.length z.st.tc,.slice z.st.sA z.st.rs.length z.st.sc,.slice EJ ((q2++[(⟨(x.q.getD k Hb.zero).b,fG,eY⟩:Hb)]).length) c31] 182:: .blk g5 x.cells 53:: .row (.slice Ao qs.length co) qs.length (qs.flatMap jM) 182 9::(iB 242 (q2++[(⟨(x.q.getD k Hb.zero).b,fG,eY⟩:Hb)])++(iK qs++(kE z.st)))):=E
   refine Jb Z E ((JG∘JR∘bn 1∘Jp 1∘aQ∘Jq) fun a Z E=>?_)
   replace Z:=Z.sp 20 (.slice x.A x.q.length x.c) rfl (by rw [hq1])
   exact ⟨_,om,k+1,(q2++[(⟨(x.q.getD k Hb.zero).b,fG,eY⟩:Hb)]),EJ,c31,by omega,by rw [hts,List.map_append,hq2];rfl,by rw [List.length_append,hl2];rfl,hc31,rfl,Z.sub kr,E.pt 6 [2,3,4,5]⟩
  intro a Z E
  have oF:=of_decide_eq_false fU
  have hqq:q2.map Hb.b=x.q.map Hb.b:=by rw [hq2,List.take_of_length_le om]
  refine Jb Z E ((JF∘JX∘JG∘JR∘Jp 1∘Jy (v:= .agg #[vI z.next,vI z.st.aB,vQ z.st.ak,.slice z.st.gA z.st.gs.length z.st.gc,.slice z.st.lA z.st.cl.length z.st.lc,.slice z.st.uA z.st.cu.length z.st.uc,.slice z.st.tA z.st.ts.length z.st.tc,.slice z.st.sA z.st.rs.length z.st.sc,.slice Ab q2.length cb]) (h:=by exact Yl.qf rfl rfl Zo rfl (fun _ h=>qb (h.blk (i:=1) rfl)))∘JU q9n #[vI z.next,vI z.st.aB,vQ z.st.ak,.slice z.st.gA z.st.gs.length z.st.gc,.slice z.st.lA z.st.cl.length z.st.lc,.slice z.st.uA z.st.cu.length z.st.uc,.slice z.st.tA z.st.ts.length z.st.tc,.slice z.st.sA z.st.rs.length z.st.sc,.slice Ab q2.length cb]) fun Ej PO=>(JD (jM (⟨z,Ab,cb,q2⟩:Pm)) 4 (fun _ _=>sO) q9n (hr:=by exact fun E=>E.aN (i:=0) (n:=1) (size:=9) rfl rfl) (h1:=by exact FY _)) fun CS lJ c37 jF=>(Jp 1∘eZ∘Jq) fun a Z E=>?_)
  have dW:qs.length+1=(qs++[(⟨z,Ab,cb,q2⟩:Pm)]).length:=by rw [List.length_append];rfl
  replace E:=E.aI (i:=4) (ys:=(qs++[(⟨z,Ab,cb,q2⟩:Pm)]).flatMap jM) rfl dW (by rw [List.flatMap_append,List.flatMap_cons,List.flatMap_nil,List.append_nil])
  rw [dW] at jF
  replace Z:=Z.sp 3 (.slice lJ ((qs++[(⟨z,Ab,cb,q2⟩:Pm)]).length) c37) rfl (by rw [dW])
  replace E:=Mem.Zr (a:=[.blk PO #[vI z.next,vI z.st.aB,vQ z.st.ak,.slice z.st.gA z.st.gs.length z.st.gc,.slice z.st.lA z.st.cl.length z.st.lc,.slice z.st.uA z.st.cu.length z.st.uc,.slice z.st.tA z.st.ts.length z.st.tc,.slice z.st.sA z.st.rs.length z.st.sc,.slice Ab q2.length cb] 182,.blk g6 #[vI z.next,vI z.st.aB,vQ z.st.ak,.slice z.st.gA z.st.gs.length z.st.gc,.slice z.st.lA z.st.cl.length z.st.lc,.slice z.st.uA z.st.cu.length z.st.uc,.slice z.st.tA z.st.ts.length z.st.tc,.slice z.st.sA z.st.rs.length z.st.sc,.slice Ab q2.length cb] 182,.blk g5 x.cells 53,.row (.slice lJ ((qs++[(⟨z,Ab,cb,q2⟩:Pm)]).length) c37) ((qs++[(⟨z,Ab,cb,q2⟩:Pm)]).length) ((qs++[(⟨z,Ab,cb,q2⟩:Pm)]).flatMap jM) 182 9]) (E.pt (fs':=(.row (.slice Ab q2.length cb) q2.length (q2.flatMap hbL) 80 5:: .blk PO #[vI z.next,vI z.st.aB,vQ z.st.ak,.slice z.st.gA z.st.gs.length z.st.gc,.slice z.st.lA z.st.cl.length z.st.lc,.slice z.st.uA z.st.cu.length z.st.uc,.slice z.st.tA z.st.ts.length z.st.tc,.slice z.st.sA z.st.rs.length z.st.sc,.slice Ab q2.length cb] 182:: .blk g6 #[vI z.next,vI z.st.aB,vQ z.st.ak,.slice z.st.gA z.st.gs.length z.st.gc,.slice z.st.lA z.st.cl.length z.st.lc,.slice z.st.uA z.st.cu.length z.st.uc,.slice z.st.tA z.st.ts.length z.st.tc,.slice z.st.sA z.st.rs.length z.st.sc,.slice Ab q2.length cb] 182:: .blk g5 x.cells 53:: .row (.slice lJ ((qs++[(⟨z,Ab,cb,q2⟩:Pm)]).length) c37) ((qs++[(⟨z,Ab,cb,q2⟩:Pm)]).length) ((qs++[(⟨z,Ab,cb,q2⟩:Pm)]).flatMap jM) 182 9::(iB 242 q2++(iK qs++(kE z.st))))) 5 [1,0,2,3,4])
  replace E:Mem w _ (.blk PO #[vI z.next,vI z.st.aB,vQ z.st.ak,.slice z.st.gA z.st.gs.length z.st.gc,.slice z.st.lA z.st.cl.length z.st.lc,.slice z.st.uA z.st.cu.length z.st.uc,.slice z.st.tA z.st.ts.length z.st.tc,.slice z.st.sA z.st.rs.length z.st.sc,.slice Ab q2.length cb] 182:: .blk g6 #[vI z.next,vI z.st.aB,vQ z.st.ak,.slice z.st.gA z.st.gs.length z.st.gc,.slice z.st.lA z.st.cl.length z.st.lc,.slice z.st.uA z.st.cu.length z.st.uc,.slice z.st.tA z.st.ts.length z.st.tc,.slice z.st.sA z.st.rs.length z.st.sc,.slice Ab q2.length cb] 182:: .blk g5 x.cells 53:: .row (.slice lJ ((qs++[(⟨z,Ab,cb,q2⟩:Pm)]).length) c37) ((qs++[(⟨z,Ab,cb,q2⟩:Pm)]).length) ((qs++[(⟨z,Ab,cb,q2⟩:Pm)]).flatMap jM) 182 9::iK (qs++[(⟨z,Ab,cb,q2⟩:Pm)])):=E
  refine Jb Z E ((JG∘JR∘bn 1∘Jp 1∘aQ∘Jq) fun a Z E=>?_)
  exact ⟨_,om,i+1,(qs++[(⟨z,Ab,cb,q2⟩:Pm)]),lJ,c37,by omega,zew EG hx hz hqq,jF,rfl,Z.sub kr,E.pt 4 [3]⟩
 intro a Z E
 have iR:=of_decide_eq_false dR
 have hin:i=l.length:=by omega
 exact Jb Z E ((JF∘JX∘JG∘JP∘Jp 2∘aQ∘Jj∘JZ∘aH) fun E=>by exact ⟨_,_,qs,rfl,by rw [hin] at EG;exact EG,hco,E.pt (fs':=(.row (.slice Ao qs.length co) qs.length (qs.flatMap jM) 182 9::iK qs)) 1 [0]⟩)
theorem q4e (b b2:Bk) (A A2:Option Addr) (c c2:Nat) (w:World) (hr:Rd w w.heap.size 11 A b.evs.length (b.evs.flatMap eF)) (hr2:Rd w w.heap.size 11 A2 b2.evs.length (b2.evs.flatMap eF)) (hn:b.evs.length≤1000000) (he:b=b2):Calls Tryz.prog 78 #[.agg (b.cells A c),.agg (b2.cells A2 c2)] w (Is w (.bool true)):=by
 have k:=qx2 b b2 A A2 c c2 w hr hr2 hn
 rwa [decide_eq_true he] at k
theorem q4f (A:Option Addr) (c:Nat) (q:List Hb) (D:Option Addr) (c2:Nat) (q2:List Hb) (hqq:q.map Hb.b=q2.map Hb.b) (w:World) (hr:Rd w w.heap.size 5 A q.length (q.flatMap hbL)) (hr2:Rd w w.heap.size 5 D q2.length (q2.flatMap hbL)) (hQ:mU w q) (hQ2:mU w q2) (hev:∀h∈q,h.b.evs.length≤1000000) (hn:q.length≤1000000):
    Calls Tryz.prog 89 #[.slice A q.length c,.slice D q2.length c2] w (Is w (.bool true)):=by
 refine (jw Tryz.func89 28) ?_
 refine (JP∘Jp 1∘Jq) fun a Z E=>?_
 have hlq:q.length=q2.length:=by have h:=congrArg List.length hqq;rwa [List.length_map,List.length_map] at h
 refine Jb Z E ((JG∘JQ∘JP∘Jp 1∘Jl∘Jp 1∘Jl∘Jp 1∘eZ∘Jj) (Ju (fun cK=>?_) fun cK=>?_))
 ·
  intro a Z E
  have gI:=bne_iff_ne.1 cK
  exfalso;omega
 intro a Z E
 have gI:=bne_eq_false_iff_eq.1 cK
 refine Jb Z E ((JF∘aG∘JQ∘JP∘Jp 1∘Jl∘Jp 1∘Jj∘JB) fun a Z E=>?_)
 refine qc (fun mS aS wS=>∃(k:Nat),(k≤q.length)∧mS=q.length-k∧Fr aS 28 [] [(14,vI k),(13,vI q.length),(12,.slice A q.length c),(11,.bool false),(4,.bool false),(0,.slice A q.length c),(1,.slice D q2.length c2)]∧Mem w wS []) (m:=q.length-0) ⟨0,Nat.zero_le _,rfl,Z.sub kr,E.pk []⟩ ?_
 clear Z E;rintro mS a w_ ⟨k,hk,rfl,Z,E⟩
 refine Jb Z E ((JP∘Jp 1∘Jj∘JQ) (Ju (fun fP=>?_) fun fP=>?_))
 ·
  intro a Z E
  have kM:=of_decide_eq_true fP
  have Cy:k<q.length:=by omega
  have hxy:(q.getD k Hb.zero).b=(q2.getD k Hb.zero).b:=NC hqq Cy
  refine Jb Z E ((JT∘aG∘JQ∘JB∘JP∘Jp 1) ?_)
  repeat (first|clear Z|clear E)
  intro a Z E
  obtain ⟨gA,oA,rfl,_⟩:=hr.qd (Nat.lt_of_le_of_lt (Nat.zero_le _) (show k<q.length from by omega)) de
  refine Jb Z E ((Jy (h:=by exact Yl.ix gA oA k 5 rfl rfl rfl)∘Jy (v:= .agg ((q.getD k Hb.zero).b.cells (q.getD k Hb.zero).A (q.getD k Hb.zero).c)) (h:=by exact Yl.qf rfl rfl aP rfl (fun _ h=>(h.old hr).qm qc5 ((getD_at Hb.zero Cy))))∘JA #[vB 0,vB 0,vI 0,vI 0,vN]) fun w6 g6=>(Jp 1∘JV aP bg (h1:=by exact vg _ _ _)) fun aax=>(Jj) fun a Z E=>?_)
  refine wp_seq ?_
  refine Jb Z E ((Vs .n []) fun Ta=>(Vp [2,3]∘Vy 0 (v:= .agg ((q.getD k Hb.zero).b.cells (q.getD k Hb.zero).A (q.getD k Hb.zero).c)) (h:=by exact Yl.qf rfl rfl aP rfl (fun _ h=>qb (h.blk (i:=0) rfl)))) ?_)
  repeat (first|clear Z|clear E|clear HS)
  intro a Z E HS
  obtain ⟨gD,oD,rfl,_⟩:=hr2.qd (Nat.lt_of_le_of_lt (Nat.zero_le _) (show k<q2.length from by omega)) de
  refine Vb Z E HS ((Vy 4 (h:=by exact Yl.ix gD oD k 5 rfl rfl rfl)∘Vy 5 (v:= .agg ((q2.getD k Hb.zero).b.cells (q2.getD k Hb.zero).A (q2.getD k Hb.zero).c)) (h:=by exact Yl.qf rfl rfl BA rfl (fun _ h=>(h.old hr2).qm qc5 ((getD_at Hb.zero om))))∘VK 1 .n (h:=by exact fun E=>qin (q.getD k Hb.zero).b ((q.getD k Hb.zero).A) (q.getD k Hb.zero).c _ (E.old (hQ.at Cy)) (hev _ (qi Hb.zero Cy)))) fun LZ c20 nZ yw=>(VI 6 (.f .n) (h:=by exact fun E=>q4e (q.getD k Hb.zero).b (q2.getD k Hb.zero).b LZ ((q2.getD k Hb.zero).A) c20 (q2.getD k Hb.zero).c _ (E.rd (i:=0) rfl) (E.old (hQ2.at om)) (hev _ (qi Hb.zero Cy)) hxy)) fun Le hbw=>(Vp [7]∘Vd∘aF∘JF∘aG∘JR∘bn 1∘Jp 1∘aQ∘Jq) fun a Z E=>?_)
  exact ⟨_,om,k+1,by omega,rfl,Z.sub kr,E.pk []⟩
 intro a Z E
 have kM:=of_decide_eq_false fP
 exact Jb Z E ((JF∘JX∘JG∘JP∘Jp 1∘Jj∘JZ) uI)
theorem qx7 (x y:Pm) (hxo:fH x) (hxy:ug x.v y.v) (w:World) (C8:dQ w x) (jG:dQ w y):
    Calls Tryz.prog 82 #[.agg x.cells,.agg y.cells] w (Is w (.bool true)):=by
 refine (jw Tryz.func82 18) ?_
 refine (JP∘JE) fun w2 g2=>(JE) fun w3 g3=>(Jp 1∘Jj) fun a Z E=>?_
 refine wp_seq ?_
 refine Jb Z E ((Vs .n []) fun Tc=>(Vf 0 0∘Vf 3 0∘Vy 1 (v:= .agg x.z.cells) (h:=by exact Yl.qf rfl rfl zr rfl (fun _ h=>h.sub (i:=1) rfl 0 rfl))∘Vy 4 (v:= .agg y.z.cells) (h:=by exact Yl.qf rfl rfl FC rfl (fun _ h=>h.sub (i:=0) rfl 0 rfl))) fun a Z E HS=>?_)
 refine s_on Z 2 rfl ?_
 refine rz Z [.agg x.z.cells] rfl rfl (qmo x.z _ (C8.st.old E) hxo.few) ?_
 rintro _ w7 ⟨z,rfl,hz,hzc,hm⟩
 refine ⟨_,rfl,?_⟩
 replace E:=(show Mem w _ (.blk g3 y.cells 182:: .blk g2 x.cells 53::kE z.st) from E.qG hm)
 clear Z;intro a Z
 refine au (E.pk [0,1]) (fun HS=>?_)
 refine s_on Z 5 rfl (zC Z E [.agg z.cells,.agg y.z.cells] (.bool true) rfl rfl (qx6 x.z z y.z hz hxy.1 hxo.few _ (E.stR (T:=[]) 2 rfl) (jG.st.old E)) fun ru hbw E a Z=>?_)
 refine au (E.pk [0,1]) (fun HS=>?_)
 refine Vb Z E HS ((Vp [6]∘Vf 7 8∘Vf 9 8∘Vc 8 O1∘Vc 10 O0) fun a Z E HS=>?_)
 refine s_on Z 11 rfl (zC Z E [.slice x.A x.q.length x.c,.slice y.A y.q.length y.c] (.bool true) rfl rfl (q4f x.A x.c x.q y.A y.c y.q hxy.2 _ (E.old C8.bl) (E.old jG.bl) (C8.ev.old E) (jG.ev.old E) hxo.FW hxo.len) fun w16 hbw E a Z=>?_)
 refine au (E.pk [0,1]) (fun HS=>?_)
 exact Vb Z E HS ((Vp [12,13]∘Vd∘aF∘JZ) uI)
theorem q4g (A:Option Addr) (c:Nat) (l:List Pm) (B:Nat) (w:World) (hL:aO B w) (hB:B≤w.heap.size) (hr:Rd w w.heap.size 9 A l.length (l.flatMap jM)) (hP:∀p∈l,fH p∧dQ w p) (hc:l.length≤c) (hn:l.length≤100000) {R:List Nat} {we:Nat} (h:nI (l.map Pm.v)=(R,we)):Calls Tryz.prog 16 #[.slice A l.length c] w (qx w we R):=by
 have k:=qh1 A c l B w hL hB hr hP hc hn
 rwa [h] at k
theorem qx8 (A:Option Addr) (c:Nat) (l:List Pm) (w:World) (hr:Rd w w.heap.size 9 A l.length (l.flatMap jM)) (hP:∀p∈l,yG p∧dQ w p) (hn:l.length≤1000) {R:List Nat} {we:Nat} (h:nI (l.map Pm.v)=(R,we)):Calls Tryz.prog 35 #[.slice A l.length c] w (qx w we R):=by
 have k:=qtm A c l w hr hP hn
 rwa [h] at k
theorem qra (A:Option Addr) (c:Nat) (l:List Pm) (B:Nat) (w:World) (hL:aO B w) (hB:B≤w.heap.size) (hr:Rd w w.heap.size 9 A l.length (l.flatMap jM)) (hP:∀p∈l,fH p∧dQ w p) (hc:l.length≤c) (hn:l.length≤1000):
    Calls Tryz.prog 32 #[.slice A l.length c] w (Is w (.bool true)):=by
 refine (bZ Tryz.func32 71) ?_
 refine (JP∘Jp 1∘Jq) fun a Z E=>?_
 obtain ⟨ci,ce,hce⟩:∃ci ce,nH (l.map Pm.v)=(ci,ce):=⟨_,_,rfl⟩
 obtain ⟨R,we,hwr⟩:∃R we,nI (l.map Pm.v)=(R,we):=⟨_,_,rfl⟩
 refine Jb Z E ((JG∘JP∘Jp 1∘JL (h:=by exact fun E=>qq9 A c l _ (E.old hr) (fun p hp=>⟨(hP p hp).1,(hP p hp).2.old E⟩) hn)) ?_)
 rintro E _ CO ⟨Ao,co,qs,rfl,EG,hco,hm⟩
 refine ⟨_,rfl,_,(show Mem w _ (.row (.slice Ao qs.length co) qs.length (qs.flatMap jM) 182 9::iK qs) from E.qG hm),?_⟩
 refine (Jp 1∘aT∘Jq) fun a Z E=>?_
 have hro:=zev (fun p hp=>(hP p hp).1) EG
 have hpv:=q9o EG
 have aaz:nH (qs.map Pm.v)=(ci,ce):=(Ut hpv).trans hce
 have hwr2:nI (qs.map Pm.v)=(R,we):=(qqv hpv).trans hwr
 have kF:=EG.1
 refine Jb Z E ((JG∘JP∘Jp 1∘JI (h:=by exact fun E=>UK A c l B _ (hL.mem E hB) (E.le hB) (E.old hr) (fun p hp=>⟨(hP p hp).1,(hP p hp).2.old E⟩) hc om hce)) fun K5 hbw=>(Jp 1∘Jx∘Jx∘Jp 2∘Jr∘Jp 1∘JI (h:=by exact fun E=>qmn Ao co qs _ (E.rd (i:=0) rfl) (fun p hp=>⟨hro p hp,E.BD (fun f hf=>List.mem_of_mem_drop (i:=1) hf) p hp⟩) om aaz)) fun K6 hbw=>(Jp 1∘Jx∘Jx∘Jp 2∘Jr∘Jp 1∘JK (h:=by exact fun E=>q4g A c l B _ (hL.mem E hB) (E.le hB) (E.old hr) (fun p hp=>⟨(hP p hp).1,(hP p hp).2.old E⟩) hc om hwr)) fun uS c28 UL hc28=>(Jp 1∘Jx∘Jx∘Jp 2∘Jr∘Jp 1∘JK (h:=by exact fun E=>qx8 Ao co qs _ (E.rd (i:=1) rfl) (fun p hp=>⟨hro p hp,E.BD (fun f hf=>List.mem_of_mem_drop (i:=2) hf) p hp⟩) om hwr2)) fun Lc Dy SV xW=>(Jp 1∘Jx∘Jx∘Jp 2∘Jj∘JQ∘JP∘Jp 3∘Jo (.bool false) (by simp)∘Jp 4∘Jo (.bool false) (by simp)∘Jp 5∘Jo (.bool false) (by simp)∘Jp 3∘Jy (h:=by exact Yl.str rfl rfl (fun _ h=>h.rd (i:=1) rfl))∘Jp 1∘Jy (h:=by exact Yl.str rfl rfl (fun _ h=>h.rd (i:=0) rfl))∘Jp 1∘Jo (.bool false) (by simp)∘Jp 1∘aF∘Jq) fun a Z E=>?_)
 replace Z:=Z.to [(55,.bool false),(3,.slice Ao qs.length co),(2,.bool false),(0,.slice A l.length c)]
 refine Jb Z E ((JG∘JF∘aG∘JQ∘JP∘Jp 1∘Jl∘Jp 1∘Jj∘JB) fun a Z E=>?_)
 refine qc (fun mS aS wS=>∃(k:Nat),(k≤l.length)∧mS=l.length-k∧Fr aS 71 [] [(58,vI k),(57,vI l.length),(56,.slice A l.length c),(55,.bool false),(3,.slice Ao qs.length co),(2,.bool false),(0,.slice A l.length c)]∧Mem w wS (.row (.slice Ao qs.length co) qs.length (qs.flatMap jM) 182 9::iK qs)) (m:=l.length-0) ⟨0,Nat.zero_le _,rfl,Z.sub kr,E.pt 3 [2]⟩ ?_
 clear Z E;rintro mS a w_ ⟨k,hk,rfl,Z,E⟩
 refine Jb Z E ((JP∘Jp 1∘Jj∘JQ) (Ju (fun uq=>?_) fun uq=>?_))
 ·
  intro a Z E
  have BO:=of_decide_eq_true uq
  have uw:k<l.length:=by omega
  obtain ⟨x,hx⟩:∃x,(l.getD k Pm.zero)=x:=⟨_,rfl⟩
  obtain ⟨y,hy⟩:∃y,(qs.getD k Pm.zero)=y:=⟨_,rfl⟩
  have hxm:x∈l:=by rw [←hx];exact qi Pm.zero uw
  have hym:y∈qs:=by rw [←hy];exact qi Pm.zero om
  have hxy:ug x.v y.v:=by rw [←hx,←hy];exact EG.2 k uw
  refine Jb Z E ((JT∘aG∘JQ∘JB∘JP∘Jp 1) ?_)
  repeat (first|clear Z|clear E)
  intro a Z E
  obtain ⟨gA,oA,rfl,_⟩:=hr.qd (Nat.lt_of_le_of_lt (Nat.zero_le _) (show k<l.length from by omega)) de
  refine Jb Z E ((Jy (h:=by exact Yl.ix gA oA k 9 rfl rfl rfl)∘Jy (v:= .agg ((l.getD k Pm.zero).cells)) (h:=by exact Yl.qf rfl rfl bS rfl (fun _ h=>(h.old hr).qm vR ((getD_at Pm.zero uw))))∘Jo (.agg x.cells) (by rw [hx])∘JA #[vI 0,vI 0,vQ 0,vN,vN,vN,vN,vN,vN]) fun wP g13=>(Jp 1∘JV bS bg (h1:=by exact FY x)) fun aia=>(Jj) fun a Z E=>?_)
  refine wp_seq ?_
  refine Jb Z E ((Vs .n []) fun Nh=>(Vp [1,2]∘Vy 0 (v:= .agg x.cells) (h:=by exact Yl.qf rfl rfl bS rfl (fun _ h=>qb (h.blk (i:=0) rfl)))) ?_)
  repeat (first|clear Z|clear E|clear HS)
  intro a Z E HS
  obtain ⟨GL,rfl⟩:=Dq (E.own (i:=1) rfl) (Nat.lt_of_le_of_lt (Nat.zero_le _) (show k<qs.length from by omega))
  refine Vb Z E HS ((Vy 3 (h:=by exact Yl.uV GL k 9 rfl rfl rfl)∘Vy 4 (v:= .agg ((qs.getD k Pm.zero).cells)) (h:=by exact Yl.qf rfl rfl Zo rfl (fun _ h=>h.VR vR (i:=1) rfl ((getD_at Pm.zero om))))∘Vo (.agg y.cells) (by rw [hy])∘VI 5 .n (h:=by exact fun E=>qx7 x y (hP x hxm).1 hxy _ ((hP x hxm).2.old E) (E.BD (fun f hf=>List.mem_of_mem_drop (i:=2) hf) y hym))) fun YG hbw=>(Vp [6]∘Vd∘aF∘JF∘aG∘JR∘bn 1∘Jp 1∘aQ∘Jq) fun a Z E=>?_)
  exact ⟨_,om,k+1,by omega,rfl,Z.sub kr,E.pt 2 [1]⟩
 intro a Z E
 have BO:=of_decide_eq_false uq
 exact Jb Z E ((JF∘JX∘JG∘JP∘Jp 1∘Jj∘JZ) uI)
structure xJ (p:Pm):Prop where
 lit:jK p.z.st
 few:p.q.length≤6
 evs:∀i,i<p.q.length→(p.q.getD i Hb.zero).b.evs.length≤60
def q9x (w:World) (p:Pm):Prop:=bP p.z.next∧(p.z.st.aD.Ok∧fK p.z.st)∧dQ w p∧p.q.length≤p.c∧∀h∈p.q,h.b.Ok
theorem zc1 {q:List Hb} {j:Nat} (h:∀i,i<j→(q.getD i Hb.zero).b.evs.length≤60) (hj:(q.getD j Hb.zero).b.evs.length≤60):∀i,i<j+1→(q.getD i Hb.zero).b.evs.length≤60:=fun i hi=>by
 rcases Nat.lt_or_ge i j with h1|h1
 ·exact h i h1
 ·obtain rfl:i=j:=by omega
  exact hj
theorem q8b {l:List Pm} {k:Nat} {x:Pm} (h:∀i,i<k→xJ (l.getD i Pm.zero)) (hx:l.getD k Pm.zero=x) (h1:jK x.z.st) (h2:x.q.length≤6) (h3:∀i,i<x.q.length→(x.q.getD i Hb.zero).b.evs.length≤60):∀i,i<k+1→xJ (l.getD i Pm.zero):=fun i hi=>by
 rcases Nat.lt_or_ge i k with h4|h4
 ·exact h i h4
 ·obtain rfl:i=k:=by omega
  rw [hx]
  exact ⟨h1,h2,h3⟩
theorem ze9 {l:List Pm} {w:World} (hI:∀p∈l,q9x w p) (hu:∀i,i<l.length→xJ (l.getD i Pm.zero)):∀p∈l,fH p:=fun p hp=>by
 obtain ⟨h1,⟨h2,h3⟩,h4,h5,h6⟩:=hI p hp
 obtain ⟨i,hi,hx⟩:=List.getElem_of_mem hp
 have h7:=hu i hi
 rw [List.getD_eq_getElem?_getD,List.getElem?_eq_getElem hi,Option.getD_some,hx] at h7
 refine ⟨h2,za1 h7.lit,h3,h1,h6,fun h hh=>?_,by have:=h7.few;omega,h5⟩
 obtain ⟨j,hj,hy⟩:=List.getElem_of_mem hh
 have h8:=h7.evs j hj
 rw [List.getD_eq_getElem?_getD,List.getElem?_eq_getElem hj,Option.getD_some,hy] at h8
 omega
theorem qip (A:Option Addr) (c:Nat) (l:List Pm) (B:Nat) (w:World) (hL:aO B w) (hB:B≤w.heap.size) (hr:Rd w w.heap.size 9 A l.length (l.flatMap jM)) (hI:∀p∈l,q9x w p) (hc:l.length≤c):
    Calls Tryz.prog 6 #[.slice A l.length c] w (Is w (.bool true)):=by
 refine (bZ Tryz.func6 48) ?_
 refine (JP∘Jp 1∘Jj∘JQ∘JP∘Jp 1∘Jl∘Jp 1∘aT∘Jj) (Ji (fun vv=>?_) fun vv=>?_)
 ·
  exact (JT∘JP∘JI (h:=by exact fun E=>UO B _ (hL.mem E hB) (E.le hB))) fun ru hbw=>(Jp 1∘aQ∘Jj∘JZ) uI
 refine (JF∘aG∘JQ∘JP∘Jp 1∘Jl∘Jp 1∘Jj∘JB) fun a Z E=>?_
 refine qc (fun mS aS wS=>∃(k:Nat),(k≤l.length)∧(∀i,i<k→xJ (l.getD i Pm.zero))∧mS=l.length-k∧Fr aS 48 [] [(13,vI k),(12,vI l.length),(11,.slice A l.length c),(9,.bool false),(2,.bool false),(0,.slice A l.length c)]∧Mem w wS []) (m:=l.length-0) ⟨0,Nat.zero_le _,fun i h=>absurd h (Nat.not_lt_zero i),rfl,Z.sub kr,E.pk []⟩ ?_
 clear Z E;rintro mS a w_ ⟨k,hk,hu,rfl,Z,E⟩
 refine Jb Z E ((JP∘Jp 1∘Jj∘JQ) (Ju (fun fZ=>?_) fun fZ=>?_))
 ·
  intro a Z E
  have kV:=of_decide_eq_true fZ
  have I8:k<l.length:=by omega
  obtain ⟨x,hx⟩:∃x,(l.getD k Pm.zero)=x:=⟨_,rfl⟩
  have hxm:x∈l:=by rw [←hx];exact qi Pm.zero I8
  obtain ⟨hxn,hxk,C8,hxc,hxb⟩:=hI x hxm
  refine Jb Z E ((JT∘aG∘JQ∘JB∘JP) ?_)
  repeat (first|clear Z|clear E)
  intro a Z E
  obtain ⟨gA,oA,rfl,_⟩:=hr.qd (Nat.lt_of_le_of_lt (Nat.zero_le _) (show k<l.length from by omega)) de
  refine Jb Z E ((Jy (h:=by exact Yl.ix gA oA k 9 rfl rfl rfl)∘Jy (v:= .agg ((l.getD k Pm.zero).cells)) (h:=by exact Yl.qf rfl rfl bS rfl (fun _ h=>(h.old hr).qm vR ((getD_at Pm.zero I8))))∘Jo (.agg x.cells) (by rw [hx])∘JA #[vI 0,vI 0,vQ 0,vN,vN,vN,vN,vN,vN]) fun w4 g4=>(JV bS bg (h1:=by exact FY x)) fun zN=>(aT∘Jj∘JQ) fun a Z E=>?_)
  refine zn (fun aS wS=>Fr aS 48 [] [(27,.bool (decide (¬jK x.z.st∨6<x.q.length))),(4,vP g4 0),(14,.bool true),(13,vI k),(12,vI l.length),(11,.slice (some ⟨gA,oA,none⟩) l.length c),(9,.bool false),(2,.bool false),(0,.slice (some ⟨gA,oA,none⟩) l.length c)]∧Mem w wS [.blk g4 x.cells 53]) ?_ ?_
  ·
   refine zg ?_
   refine Jb Z E ((Jf 0∘Jf 1∘Jy (v:= .agg x.z.st.cells) (h:=by exact Yl.qf rfl rfl dD rfl (fun _ h=>h.sub (i:=0) rfl 1 rfl))∘JI (h:=by exact fun E=>qx5 x.z.st _ (C8.st.old E))) fun nZ hbw=>(Jp 2) (Ju (fun jD=>?_) fun jD=>?_))
   ·
    intro a Z E
    have jf:=of_decide_eq_false ((Bool.not_eq_true' _).mp jD)
    refine Jb Z E ((Jp 5∘aF∘Jq) fun a Z E=>?_)
    have Z:=Z.sp 27 (.bool (decide (¬jK x.z.st∨6<x.q.length))) rfl (congrArg Value.bool (by rw [decide_eq_true (.inl (by simpa using jD))]))
    exact ⟨Z.sub kr,E.pk [0]⟩
   intro a Z E
   have jf:=of_decide_eq_true ((Bool.not_eq_false' _).mp jD)
   refine Jb Z E ((Jg 8 O0∘Jl∘Jp 2∘aF∘Jq) fun a Z E=>?_)
   have Z:=Z.sp 27 (.bool (decide (¬jK x.z.st∨6<x.q.length))) rfl (congrArg Value.bool (by rw [decide_eq_decide];have h22:jK x.z.st:=(by simpa using jD);exact ⟨fun h=> .inr om,fun h=>by rcases h with h|h<;>first|exact absurd h22 h|omega⟩))
   exact ⟨Z.sub kr,E.pk [0]⟩
  clear Z E;rintro a w6 ⟨Z,E⟩
  refine Jb Z E (Ji (fun hd27=>?_) fun hd27=>?_)
  ·
   exact (JT∘JP∘JI (h:=by exact fun E=>UO B _ (hL.mem E hB) (E.le hB))) fun UL hbw=>(Jp 1∘aQ∘Jj∘JZ) uI
  refine (JF∘aG∘JP∘Jg 8 O0∘Jl∘Jp 1∘Jj∘JB) fun a Z E=>?_
  refine qc (fun mS aS wS=>∃(j:Nat),(j≤x.q.length)∧(∀i,i<j→(x.q.getD i Hb.zero).b.evs.length≤60)∧mS=x.q.length-j∧Fr aS 48 [] [(32,vI j),(31,vI x.q.length),(30,.slice x.A x.q.length x.c),(27,.bool false),(4,vP g4 0),(14,.bool true),(13,vI k),(12,vI l.length),(11,.slice (some ⟨gA,oA,none⟩) l.length c),(9,.bool false),(2,.bool false),(0,.slice (some ⟨gA,oA,none⟩) l.length c)]∧Mem w wS []) (m:=x.q.length-0) ⟨0,Nat.zero_le _,fun i h=>absurd h (Nat.not_lt_zero i),rfl,Z.sub kr,E.pk []⟩ ?_
  clear Z E;rintro mS a w_ ⟨j,hj,hv,rfl,Z,E⟩
  refine Jb Z E ((JP∘Jp 1∘Jj∘JQ) (Ju (fun vU=>?_) fun vU=>?_))
  ·
   intro a Z E
   have vG:=of_decide_eq_true vU
   have aaT:j<x.q.length:=by omega
   refine Jb Z E ((JT∘aG∘JQ∘JB∘JP) fun a Z E=>?_)
   obtain ⟨dU,dV,hq1,_⟩:=Rd.qd C8.bl (Nat.lt_of_le_of_lt (Nat.zero_le _) (show j<x.q.length from by omega)) de
   have aZ:=C8.bl;rw [hq1] at aZ
   replace Z:=Z.sp 30 (.slice (some ⟨dU,dV,none⟩) x.q.length x.c) rfl (by rw [hq1];try rfl)
   refine Jb Z E ((Jy (h:=by exact Yl.ix dU dV j 5 rfl rfl rfl)∘Jy (v:= .agg ((x.q.getD j Hb.zero).b.cells (x.q.getD j Hb.zero).A (x.q.getD j Hb.zero).c)) (h:=by exact Yl.qf rfl rfl aP rfl (fun _ h=>(h.old aZ).qm qc5 ((getD_at Hb.zero aaT))))∘JA #[vB 0,vB 0,vI 0,vI 0,vN]) fun w6 g6=>(JV aP bg (h1:=by exact vg _ _ _)) fun aiy=>(aT∘Jr∘Jg 4 O0∘Jl∘Jp 1∘aT∘Jj) (Ji (fun hd39=>?_) fun hd39=>?_))
   ·
    exact (JT∘JP∘JI (h:=by exact fun E=>UO B _ (hL.mem E hB) (E.le hB))) fun Wm hbw=>(Jp 1∘aQ∘Jj∘JZ) uI
   refine (JF∘aG∘JR∘bn 1∘Jp 1∘aQ∘Jq) fun a Z E=>?_
   replace Z:=Z.sp 30 (.slice x.A x.q.length x.c) rfl (by rw [hq1])
   exact ⟨_,om,j+1,by omega,zc1 hv om,rfl,Z.sub kr,E.pk []⟩
  intro a Z E
  have vG:=of_decide_eq_false vU
  refine Jb Z E ((JF∘JX∘JG∘JR∘bn 1∘Jp 1∘aQ∘Jq) fun a Z E=>?_)
  exact ⟨_,om,k+1,by omega,q8b hu hx (Classical.byContradiction fun h=>hd27 (.inl h)) (Nat.le_of_not_lt fun h=>hd27 (.inr h)) (fun i hi=>hv i om),rfl,Z.sub kr,E.pk []⟩
 intro a Z E
 have kV:=of_decide_eq_false fZ
 have hkn:k=l.length:=by omega
 have hpo:=ze9 hI (by rw [←hkn];exact hu)
 exact Jb Z E ((JF∘JX∘JG∘JP∘Jp 1∘JI (h:=by exact fun E=>qra A c l B _ (hL.mem E hB) (E.le hB) (E.old hr) (fun p hp=>⟨hpo p hp,(hI p hp).2.2.1.old E⟩) hc om)) fun Nv hbw=>(Jp 1∘JI (h:=by exact fun E=>UO B _ (hL.mem E hB) (E.le hB))) fun K7 hbw=>(Jp 2∘jq∘Jj∘JZ) uI)
end Go.Proofs.YtekiimhdnigmcaaGreatDoor
