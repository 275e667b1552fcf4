/- Parts. -/
import Derived.Test.YtieeckeaijdaeaaGreatDoorQaZ3
set_option linter.all false
set_option maxRecDepth 100000
set_option maxHeartbeats 1000000
namespace Go.Proofs.YtieeckeaijdaeaaGreatDoor
open Go.RowKit
theorem qya (A:Option Addr) (c:Nat) (l:List Nat) (B:Nat) (w:World) (hL:ax B w) (hB:B≤w.heap.size) (hr:Rd w w.heap.size 1 A l.length (l.map B8)) (hc:l.length≤c) (hn:l.length≤100000000) (hl:∀z∈l,z<256):
    Calls Tryz.prog 137 #[.slice A l.length c] w (NB w (lK l) (jk l)):=by
 refine (dM Tryz.func137 37) ?_
 refine (JP∘JA #[vI 0,vI 0,vQ 0,vN,vN,vN,vN,vN]) fun w2 g2=>(Jp 1∘Jj∘JQ) fun a Z HM=>?_
 rcases hop:dx l with k|p
 ·
  have hke:=Sg hop
  refine Jb Z HM ((JR∘Jp 1∘JI (h:=by exact fun HM=>q5k A c l B _ (hL.mem HM hB) (HM.le hB) (HM.old hr) hc hn hl hop)) fun uH hbw=>(Jp 1∘Jx∘Jx∘Jp 2∘Jj∘JQ∘JP∘Jp 2∘aT∘Jj) (Ju (fun qD=>?_) fun qD=>?_))
  ·
   intro a Z HM
   have Dh:=bne_iff_ne.1 qD
   refine Jb Z HM ((JT∘JP∘Jy (v:= .agg #[vI 0,vI 0,vQ 0,vN,vN,vN,vN,vN]) (h:=by exact Yl.build (vs:=[]) rfl kr kr)∘Jp 1∘JV zr bg) fun uK=>(Jp 1∘bK∘Jj∘JZ) fun a Z HM=>?_)
   exact dP rfl Z (.cellS (i:=0) Z HM rfl rfl zr rfl) (.tmp Z rfl) (SB (vF hop) rfl (HM.pk []))
  intro a Z HM
  have Dh:=bne_eq_false_iff_eq.1 qD
  exfalso;omega
 ·
  have hfit:=(Sy hl hop).2.2.1
  refine Jb Z HM ((JR∘Jp 1∘JL (h:=by exact fun HM=>q5j A c l B _ (hL.mem HM hB) (HM.le hB) (HM.old hr) hc hn hl hop)) ?_)
  rintro HM _ uH ⟨g10,iv,av,NA,nc,SA,sc,rfl,hnc,hsc,hm⟩
  refine ⟨_,rfl,_,HM.join hm,?_⟩
  refine (Jp 1∘Jx∘Jx∘Jp 2∘Jj∘JQ∘JP∘Jv 2 [(14,.bool false)]∘Jj∘JF∘aI∘JP∘Jp 1∘Jn∘Jg 2 O0∘Jy (v:= .agg #[.slice NA p.nums.length nc,.bool true]) (h:=by exact Yl.build (vs:=[(0,.slice NA p.nums.length nc),(1,.bool true)]) rfl kr kr)∘JE) fun MC g22=>(Jp 1∘qR∘Jr∘Jp 1∘JL (h:=by exact fun HM=>qtr _ _ g22 NA nc p hfit [.blk g2 #[vI 0,vI 0,vQ 0,vN,vN,vN,vN,vN] 52] (HM.pk [0,2,4]) hnc)) ?_
  rintro HM _ Xi ⟨z,SA2,n2,c2,rfl,hz,hcap,dh⟩
  refine ⟨_,rfl,_,dh,?_⟩
  refine (JA #[vI 0,vI 0,vQ 0,vN,vN,vN,vN,vN]) fun w7 g7=>(JV zr bg (h1:=by exact Rt z)) fun yN=>(bK∘Jj∘JQ∘JP∘Jp 1∘Jn∘Jg 1 O1∘Jp 2) (Ju (fun jh=>?_) fun jh=>?_)
  ·
   refine (Jp 4∘aN∘Jj∘JT∘JP∘Jy (v:= .agg #[vI 0,vI 0,vQ 0,vN,vN,vN,vN,vN]) (h:=by exact Yl.build (vs:=[]) rfl kr kr)∘JV zr fA) fun Eb=>(Jp 1∘aT∘Jj∘JZ) fun a Z HM=>?_
   exact dP rfl Z (.cellS (i:=2) Z HM rfl rfl zr rfl) (.tmp Z rfl) (SB (Nz hop (fun h=>by rw [h.1] at jh;cases jh)) rfl (HM.pk []))
  refine (Jy (v:= .agg z.cells) (h:=by exact Yl.qm rfl rfl zr rfl (fun _ h=>qc (h.blk (i:=0) rfl)))∘JI (h:=by exact fun HM=>Ty z (ZI hz (ZB hfit)) (Za (Nj hz) (Sw hfit _ (.inl rfl))) hcap _ (HM.stX 3 rfl))) fun w32 hbw=>(Jp 2∘aN∘Jj) (Jh (fun hd34=>?_) fun hd34=>?_)
  ·
   refine (JT∘JP∘Jy (v:= .agg #[vI 0,vI 0,vQ 0,vN,vN,vN,vN,vN]) (h:=by exact Yl.build (vs:=[]) rfl kr kr)∘JV zr fA) fun Eb=>(Jp 1∘aT∘Jj∘JZ) fun a Z HM=>?_
   exact dP rfl Z (.cellS (i:=2) Z HM rfl rfl zr rfl) (.tmp Z rfl) (SB (Nz hop (fun h=>by have h2:=h.2;rw [←IV hz] at h2;omega)) rfl (HM.pk []))
  refine (JF∘aI∘JP∘Jy (v:= .agg z.cells) (h:=by exact Yl.qm rfl rfl zr rfl (fun _ h=>qc (h.blk (i:=0) rfl)))∘JV zr fA (h1:=by exact Rt z)) fun Ii=>(Jp 1∘aT∘Jj∘JZ) fun a Z HM=>?_
  exact dP rfl Z (.cellS (i:=2) Z HM rfl rfl zr rfl) (.tmp Z rfl) (qxo (Sz hop ⟨by simpa using jh,by rw [←IV hz];omega⟩) rfl hz hcap (HM.nC (List.sublist_append_right ([.blk g7 z.cells 52,.blk g22 #[.slice SA2 n2 c2,.bool p.okB] 287,.blk g2 z.cells 52]:List ag) _)))
section
variable {l:List Nat}
theorem Kz (hl:∀z∈l,z<256) (h:lK l=0):(jk l).st.aB.Ok∧bX (jk l).st∧1≤(jk l).next∧(jk l).next≤281474976710657:=by
 have hc:=(Nf (ZQ hl h).1).1
 refine ⟨?_,?_,by omega,by omega⟩
 all_goals
  cases ho:dx l with
  |error k=>
   rw [(vF ho).1] at h
   have:=Sg ho
   omega
  | ok p =>
   have hfit:=(Sy hl ho).2.2.1
   by_cases h2:p.okB=true∧bL p.oP=0
   ·rw [(Sz ho h2).2]
    first|exact ZB hfit|exact Sw hfit _ (.inl rfl)
   ·rw [(Nz ho h2).1] at h
    cases h
theorem qsd:∀{bs:List Bk},(∀b∈bs,b.err=0)→13*bs.length≤(bP bs).length
 |[],_=>Nat.zero_le _
 |b::t,h=>by
  have h1:=qsd (bs:=t) fun x hx=>h x (List.mem_cons_of_mem _ hx)
  have h2:=q31 (h b (List.mem_cons_self ..))
  have h3:bP (b::t)=b.out++bP t:=by unfold bP;rw [List.flatMap_cons]
  rw [h3,List.length_append,List.length_cons]
  omega
theorem qqd (hl:∀x∈l,x<256) (h:(readAll l).2=0):(readAll l).1.length≤1000000:=by
 have hn:l.length≤524288:=by
  rcases Nat.lt_or_ge 524288 l.length with h5|h5
  ·rw [Q9 h5] at h;cases h
  ·exact h5
 obtain ⟨h1,h2,_⟩:=SK hl h
 have h3:=qsd fun b hb=>(h1 b hb).2.1
 rw [h2] at h3
 omega
end
def TK (w:World) (b:List Nat) (x:Pl) (r:Ending) (w':World):Prop:=∃p:Pm,r= .returned (.tuple #[.agg p.cells,.int .i64 (bn b x:Int)])∧(bn b x=0→dH (jk (aW b x.sn x.st)) p.z∧p.q.map Hb.b=(readAll (aW b x.st x.en)).1)∧df p∧Mem w w' (fq p)
theorem qyc:df Pm.zero:=by
 refine ⟨⟨?_,?_,?_,?_,?_,?_,?_⟩,⟨?_,?_,?_,?_,?_,?_⟩,ZG,?_,?_,?_,?_,?_⟩
 all_goals first|exact Nat.zero_le _|(intro z hz;cases hz)|(show (0:Nat)<_;decide)|(show bC (0:Int);unfold bC;decide)
section
variable {W w w':World} {F T:List ag} {b:List Nat} {x:Pl}
theorem Mem.wL (h:Mem W w []):Mem W w (fq Pm.zero):=by
 exact ((((((h.nil 59 5).nil 129 1).nil 222 8).nil 3 1).nil 3 1).nil 166 2)
theorem TL {n:Int} (hn:(bn b x:Int)=n) (hne:n≠0) (HM:Mem W w []):TK W b x (.returned (.tuple #[.agg Pm.zero.cells,.int .i64 n])) w:=by
 subst hn
 exact ⟨Pm.zero,rfl,fun h=>absurd (by rw [h];rfl) hne,qyc,HM.wL⟩
theorem q1c {z:bT} {A:Option Addr} {c:Nat} {q:List Hb} (hb:∀y∈b,y<256) (h1:lK (aW b x.sn x.st)=0) (h2:(jk (aW b x.sn x.st)).next=(x.nx:Int)) (h3:(readAll (aW b x.st x.en)).2=0) (hz:dH (jk (aW b x.sn x.st)) z) (hcap:eU z.st) (hq:q.map Hb.b=(readAll (aW b x.st x.en)).1) (hc:q.length≤c) (HM:Mem W w (fq ⟨z,A,c,q⟩)):TK W b x (.returned (.tuple #[.agg (Pm.cells ⟨z,A,c,q⟩),.int .i64 0])) w:=by
 have hp:bn b x=0:=(ZN h1 h2).trans h3
 have hl1:=Fx hb x.sn x.st
 have hl2:=Fx hb x.st x.en
 obtain ⟨o1,o2,o3,o4⟩:=Kz hl1 h1
 obtain ⟨r1,r2,_⟩:=SK hl2 h3
 have kY:q.length=(readAll (aW b x.st x.en)).1.length:=by rw [←hq,List.length_map]
 refine ⟨⟨z,A,c,q⟩,by rw [hp];rfl,fun _=>⟨hz,hq⟩,⟨ZI hz o1,Za (Nj hz) o2,hcap,?_,fun h hh=>?_,fun h hh=>?_,by rw [kY];exact qqd hl2 h3,hc⟩,HM⟩
 ·show bC z.next
  rw [←hz.1]
  unfold bC
  omega
 ·exact (r1 h.b (by rw [←hq];exact List.mem_map_of_mem hh)).1
 ·have:=(r1 h.b (by rw [←hq];exact List.mem_map_of_mem hh)).2.2
  omega
end
def mP (p:Pm) (e:Nat):Array Value:= #[.int .i64 p.z.next,.int .i64 p.z.st.az,.int .u64 (p.z.st.au:Int),.slice p.z.st.gA p.z.st.gs.length p.z.st.gc,.slice p.z.st.lA p.z.st.cl.length p.z.st.lc,.slice p.z.st.uA p.z.st.cu.length p.z.st.uc,.slice p.z.st.tA p.z.st.ts.length p.z.st.tc,.slice p.z.st.sA p.z.st.rs.length p.z.st.sc,.slice p.A p.q.length p.c,.int .i64 (e:Int)]
theorem q21 (p:Pm) (e:Nat):∀v∈(mP p e).toList,v.oneCell'=true:=by
 intro v hv
 simp only [mP,List.mem_cons,List.not_mem_nil,or_false] at hv
 rcases hv with rfl|rfl|rfl|rfl|rfl|rfl|rfl|rfl|rfl|rfl<;>rfl
def mQ (b:List Nat) (x:Pl) (p:Pm):Prop:=bn b x=0→dH (jk (aW b x.sn x.st)) p.z∧p.q.map Hb.b=(readAll (aW b x.st x.en)).1
def TP (W:World) (b:List Nat) (L:List Pl) (lp:Nat) (Inv:List Pl→List ag→Prop) (Stop:List ag→Prop):Prop:=
 ∀(rest:List Pl) (F fr:List ag) (w:World) (i:Nat) (x:Pl) (t:List Pl) (p:Pm),Inv rest F→rest=x::t→L.drop i=rest→i<L.length→L.getD i Pl.zero=x→mQ b x p→df p→Mem W w (fq p++(F++fr))→
  YieldAt Fence.wide 0 Tryz.prog lp #[.int .i64 (i:Int),.agg (mP p (bn b x))] w fun e w'=>∃F',Mem W w' (F'++fr)∧((True∧e= .returned (.bool true)∧Inv t F')∨(True∧e= .returned (.bool false)∧Stop F'))
def qty (W:World) (Inv:List Pl→List ag→Prop) (Stop:List ag→Prop) (r:Ending) (w':World):Prop:=∃v,r= .returned v∧∃F',Mem W w' F'∧(Inv [] F'∨Stop F')
theorem qjj {W:World} {fr:List ag} {I S:List ag→Prop}:∀(e:Ending) (w':World),(∃F',Mem W w' (F'++fr)∧((True∧e= .returned (.bool true)∧I F')∨(True∧e= .returned (.bool false)∧S F')))→∃v,e= .returned v
 |_,_,⟨_,_,.inl ⟨_,h,_⟩⟩=>⟨_,h⟩
 |_,_,⟨_,_,.inr ⟨_,h,_⟩⟩=>⟨_,h⟩
section
variable {W w w':World} {a pa T F G es fr:List ag} {p:Pm} {q:List Pm}
theorem Mem.gD (n:Nat) (h:Mem W w F) (k:Mem w w' G) (he:F.drop n=T):Mem W w' (F.take n++(G++T)):=by
 have h2:=h.Y4 k
 rw [←List.take_append_drop n F,he,List.append_assoc] at h2
 exact h2.perm (List.Perm.append_left _ List.perm_append_comm)
theorem Mem.q1t (h:Mem W w (es++(pa++F))):Mem W w (pa++(F++es)):=by
 have h2:=h.perm List.perm_append_comm
 rwa [List.append_assoc] at h2
theorem Mem.q3d (h:Mem W w (pa++(a++T))):Mem W w (a++(pa++T)):=by
 rw [←List.append_assoc] at h⊢
 exact h.perm (List.Perm.append_right T List.perm_append_comm)
theorem Mem.q8b (h:Mem W w (a++(fq p++(eD q++fr)))):Mem W w (a++(eD (q++[p])++fr)):=by
 rw [qxx]
 rw [←List.append_assoc] at h⊢
 rw [←List.append_assoc] at h
 refine h.perm (List.Perm.append_right fr ?_)
 rw [List.append_assoc]
 exact List.Perm.append_left a List.perm_append_comm
theorem Mem.NY (h:Mem W w (a++(pa++fr))):Mem W w (a++fr):=h.nC (List.Sublist.append_left (List.sublist_append_right pa fr) a)
end
def TQ (w:World) (b:List Nat) (r:Ending) (w':World):Prop:=
 ((aQ b).2≠0∧Is w (.tuple #[.slice none 0 0,.int .i64 (-1),.int .i64 ((aQ b).2:Int)]) r w')∨
 ((aQ b).2=0∧∃k e,fH b (aQ b).1 0=some (k,e)∧Is w (.tuple #[.slice none 0 0,.int .i64 (k:Int),.int .i64 (e:Int)]) r w')∨
 ((aQ b).2=0∧fH b (aQ b).1 0=none∧∃(A:Option Addr) (c:Nat) (q:List Pm),r= .returned (.tuple #[.slice A q.length c,.int .i64 (-1),.int .i64 0])∧q.length=(aQ b).1.length∧(∀i,i<q.length→mQ b ((aQ b).1.getD i Pl.zero) (q.getD i Pm.zero))∧(∀p∈q,df p)∧q.length≤c∧Mem w w' (.row (.slice A q.length c) q.length (q.flatMap iV) 55 9::eD q))
theorem q22 {w:World} {B c i j:Nat} {A:Option Addr} {l:List Nat} (h:Rd w B 1 A l.length (l.map B8)) (h1:i≤j) (h2:j≤l.length) (hc:l.length≤c):Rd w B 1 (if c=i then A else A.map (·.add (i*1))) (j-i) ((aW l i j).map B8):=h.xw h1 h2 hc
theorem q1e (l:List Nat) (A:Option Addr) (n c:Nat) (B:Nat) (w:World) (hL:ax B w) (hB:B≤w.heap.size) (hr:Rd w w.heap.size 1 A n (l.map B8)) (hln:l.length=n) (hc:n≤c) (hl:∀b∈l,b<256) (hn:n≤100000000) {bs:List Bk} {er:Nat} (h:readAll l=(bs,er)):Calls Tryz.prog 44 #[.slice A n c] w (CS 32 59 w er bs):=by
 subst hln
 have k:=qqh A c l B w hL hB hr hc hl hn
 rwa [h] at k
theorem q1f {W w:World} {f:ag} {q:List Hb} (h:Mem W w (f::(fD 32 q++[]))):Mem W w (f::fD 32 q):=by rwa [List.append_nil] at h
theorem Mem.KC {W w w':World} {a gs:List ag} (h:Mem W w a) (k:Mem w w' gs):Mem W w' (a++(gs++[])):=by
 rw [List.append_nil]
 exact h.Y4 k
theorem q1g {W w:World} {z:bT} {A:Option Addr} {c:Nat} {q:List Hb} (h:Mem W w (.row (.slice A q.length c) q.length (q.flatMap hbL) 59 5::(fD 32 q++(nQ z.st++[])))):Mem W w (fq ⟨z,A,c,q⟩):=by
 rw [List.append_nil] at h
 exact h.perm (List.perm_append_comm (l₁:=ag.row (.slice A q.length c) q.length (q.flatMap hbL) 59 5::fD 32 q) (l₂:=nQ z.st))
theorem qqi (A:Option Addr) (c:Nat) (b:List Nat) (B:Nat) (w:World) (hL:ax B w) (hB:B≤w.heap.size) (hr:Rd w w.heap.size 1 A b.length (b.map B8)) (hc:b.length≤c) (hn:b.length≤100000000) (hl:∀z∈b,z<256) (x:Pl) (hx:x.sn≤x.st∧x.st≤x.en∧x.en≤b.length):
    Calls Tryz.prog 116 #[.agg #[vI (x.nx:Int),vI (x.sn:Int),vI (x.st:Int),vI (x.en:Int),.slice A b.length c]] w (CS 32 59 w (readAll (aW b x.st x.en)).2 (readAll (aW b x.st x.en)).1):=by
 refine (dM Tryz.func116 16) ?_
 refine (JP∘JE) fun w1 g1=>(Jp 2∘Jq) fun a Z HM=>?_
 obtain ⟨bs,er,hra⟩:∃bs er,readAll (aW b x.st x.en)=(bs,er):=⟨_,_,rfl⟩
 refine Jb Z HM ((JG∘JP∘Jg 4 O0∘Jf 0∘Jg 2 O0∘Jf 0∘Jg 3 O0∘Jy (v:= .slice (if c=x.st then A else A.map (·.add (x.st*1))) (x.en-x.st) (c-x.st)) (h:=by exact Yl.Cs aM (i:=x.st) (j:=x.en) rfl rfl rfl rfl om om)∘JL (h:=by exact fun HM=>q1e (aW b x.st x.en) _ _ _ B _ (hL.mem HM hB) (HM.le hB) (q22 (HM.old hr) hx.2.1 hx.2.2 hc) (xM hx.2.2) om (Fx hl _ _) om hra)) ?_)
 rintro HM _ xC ⟨A1,c1,q,rfl,KD,hc1,hm⟩
 have kY:bs.length=q.length:=by rw [←KD,List.length_map]
 rw [kY] at hm hc1⊢
 refine ⟨_,rfl,_,Mem.XC (a:=[.blk g1 #[vI x.nx,vI x.sn,vI x.st,vI x.en,.slice A b.length c] 204]) (b:=[]) HM hm,?_⟩
 exact (Jx∘Jx∘Jp 2∘Jj∘JZ∘dL) fun HM=>by rw [hra];exact ⟨A1,c1,q,by rw [kY],KD,by rw [kY];exact hc1,by rw [kY];exact q1f (HM.pt (fs':=(.row (.slice A1 q.length c1) q.length (q.flatMap hbL) 59 5::(fD 32 q++([])))) 2 [0])⟩
theorem qt0 (A:Option Addr) (c:Nat) (b:List Nat) (B:Nat) (w:World) (hL:ax B w) (hB:B≤w.heap.size) (hr:Rd w w.heap.size 1 A b.length (b.map B8)) (hc:b.length≤c) (hn:b.length≤100000000) (hl:∀z∈b,z<256) (x:Pl) (hx:x.sn≤x.st∧x.st≤x.en∧x.en≤b.length) {bs:List Bk} {er:Nat} (h:readAll (aW b x.st x.en)=(bs,er)):Calls Tryz.prog 116 #[.agg #[vI (x.nx:Int),vI (x.sn:Int),vI (x.st:Int),vI (x.en:Int),.slice A b.length c]] w (CS 32 59 w er bs):=by
 have k:=qqi A c b B w hL hB hr hc hn hl x hx
 rwa [h] at k
theorem qyf (A:Option Addr) (c:Nat) (b:List Nat) (B:Nat) (w:World) (hL:ax B w) (hB:B≤w.heap.size) (hr:Rd w w.heap.size 1 A b.length (b.map B8)) (hc:b.length≤c) (hn:b.length≤100000000) (hl:∀z∈b,z<256) {e:Nat} {s:bT} (i j:Nat) (h1:i≤j) (h2:j≤b.length) (he:lK (aW b i j)=e) (hs:jk (aW b i j)=s):Calls Tryz.prog 137 #[.slice (if c=i then A else A.map (·.add (i*1))) (j-i) (c-i)] w (NB w e s):=by
 subst he hs
 have k:=qya (if c=i then A else A.map (·.add (i*1))) (c-i) (aW b i j) B w hL hB (by rw [xM h2];exact q22 hr h1 h2 hc) (by rw [xM h2];omega) (by rw [xM h2];omega) (Fx hl _ _)
 rwa [xM h2] at k
theorem qoj (A:Option Addr) (c:Nat) (b:List Nat) (B:Nat) (w:World) (hL:ax B w) (hB:B≤w.heap.size) (hr:Rd w w.heap.size 1 A b.length (b.map B8)) (hc:b.length≤c) (hn:b.length≤100000000) (hl:∀z∈b,z<256) (x:Pl) (hx:x.sn≤x.st∧x.st≤x.en∧x.en≤b.length):
    Calls Tryz.prog 104 #[.agg #[vI (x.nx:Int),vI (x.sn:Int),vI (x.st:Int),vI (x.en:Int),.slice A b.length c]] w (TK w b x):=by
 refine (dM Tryz.func104 45) ?_
 refine (JP∘JE) fun w1 g1=>(JA #[vI 0,vI 0,vQ 0,vN,vN,vN,vN,vN,vN]) fun w2 g2=>(Jp 1∘Jq) fun a Z HM=>?_
 obtain ⟨e,he⟩:∃e,lK (aW b x.sn x.st)=e:=⟨_,rfl⟩
 obtain ⟨sr,hs⟩:∃s,jk (aW b x.sn x.st)=s:=⟨_,rfl⟩
 obtain ⟨bs,er,hra⟩:∃bs er,readAll (aW b x.st x.en)=(bs,er):=⟨_,_,rfl⟩
 refine Jb Z HM ((JG∘JP∘Jg 4 O1∘Jf 0∘Jg 1 O1∘Jf 0∘Jg 2 O1∘Jy (v:= .slice (if c=x.sn then A else A.map (·.add (x.sn*1))) (x.st-x.sn) (c-x.sn)) (h:=by exact Yl.Cs aM (i:=x.sn) (j:=x.st) rfl rfl rfl rfl om om)∘JL (h:=by exact fun HM=>qyf A c b B _ (hL.mem HM hB) (HM.le hB) (HM.old hr) hc hn hl x.sn x.st hx.1 om he hs)) ?_)
 rintro HM _ H7 ⟨z,rfl,hz,hcap,hm⟩
 refine ⟨_,rfl,_,(show Mem w H7 (.blk g2 #[vI 0,vI 0,vQ 0,vN,vN,vN,vN,vN,vN] 55:: .blk g1 #[vI x.nx,vI x.sn,vI x.st,vI x.en,.slice A b.length c] 204::(nQ z.st++([]))) from HM.KC (a:=[.blk g2 #[vI 0,vI 0,vQ 0,vN,vN,vN,vN,vN,vN] 55,.blk g1 #[vI x.nx,vI x.sn,vI x.st,vI x.en,.slice A b.length c] 204]) hm),?_⟩
 refine (Jp 1∘Jx∘Jx∘JA #[vI 0,vI 0,vQ 0,vN,vN,vN,vN,vN]) fun w4 g4=>(JV zr bg (h1:=by exact Rt z)) fun aaL=>(Jp 1∘Jj∘JQ∘JB∘JP∘Jp 3∘bK∘Jj) (Ju (fun il=>?_) fun il=>?_)
 ·
  intro a Z HM
  have mo:=bne_iff_ne.1 il
  refine Jb Z HM ((JT∘JP∘Jy (v:= .agg #[vI 0,vI 0,vQ 0,vN,vN,vN,vN,vN,vN]) (h:=by exact Yl.build (vs:=[]) rfl kr kr)∘Jp 1∘JV bQ fJ) fun uK=>(Jp 1∘bK∘Jj∘JZ) fun a Z HM=>?_)
  exact dP rfl Z (.cellS (i:=1) Z HM rfl rfl bQ rfl) (.tmp Z rfl) (TL ((congrArg _ (q5a (by rw [he];omega))).trans (by rw [he])) om (HM.pk []))
 intro a Z HM
 have mo:=bne_eq_false_iff_eq.1 il
 have he0:e=0:=by omega
 refine Jb Z HM ((JF∘JP∘Jg 0 O0∘Jf 0∘Jg 0 O2∘Jp 2∘gW∘Jj) (Jh (fun hd25=>?_) fun hd25=>?_))
 ·
  refine (JT∘JP∘Jy (v:= .agg #[vI 0,vI 0,vQ 0,vN,vN,vN,vN,vN,vN]) (h:=by exact Yl.build (vs:=[]) rfl kr kr)∘JV bQ fJ) fun zP=>(Jp 1∘aT∘Jj∘JZ) fun a Z HM=>?_
  exact dP rfl Z (.cellS (i:=1) Z HM rfl rfl bQ rfl) (.tmp Z rfl) (TL ((congrArg _ (q5b (he.trans he0) (by rw [hs,hz.1];omega))).trans rfl) de (HM.pk []))
 refine (JF∘aI∘JP∘Jy (v:= .agg #[vI x.nx,vI x.sn,vI x.st,vI x.en,.slice A b.length c]) (h:=by exact Yl.qm rfl rfl q5c rfl (fun _ h=>qc (h.blk (i:=2) rfl)))∘JL (h:=by exact fun HM=>qt0 A c b B _ (hL.mem HM hB) (HM.le hB) (HM.old hr) hc hn hl x hx hra)) ?_
 rintro HM _ NI ⟨A1,c1,q,rfl,KD,hc1,hm⟩
 have kY:bs.length=q.length:=by rw [←KD,List.length_map]
 rw [kY] at hm hc1⊢
 refine ⟨_,rfl,_,Mem.XC (a:=[.blk g4 z.cells 52,.blk g2 #[vI 0,vI 0,vQ 0,vN,vN,vN,vN,vN,vN] 55,.blk g1 #[vI x.nx,vI x.sn,vI x.st,vI x.en,.slice A b.length c] 204]) (b:=nQ z.st++[]) HM hm,?_⟩
 refine (Jp 1∘Jx∘Jx∘Jp 2∘Jj∘JQ∘JP∘Jp 2∘aT∘Jj) (Jh (fun hd39=>?_) fun hd39=>?_)
 ·
  refine (JT∘JP∘Jy (v:= .agg #[vI 0,vI 0,vQ 0,vN,vN,vN,vN,vN,vN]) (h:=by exact Yl.build (vs:=[]) rfl kr kr)∘Jp 1∘JV bQ fA) fun TS=>(Jp 1∘bK∘Jj∘JZ) fun a Z HM=>?_
  exact dP rfl Z (.cellS (i:=2) Z HM rfl rfl bQ rfl) (.tmp Z rfl) (TL ((congrArg _ (ZN (he.trans he0) (by rw [hs,hz.1];omega))).trans (by rw [hra])) om (HM.pk []))
 refine (JF∘aI∘JP∘Jy (v:= .agg z.cells) (h:=by exact Yl.qm rfl rfl zr rfl (fun _ h=>qc (h.blk (i:=1) rfl)))∘Jp 1∘Jy (v:= .agg #[vI z.next,vI z.st.az,vQ z.st.au,.slice z.st.gA z.st.gs.length z.st.gc,.slice z.st.lA z.st.cl.length z.st.lc,.slice z.st.uA z.st.cu.length z.st.uc,.slice z.st.tA z.st.ts.length z.st.tc,.slice z.st.sA z.st.rs.length z.st.sc,.slice A1 q.length c1]) (h:=by exact Yl.build (vs:=[(0,.agg z.cells),(1,.slice A1 q.length c1)]) rfl kr kr)∘JV bQ fA) fun KE=>(Jp 1∘fC∘Jj∘JZ) fun a Z HM=>?_
 exact dP rfl Z (.cellS (i:=2) Z HM rfl rfl bQ rfl) (.tmp Z rfl) (q1c (z:=z) (A:=A1) (c:=c1) (q:=q) hl (he.trans he0) (by rw [hs,hz.1];omega) (by rw [hra];show er=0;omega) (by rw [hs];exact hz) hcap (by rw [hra];exact KD) hc1 (q1g (HM.pt (fs':=(.row (.slice A1 q.length c1) q.length (q.flatMap hbL) 59 5::(fD 32 q++(nQ z.st++([]))))) 4 [0])))
theorem qjk (W w:World) (gl gb lp B:Nat) (A:Option Addr) (c:Nat) (b:List Nat) (hL:ax B W) (hB:B≤W.heap.size) (hr:Rd W W.heap.size 1 A b.length (b.map B8)) (hc:b.length≤c) (hn:b.length≤100000000) (hl:∀z∈b,z<256) (PA:Option Addr) (pc:Nat) (L:List Pl) (hL2:∀x∈L,x.sn≤x.st∧x.st≤x.en∧x.en≤b.length) (hLn:L.length≤1000000) (Inv:List Pl→List ag→Prop) (Stop:List ag→Prop) (F0:List ag)
    (hy:TP W b L lp Inv Stop) (hI0:Inv L F0) (HM:Mem W w (.blk gl #[.slice PA L.length pc] 64:: .blk gb #[.slice A b.length c] 35:: .row (.slice PA L.length pc) L.length (L.flatMap fe) 128 4::F0)):
    Calls Tryz.prog 107 (.func (.yield lp) #[] #[]:: [vP gl 0,vP gb 0]).toArray w (qty W Inv Stop):=by
 refine pz Tryz.func107 [.func (.yield lp) #[] #[],vP gl 0,vP gb 0] [(0,.func (.yield lp) #[] #[]),(1,vP gl 0),(2,vP gb 0)] fun a Z=>?_
 refine Jb Z HM ((JP∘Jc O0∘Jl∘Jp 1∘Jj∘JB) fun a Z HM=>?_)
 refine qj (fun mS aS wS=>∃(i:Nat) (F:List ag),(i≤L.length)∧(Inv (L.drop i) F)∧mS=L.length-i∧Fr aS 30 [] [(10,vI i),(9,vI L.length),(8,.slice PA L.length pc),(0,.func (.yield lp) #[] #[]),(2,vP gb 0)]∧Mem W wS (.blk gl #[.slice PA L.length pc] 64:: .blk gb #[.slice A b.length c] 35:: .row (.slice PA L.length pc) L.length (L.flatMap fe) 128 4::F)) (m:=L.length-0) ⟨0,F0,Nat.zero_le _,hI0,rfl,Z.sub kr,HM.pt 3 [0,1,2]⟩ ?_
 clear Z HM;rintro mS a w_ ⟨i,F,hi,hI,rfl,Z,HM⟩
 refine Jb Z HM ((JP∘Jp 1∘Jj∘JQ) (Ju (fun qC=>?_) fun qC=>?_))
 ·
  intro a Z HM
  have uW:=of_decide_eq_true qC
  have zQ:i<L.length:=by omega
  obtain ⟨x,hx⟩:∃x,L.getD i Pl.zero=x:=⟨_,rfl⟩
  have TT:=hL2 x (by rw [←hx];exact qs Pl.zero zQ)
  have hd:L.drop i=x::L.drop (i+1):=by rw [←hx];exact Q8 Pl.zero zQ
  refine Jb Z HM ((JT∘aI∘JQ∘JB∘JP∘Jp 1) ?_)
  repeat (first|clear Z|clear HM)
  intro a Z HM
  obtain ⟨kZ,rfl⟩:=qc2 (HM.own (i:=2) rfl) (Nat.lt_of_le_of_lt (Nat.zero_le _) (show i<L.length from by omega))
  refine Jb Z HM ((Jy (h:=by exact Yl.xq kZ i 4 rfl rfl rfl)∘Jy (v:= .agg ((L.getD i Pl.zero).cells)) (h:=by exact Yl.qm rfl rfl kE rfl (fun _ h=>h.Qb sH (i:=2) rfl ((getD_at Pl.zero zQ))))∘Jo (.agg x.cells) (by rw [hx])∘JA #[vI 0,vI 0,vI 0,vI 0]) fun w5 g5=>(Jp 1∘JV kE bg (h1:=by exact Z0 x)) fun alv=>(Jr∘Jy (v:= .agg x.cells) (h:=by exact Yl.qm rfl rfl kE rfl (fun _ h=>qc (h.blk (i:=0) rfl)))∘Jc O2∘Jy (v:= .agg #[vI x.nx,vI x.sn,vI x.st,vI x.en,.slice A b.length c]) (h:=by exact Yl.build (vs:=[(0,.agg x.cells),(1,.slice A b.length c)]) rfl kr kr)∘JL (h:=by exact fun HM=>qoj A c b B _ (hL.mem HM hB) (HM.le hB) (HM.old hr) hc hn hl x TT)) ?_)
  rintro HM _ Dj ⟨p,rfl,hpe,hpo,hm⟩
  refine ⟨_,rfl,_,(show Mem W Dj (.blk g5 x.cells 128:: .blk gl #[vS kZ L.length pc] 64:: .blk gb #[.slice A b.length c] 35:: .row (vS kZ L.length pc) L.length (L.flatMap fe) 128 4::(fq p++(F))) from HM.gD (T:=F) 4 hm rfl),?_⟩
  refine (Jp 1∘Jx∘Jx∘JA #[vI 0,vI 0,vQ 0,vN,vN,vN,vN,vN,vN]) fun w6 g6=>(JV bQ bg (h1:=by exact Fy p)) fun alx=>(Jp 1∘Jj) fun a Z HM=>?_
  refine wp_seq ?_
  refine Qw (i:=5) ?_
  refine Jb Z HM ((Jp 2∘Jy (v:= .agg p.cells) (h:=by exact Yl.qm rfl rfl bQ rfl (fun _ h=>qc (h.blk (i:=0) rfl)))∘Jp 1∘Jy (v:= .agg #[vI p.z.next,vI p.z.st.az,vQ p.z.st.au,.slice p.z.st.gA p.z.st.gs.length p.z.st.gc,.slice p.z.st.lA p.z.st.cl.length p.z.st.lc,.slice p.z.st.uA p.z.st.cu.length p.z.st.uc,.slice p.z.st.tA p.z.st.ts.length p.z.st.tc,.slice p.z.st.sA p.z.st.rs.length p.z.st.sc,.slice p.A p.q.length p.c,vI (bn b x)]) (h:=by exact Yl.build (vs:=[(0,.agg p.cells),(1,vI (bn b x))]) rfl kr kr)∘Jq) fun a Z HM=>?_)
  refine xz Z (i:=5) (vs:=[vI i,.agg #[vI p.z.next,vI p.z.st.az,vQ p.z.st.au,.slice p.z.st.gA p.z.st.gs.length p.z.st.gc,.slice p.z.st.lA p.z.st.cl.length p.z.st.lc,.slice p.z.st.uA p.z.st.cu.length p.z.st.uc,.slice p.z.st.tA p.z.st.ts.length p.z.st.tc,.slice p.z.st.sA p.z.st.rs.length p.z.st.sc,.slice p.A p.q.length p.c,vI (bn b x)]]) rfl rfl rfl rfl rfl rfl de (hy (L.drop i) F _ _ i x (L.drop (i+1)) p hI hd rfl zQ hx hpe hpo (Mem.q1t (es:=[.blk g6 p.cells 55,.blk g5 x.cells 128,.blk gl #[vS kZ L.length pc] 64,.blk gb #[.slice A b.length c] 35,.row (vS kZ L.length pc) L.length (L.flatMap fe) 128 4]) HM)) qjj ?_
  clear Z HM;rintro v jv a ⟨F2,HM,(⟨_,hv,hI2⟩|⟨_,hv,hS2⟩)⟩ Z<;>injection hv with hv<;>subst hv
  ·
   replace HM:Mem W jv (.blk g6 p.cells 55:: .blk g5 x.cells 128:: .blk gl #[vS kZ L.length pc] 64:: .blk gb #[.slice A b.length c] 35:: .row (vS kZ L.length pc) L.length (L.flatMap fe) 128 4::F2):=Mem.rW (es:=[.blk g6 p.cells 55,.blk g5 x.cells 128,.blk gl #[vS kZ L.length pc] 64,.blk gb #[.slice A b.length c] 35,.row (vS kZ L.length pc) L.length (L.flatMap fe) 128 4]) HM
   refine Jb Z HM ((Jp 1∘aN∘Jq∘JF∘aI∘JR∘dR 1∘Jp 1∘aT∘Jq) fun a Z HM=>?_)
   exact ⟨_,om,i+1,F2,by omega,hI2,rfl,Z.sub kr,HM.pt 5 [2,3,4]⟩
  ·
   replace HM:Mem W jv (.blk g6 p.cells 55:: .blk g5 x.cells 128:: .blk gl #[vS kZ L.length pc] 64:: .blk gb #[.slice A b.length c] 35:: .row (vS kZ L.length pc) L.length (L.flatMap fe) 128 4::F2):=Mem.rW (es:=[.blk g6 p.cells 55,.blk g5 x.cells 128,.blk gl #[vS kZ L.length pc] 64,.blk gb #[.slice A b.length c] 35,.row (vS kZ L.length pc) L.length (L.flatMap fe) 128 4]) HM
   refine Jb Z HM ((Jp 1∘aN∘Jq∘JT∘JZ) fun a Z HM=>?_)
   exact Cz rfl Z (⟨_,rfl,F2,Mem.EQ [.blk g6 p.cells 55,.blk g5 x.cells 128,.blk gl #[vS kZ L.length pc] 64,.blk gb #[.slice A b.length c] 35,.row (vS kZ L.length pc) L.length (L.flatMap fe) 128 4] HM,.inr hS2⟩)
 intro a Z HM
 have uW:=of_decide_eq_false qC
 have hr0:L.drop i=[]:=List.drop_eq_nil_of_le om
 refine Jb Z HM ((JF∘JX) fun a Z HM=>?_)
 rw [hr0] at hI
 exact iM rfl Z (⟨_,rfl,F,Mem.EQ [.blk gl #[.slice PA L.length pc] 64,.blk gb #[.slice A b.length c] 35,.row (.slice PA L.length pc) L.length (L.flatMap fe) 128 4] HM,.inl hI⟩)
theorem qk7 (A:Option Addr) (n c:Nat) (PA:Option Addr) (m pc:Nat) (w:World):
    Calls Tryz.prog 60 #[.slice A n c,.slice PA m pc] w fun r w'=>∃gl gb,r= .returned (.func (.func 107) #[] #[vP gl 0,vP gb 0])∧Mem w w' [.blk gl #[.slice PA m pc] 64,.blk gb #[.slice A n c] 35]:=by
 refine (lF Tryz.func60 6) ?_
 exact (JP∘CG) fun w2 g2=>(CG) fun w3 g3=>(Jp 1∘Jr∘Jy (h:=by exact Yl.makeFunc (fst:=[]) (aJ:=[vP g3 0,vP g2 0]) rfl rfl rfl)∘Jp 1∘aT∘Jj∘JZ∘bq) fun HM=>by exact ⟨_,_,rfl,HM.pk (fs':=[.blk g3 #[.slice PA m pc] 64,.blk g2 #[.slice A n c] 35]) [0,1]⟩
theorem N7 {b:List Nat} {L:List Pl} (hb:∀x∈b,x<256) (h:aQ b=(L,0)):∀x∈L,x.sn≤x.st∧x.st≤x.en∧x.en≤b.length:=fun x hx=>by
 obtain ⟨a,hA⟩:=(SH hb h).at
 obtain ⟨i,hi,rfl⟩:=List.getElem_of_mem hx
 have h1:=hA.sn i hi
 rw [List.getD_eq_getElem?_getD,List.getElem?_eq_getElem hi] at h1
 exact ⟨h1.2.1,h1.2.2.1,h1.2.2.2.1⟩
theorem KJ {b:List Nat} {L:List Pl} (hb:∀x∈b,x<256) (h:aQ b=(L,0)):L.length≤1024:=by
 obtain ⟨a,hA⟩:=(SH hb h).at
 exact hA.few
theorem N8 (A:Option Addr) (c:Nat) (b:List Nat) (BB:Nat) (w:World) (hL:ax BB w) (hB:BB≤w.heap.size) (hr:Rd w w.heap.size 1 A b.length (b.map B8)) (hc:b.length≤c) (hn:b.length≤100000000) (hl:∀z∈b,z<256) {L:List Pl} {ie:Nat} (h:aQ b=(L,ie)):Calls Tryz.prog 20 #[.slice A b.length c] w (FE w (L,ie)):=h▸KG A c b BB w hL hB hr hc hn hl
theorem qyh {b:List Nat} {L:List Pl} {q:List Pm} {x:Pl} {p:Pm} (h:∀j,j<q.length→mQ b (L.getD j Pl.zero) (q.getD j Pm.zero)) (hx:L.getD q.length Pl.zero=x) (hp:mQ b x p):∀j,j<(q++[p]).length→mQ b (L.getD j Pl.zero) ((q++[p]).getD j Pm.zero):=fun j hj=>by
 rw [List.length_append,List.length_singleton] at hj
 rw [List.getD_eq_getElem?_getD (l:=q++[p])]
 rcases Nat.lt_or_ge j q.length with h1|h1
 ·rw [List.getElem?_append_left h1,←List.getD_eq_getElem?_getD]
  exact h j h1
 ·obtain rfl:j=q.length:=by omega
  rw [List.getElem?_append_right (Nat.le_refl _),Nat.sub_self,hx]
  exact hp
theorem qyi {q:List Pm} {p:Pm} (h:∀x∈q,df x) (hp:df p):∀x∈q++[p],df x:=fun x hx=>by
 rcases List.mem_append.1 hx with hx|hx
 ·exact h x hx
 ·rw [List.mem_singleton.1 hx];exact hp
theorem q1h (l:List Nat):∀u∈l.map cK,u.oneCell'=true:=by
 intro u hu
 obtain ⟨x,_,rfl⟩:=List.mem_map.1 hu
 rfl
def q24 (w:World) (R:List Nat) (r:Ending) (w':World):Prop:=(∃A c,r= .returned (.tuple #[.slice A R.length c,vI 0])∧w'.ownsRow w.heap.size 3 1 (.slice A R.length c) R.length (R.map cK)∧R.length≤c)∧Below w.heap.size w w'
theorem q5q {w w':World} {R g:List Nat} {A:Option Addr} {c:Nat} (h:R=g) (ho:w'.ownsRow w.heap.size 3 1 (.slice A g.length c) g.length (g.map cK)) (hc:g.length≤c) (hb:Below w.heap.size w w'):q24 w R (.returned (.tuple #[.slice A g.length c,vI 0])) w':=by
 subst h
 exact ⟨⟨A,c,rfl,ho,hc⟩,hb⟩
def q25 (w:World) (b:List Nat) (r:Ending) (w':World):Prop:=
 ((aQ b).2≠0∧Is w (.tuple #[vN,vI ((aQ b).2:Int)]) r w')∨
 ((aQ b).2=0∧q24 w (dG b (aQ b).1 0) r w')
theorem Uc (A:Option Addr) (c:Nat) (b:List Nat) (BB:Nat) (w:World) (hL:ax BB w) (hB:BB≤w.heap.size) (hr:Rd w w.heap.size 1 A b.length (b.map B8)) (hc:b.length≤c) (hn:b.length≤100000000) (hl:∀z∈b,z<256):
    Calls Tryz.prog 19 #[.slice A b.length c] w (TQ w b):=by
 refine Hl (vs:=[.slice A b.length c]) Tryz.func19 rfl rfl kr (σ0:=[(0,.slice A b.length c)]) rfl ?_
 intro a Z
 have HM:=Mem.start w
 refine Jb Z HM ((JP∘JA #[vN]) fun w2 g2=>(JA #[vI 0]) fun w3 g3=>(JA #[vI 0]) fun w4 g4=>(Jq) fun a Z HM=>?_)
 obtain ⟨L,ie,hidx⟩:∃L ie,aQ b=(L,ie):=⟨_,_,rfl⟩
 refine Jb Z HM ((JG∘JP∘Jp 1∘JK (h:=by exact fun HM=>N8 A c b BB _ (hL.mem HM hB) (HM.le hB) (HM.old hr) hc hn hl hidx)) fun PA pc EW hpc=>(Jp 1∘Jx∘Jx∘Jp 2∘Jj∘JQ∘JP∘Jp 2∘aT∘Jj) (Ju (fun iF=>?_) fun iF=>?_))
 ·
  intro a Z HM
  have jf:=bne_iff_ne.1 iF
  refine Jb Z HM ((JT∘JP∘Jp 1∘JW sV bg) fun RN=>(JW fA bg) fun uK=>(JW fJ bg) fun nK=>(xA∘Jj∘JZ) fun a Z HM=>?_)
  refine Mv ?_
  exact je rfl Z (.cell1 (i:=3) Z HM rfl rfl kr rfl) (.cell1 (i:=2) Z HM rfl rfl kr rfl) (.cell1 (i:=1) Z HM rfl rfl kr rfl) (.inl ⟨by rw [hidx];show ie≠0;omega,by rw [hidx];exact ⟨rfl,HM.below⟩⟩)
 intro a Z HM
 have jf:=bne_eq_false_iff_eq.1 iF
 have fQ:ie=0:=by omega
 have hL2:∀x∈L,x.sn≤x.st∧x.st≤x.en∧x.en≤b.length:=N7 hl (by rw [hidx,fQ])
 have hLn:L.length≤1024:=KJ hl (by rw [hidx,fQ])
 refine Jb Z HM ((JF∘aI∘JP∘JA #[vN]) fun w7 g7=>(Jq) fun a Z HM=>?_)
 replace HM:=HM.nil 55 9
 replace HM:Mem w _ (.row (vN) 0 [] 55 9:: .blk g7 #[vN] 43:: .row (.slice PA L.length pc) L.length (L.flatMap fe) 128 4:: .blk g4 #[vI 0] 61:: .blk g3 #[vI 0] 3:: .blk g2 #[vN] 43::eD []):=HM
 refine Jb Z HM ((JG∘JQ∘JP∘Jp 2∘JL (h:=by exact fun HM=>qk7 A b.length c PA L.length pc _)) ?_)
 rintro HM _ jv ⟨gl,gb,rfl,hm⟩
 refine ⟨_,rfl,_,HM.join hm,?_⟩
 refine (bK∘Jj∘JB) fun a Z HM=>?_
 refine Hg Z HM (fun F=>∃(q:List Pm) (Ao:Option Addr) (co:Nat),(q.length+([]:List Pl).length=L.length)∧(∀j,j<q.length→mQ b (L.getD j Pl.zero) (q.getD j Pm.zero))∧(∀p∈q,df p)∧(fH b L 0=fH b ([]:List Pl) q.length)∧(q.length≤co)∧F=(.row (.slice Ao q.length co) q.length (q.flatMap iV) 55 9:: .blk g7 #[.slice Ao q.length co] 43:: .blk g4 #[vI 0] 61:: .blk g3 #[vI 0] 3:: .blk g2 #[vN] 43::eD q)) (fun c F=>c= .ret∧∃(k:Nat) (e:Nat),(fH b L 0=some (k,e))∧F=[.blk g4 #[vI e] 61,.blk g3 #[vI k] 3,.blk g2 #[vN] 43]) rfl kr ?_ ?_ ?_
 ·
  clear Z HM;intro lp B rec w1 hrec HM
  have hy:TP w b L lp (fun rest F=>∃(q:List Pm) (Ao:Option Addr) (co:Nat),(q.length+rest.length=L.length)∧(∀j,j<q.length→mQ b (L.getD j Pl.zero) (q.getD j Pm.zero))∧(∀p∈q,df p)∧(fH b L 0=fH b rest q.length)∧(q.length≤co)∧F=(.obj lp (.loop (rec .ready none)):: .obj B (.deferred (some []))::(.row (.slice Ao q.length co) q.length (q.flatMap iV) 55 9:: .blk g7 #[.slice Ao q.length co] 43:: .blk g4 #[vI 0] 61:: .blk g3 #[vI 0] 3:: .blk g2 #[vN] 43::eD q))) (fun F=>∃(k:Nat) (e:Nat),(fH b L 0=some (k,e))∧F=(.obj lp (.loop (rec .done (some .ret))):: .obj B (.deferred (some [])):: [.blk g4 #[vI e] 61,.blk g3 #[vI k] 3,.blk g2 #[vN] 43])):=by
   rintro rest F fr w3 i x t p ⟨q,Ao,co,hq,hof,hok,hbd,hco,rfl⟩ hrx hdr hi9 Gc KL KM HM
   have Ud:=congrArg List.length hdr
   have Ue:=congrArg List.length hrx
   rw [List.length_drop] at Ud
   rw [List.length_cons] at Ue
   have hiq:i=q.length:=by omega
   rw [hiq] at Gc
   rw [hrx,fH] at hbd
   replace HM:Mem w w3 (.obj lp (.loop (rec .ready none)):: .obj B (.deferred (some [])):: .row (.slice Ao q.length co) q.length (q.flatMap iV) 55 9:: .blk g7 #[.slice Ao q.length co] 43:: .blk g4 #[vI 0] 61:: .blk g3 #[vI 0] 3:: .blk g2 #[vN] 43::(fq p++(eD q++(fr)))):=Mem.q3d (a:=[.obj lp (.loop (rec .ready none)),.obj B (.deferred (some [])),.row (.slice Ao q.length co) q.length (q.flatMap iV) 55 9,.blk g7 #[.slice Ao q.length co] 43,.blk g4 #[vI 0] 61,.blk g3 #[vI 0] 3,.blk g2 #[vN] 43]) HM
   refine qc5 (v1:=vI i) (v2:= .agg (mP p (bn b x))) hrec HM de de fun a Z=>?_
   refine wpIn_seq ?_
   refine qr ?_
   refine Jb Z HM ((Jp 1∘Jq) fun a Z HM=>?_)
   refine qr ?_
   refine Jb Z HM ((JA #[vI 0,vI 0,vQ 0,vN,vN,vN,vN,vN,vN,vI 0]) fun w9 g9=>(JV Bq bg (h1:=by exact q21 _ _)) fun Eb=>(Jq) fun a Z HM=>?_)
   refine ⟨(.blk g9 (mP p (bn b x)) 140:: .obj B (.deferred (some [])):: .row (.slice Ao q.length co) q.length (q.flatMap iV) 55 9:: .blk g7 #[.slice Ao q.length co] 43:: .blk g4 #[vI 0] 61:: .blk g3 #[vI 0] 3:: .blk g2 #[vN] 43::(fq p++(eD q++(fr)))),HM.pt (fs':=(.obj lp (.loop (rec .ready none)):: .blk g9 (mP p (bn b x)) 140:: .obj B (.deferred (some [])):: .row (.slice Ao q.length co) q.length (q.flatMap iV) 55 9:: .blk g7 #[.slice Ao q.length co] 43:: .blk g4 #[vI 0] 61:: .blk g3 #[vI 0] 3:: .blk g2 #[vN] 43::(fq p++(eD q++(fr))))) 8 [1,0,2,3,4,5,6,7],fun w4 HM=>?_⟩
   refine wpIn_block ?_
   refine wpIn_seq ?_
   refine wpIn_seq ?_
   refine qr ?_
   refine Jb Z HM ((Jg 9 O1∘Jp 1∘aT∘Jq) (Ju (fun gM=>?_) fun gM=>?_))
   ·
    intro a Z HM
    have hd25:=bne_iff_ne.1 gM
    replace HM:Mem w _ (.obj lp (.loop (rec .busy none)):: .blk g9 (mP p (bn b x)) 140:: .obj B (.deferred (some [])):: .row (.slice Ao q.length co) q.length (q.flatMap iV) 55 9:: .blk g7 #[.slice Ao q.length co] 43:: .blk g4 #[vI 0] 61:: .blk g3 #[vI 0] 3:: .blk g2 #[vN] 43::fr):=Mem.NY (a:=[.obj lp (.loop (rec .busy none)),.blk g9 (mP p (bn b x)) 140,.obj B (.deferred (some [])),.row (.slice Ao q.length co) q.length (q.flatMap iV) 55 9,.blk g7 #[.slice Ao q.length co] 43,.blk g4 #[vI 0] 61,.blk g3 #[vI 0] 3,.blk g2 #[vN] 43]) (pa:=eD q) (fr:=fr) (Mem.NY (a:=[.obj lp (.loop (rec .busy none)),.blk g9 (mP p (bn b x)) 140,.obj B (.deferred (some [])),.row (.slice Ao q.length co) q.length (q.flatMap iV) 55 9,.blk g7 #[.slice Ao q.length co] 43,.blk g4 #[vI 0] 61,.blk g3 #[vI 0] 3,.blk g2 #[vN] 43]) (pa:=fq p) (fr:=eD q++fr) HM)
    refine Qr Z rfl ?_
    refine wpIn_seq ?_
    refine qvj HM (.obj lp (.loop (rec .busy none)):: .blk g9 (mP p (bn b x)) 140:: .obj B (.deferred (some [])):: .row (.slice Ao q.length co) q.length (q.flatMap iV) 55 9:: .blk g7 #[.slice Ao q.length co] 43:: .blk g4 #[vI 0] 61::fr) 8 [0,1,2,3,4,5] [5] fun HM HS=>?_
    refine ap Z (fun _=>HS) [0,1] (bf 6 [0,1]) [(27,vP g9 9),(26,vI i)] fun a Z=>?_
    refine eY Z HS 2 1 (v:=vI (bn b x)) fun a Z=>?_
    refine s_on Z 3 rfl (iN Z HM 7 fun KE HM=>?_)
    refine aD (HM.pt 8 [0,1,2,3,4,5]) (fun HS=>?_)
    refine s_on Z 4 rfl (iN Z HM 6 fun Uf HM=>?_)
    refine aD (HM.pt 8 [0,1,2,3,4,5]) (fun HS=>?_)
    refine s_on Z 5 rfl (iN Z HM 5 fun J6 HM=>?_)
    refine jZ kr ?_
    refine qh kr ?_
    refine wpIn_ret ?_
    refine ⟨(.obj B (.deferred (some [])):: .blk g4 #[vI (bn b x)] 61:: .blk g3 #[vI i] 3:: .blk g2 #[vN] 43::fr),HM.pt (fs':=(.obj lp (.loop (rec .busy none)):: .obj B (.deferred (some [])):: .blk g4 #[vI (bn b x)] 61:: .blk g3 #[vI i] 3:: .blk g2 #[vN] 43::fr)) 8 [0,2,5,6,7],fun w5 HM=>?_⟩
    exact ⟨(.obj lp (.loop (rec .done (some .ret))):: .obj B (.deferred (some [])):: .blk g4 #[vI (bn b x)] 61:: .blk g3 #[vI i] 3:: .blk g2 #[vN] 43:: []),HM,.inr ⟨trivial,rfl,i,(bn b x),(hbd.trans ((if_pos om).trans (by rw [hiq]))),rfl⟩⟩
   intro a Z HM
   have hd25:=bne_eq_false_iff_eq.1 gM
   refine Qs Z rfl ?_
   refine wpIn_skip ?_
   refine qr ?_
   refine Jb Z HM ((Jc O4∘Jf 0∘Jy (v:= .agg p.cells) (h:=by exact Yl.qm rfl rfl bQ rfl (fun _ h=>h.sub (i:=1) rfl 0 rfl))∘JU nV p.cells) fun w32 g32=>(JD (iV p) 4 (fun _ _=>sW) nV (hr:=by exact fun HM=>HM.aZ (i:=0) (n:=1) (size:=9) rfl rfl) (h1:=by exact Fy _)) fun QA mV kM nI=>(JW yG bg) fun aaX=>(CE∘Jq) fun a Z HM=>?_)
   have j5:q.length+1=(q++[p]).length:=by rw [List.length_append];rfl
   replace HM:=HM.bu (i:=4) (ys:=(q++[p]).flatMap iV) rfl j5 (by rw [List.flatMap_append,List.flatMap_cons,List.flatMap_nil,List.append_nil])
   rw [j5] at nI
   replace HM:=HM.cz (i:=5) (ds:= #[.slice mV (q++[p]).length kM]) rfl (by rw [j5];try rfl)
   replace HM:Mem w _ (.blk g32 p.cells 55:: .obj lp (.loop (rec .busy none)):: .blk g9 (mP p (bn b x)) 140:: .obj B (.deferred (some [])):: .row (.slice mV ((q++[p]).length) kM) ((q++[p]).length) ((q++[p]).flatMap iV) 55 9:: .blk g7 #[.slice mV ((q++[p]).length) kM] 43:: .blk g4 #[vI 0] 61:: .blk g3 #[vI 0] 3:: .blk g2 #[vN] 43::(eD (q++[p])++(fr))):=Mem.q8b (a:=[.blk g32 p.cells 55,.obj lp (.loop (rec .busy none)),.blk g9 (mP p (bn b x)) 140,.obj B (.deferred (some [])),.row (.slice mV ((q++[p]).length) kM) ((q++[p]).length) ((q++[p]).flatMap iV) 55 9,.blk g7 #[.slice mV ((q++[p]).length) kM] 43,.blk g4 #[vI 0] 61,.blk g3 #[vI 0] 3,.blk g2 #[vN] 43]) HM
   refine ⟨(.obj B (.deferred (some [])):: .row (.slice mV ((q++[p]).length) kM) ((q++[p]).length) ((q++[p]).flatMap iV) 55 9:: .blk g7 #[.slice mV ((q++[p]).length) kM] 43:: .blk g4 #[vI 0] 61:: .blk g3 #[vI 0] 3:: .blk g2 #[vN] 43::(eD (q++[p])++(fr))),HM.pt (fs':=(.obj lp (.loop (rec .busy none)):: .obj B (.deferred (some [])):: .row (.slice mV ((q++[p]).length) kM) ((q++[p]).length) ((q++[p]).flatMap iV) 55 9:: .blk g7 #[.slice mV ((q++[p]).length) kM] 43:: .blk g4 #[vI 0] 61:: .blk g3 #[vI 0] 3:: .blk g2 #[vN] 43::(eD (q++[p])++(fr)))) 9 [1,3,4,5,6,7,8],fun w5 HM=>?_⟩
   exact ⟨(.obj lp (.loop (rec .ready none)):: .obj B (.deferred (some [])):: .row (.slice mV ((q++[p]).length) kM) ((q++[p]).length) ((q++[p]).flatMap iV) 55 9:: .blk g7 #[.slice mV ((q++[p]).length) kM] 43:: .blk g4 #[vI 0] 61:: .blk g3 #[vI 0] 3:: .blk g2 #[vN] 43::eD (q++[p])),HM,.inl ⟨trivial,rfl,(q++[p]),mV,kM,by rw [List.length_append];show q.length+1+_=_;omega,qyh hof Gc KL,qyi hok KM,(hbd.trans (by rw [if_neg om,List.length_append];rfl)),nI,rfl⟩⟩
  refine (qjk w w1 gl gb lp BB A c b hL hB hr hc hn hl PA pc L hL2 om _ _ _ hy ⟨[],none,0,Nat.zero_add _,(fun j hj=>by cases hj),(fun p hp=>by cases hp),rfl,Nat.le_refl _,rfl⟩ (HM.pt 10 [2,3,6,0,1,4,5,7,8,9])).mono ?_
  rintro r w2 ⟨v,rfl,F2,dh,(⟨q,Ao,co,hq,hof,hok,hbd,hco,rfl⟩|⟨k,e,hst,rfl⟩)⟩
  ·exact ⟨v,rfl,.inl ⟨_,⟨q,Ao,co,hq,hof,hok,hbd,hco,rfl⟩,dh⟩⟩
  ·exact ⟨v,rfl,.inr ⟨.ret,_,⟨rfl,k,e,hst,rfl⟩,dh⟩⟩
 ·
  clear Z HM;rintro B a w6 _ ⟨q,Ao,co,hq,hof,hok,hbd,hco,rfl⟩ Z HM
  refine Jb Z HM ((JG∘JP∘Jc O2∘JW yG bg) fun aaY=>(JW sW bg) fun aaZ=>(JW sV bg) fun aa0=>(xA∘Jj∘JZ) fun a Z HM=>?_)
  refine Cy Z HM (i:=0) rfl fun a w7 Z HM=>?_
  exact je rfl Z (.cell1 (i:=5) Z HM rfl rfl kr rfl) (.cell1 (i:=4) Z HM rfl rfl kr rfl) (.cell1 (i:=3) Z HM rfl rfl kr rfl) (.inr (.inr ⟨by rw [hidx];exact fQ,by rw [hidx];exact hbd,Ao,co,q,rfl,by rw [hidx];exact hq,by rw [hidx];exact hof,hok,hco,HM.pt (fs':=(.row (.slice Ao q.length co) q.length (q.flatMap iV) 55 9::eD q)) 6 [1]⟩))
 ·
  clear Z HM;rintro _ B a w6 _ ⟨rfl,k,e,hst,rfl⟩ Z HM
  refine wp_ret ?_
  refine Cy Z HM (i:=0) rfl fun a w7 Z HM=>?_
  exact je rfl Z (.cell1 (i:=3) Z HM rfl rfl kr rfl) (.cell1 (i:=2) Z HM rfl rfl kr rfl) (.cell1 (i:=1) Z HM rfl rfl kr rfl) (.inr (.inl ⟨by rw [hidx];exact fQ,k,e,by rw [hidx];exact hst,⟨rfl,HM.below⟩⟩))
theorem qok (A:Option Addr) (c:Nat) (b:List Nat) (BB:Nat) (w:World) (hL:ax BB w) (hB:BB≤w.heap.size) (hr:Rd w w.heap.size 1 A b.length (b.map B8)) (hc:b.length≤c) (hn:b.length≤100000000) (hl:∀z∈b,z<256):
    Calls Tryz.prog 21 #[.slice A b.length c] w (q25 w b):=by
 refine Hl (vs:=[.slice A b.length c]) Tryz.func21 rfl rfl kr (σ0:=[(0,.slice A b.length c)]) rfl ?_
 intro a Z
 have HM:=Mem.start w
 refine Jb Z HM ((JP∘Jp 2∘Jq) fun a Z HM=>?_)
 obtain ⟨L,ie,hidx⟩:∃L ie,aQ b=(L,ie):=⟨_,_,rfl⟩
 refine Jb Z HM ((JG∘JP∘Jp 1∘JK (h:=by exact fun HM=>N8 A c b BB _ (hL.mem HM hB) (HM.le hB) (HM.old hr) hc hn hl hidx)) fun PA pc yM hpc=>(Jp 1∘Jx∘Jx∘Jp 2∘Jj∘JQ∘JP∘Jp 2∘aT∘Jj) (Ju (fun fE=>?_) fun fE=>?_))
 ·
  intro a Z HM
  have mD:=bne_iff_ne.1 fE
  refine Jb Z HM ((JT∘JP∘Jp 3∘Jj∘JZ) fun a Z HM=>?_)
  refine Mv ?_
  exact lu rfl Z rfl rfl (.inl ⟨by rw [hidx];show ie≠0;omega,by rw [hidx];exact ⟨rfl,HM.below⟩⟩)
 intro a Z HM
 have mD:=bne_eq_false_iff_eq.1 fE
 have fQ:ie=0:=by omega
 have hL2:∀x∈L,x.sn≤x.st∧x.st≤x.en∧x.en≤b.length:=N7 hl (by rw [hidx,fQ])
 have hLn:L.length≤1024:=KJ hl (by rw [hidx,fQ])
 refine Jb Z HM ((JF∘aI∘JP∘JA #[vN]) fun w6 g6=>(Jq) fun a Z HM=>?_)
 replace HM:=HM.nil 3 1
 refine Jb Z HM ((JG∘JQ∘JP∘Jp 2∘JL (h:=by exact fun HM=>qk7 A b.length c PA L.length pc _)) ?_)
 rintro HM _ Dj ⟨gl,gb,rfl,hm⟩
 refine ⟨_,rfl,_,HM.join hm,?_⟩
 refine (bK∘Jj∘JB) fun a Z HM=>?_
 refine Hg Z HM (fun F=>∃(g:List Nat) (n:Nat) (Ao:Option Addr) (co:Nat),(n+([]:List Pl).length=L.length)∧(dG b L 0=g++dG b ([]:List Pl) n)∧(g.length≤n)∧(g.length≤co)∧F=[.row (.slice Ao g.length co) g.length (g.map cK) 3 1,.blk g6 #[.slice Ao g.length co] 22]) (fun c F=>c= .ret∧∃(u:Nat),(False)∧F=[]) rfl kr ?_ ?_ ?_
 ·
  clear Z HM;intro lp B rec w1 hrec HM
  have hy:TP w b L lp (fun rest F=>∃(g:List Nat) (n:Nat) (Ao:Option Addr) (co:Nat),(n+rest.length=L.length)∧(dG b L 0=g++dG b rest n)∧(g.length≤n)∧(g.length≤co)∧F=(.obj lp (.loop (rec .ready none)):: .obj B (.deferred (some [])):: [.row (.slice Ao g.length co) g.length (g.map cK) 3 1,.blk g6 #[.slice Ao g.length co] 22])) (fun F=>∃(u:Nat),(False)∧F=(.obj lp (.loop (rec .done (some .ret))):: .obj B (.deferred (some [])):: [])):=by
   rintro rest F fr w3 i x t p ⟨g,n,Ao,co,hq,hgd,hgl,hco,rfl⟩ hrx hdr hi9 Gc KL KM HM
   have Ud:=congrArg List.length hdr
   have Ue:=congrArg List.length hrx
   rw [List.length_drop] at Ud
   rw [List.length_cons] at Ue
   have hni:n=i:=by omega
   rw [hrx,dG,hni] at hgd
   replace HM:Mem w w3 (.obj lp (.loop (rec .ready none)):: .obj B (.deferred (some [])):: .row (.slice Ao g.length co) g.length (g.map cK) 3 1:: .blk g6 #[.slice Ao g.length co] 22::(fq p++(fr))):=Mem.q3d (a:=[.obj lp (.loop (rec .ready none)),.obj B (.deferred (some [])),.row (.slice Ao g.length co) g.length (g.map cK) 3 1,.blk g6 #[.slice Ao g.length co] 22]) HM
   refine qc5 (v1:=vI i) (v2:= .agg (mP p (bn b x))) hrec HM de de fun a Z=>?_
   refine wpIn_seq ?_
   refine qr ?_
   refine Jb Z HM ((Jp 1∘Jq) fun a Z HM=>?_)
   refine qr ?_
   refine Jb Z HM ((JA #[vI 0,vI 0,vQ 0,vN,vN,vN,vN,vN,vN,vI 0]) fun w8 g8=>(JV Bq bg (h1:=by exact q21 _ _)) fun Eb=>(Jq) fun a Z HM=>?_)
   refine ⟨(.blk g8 (mP p (bn b x)) 140:: .obj B (.deferred (some [])):: .row (.slice Ao g.length co) g.length (g.map cK) 3 1:: .blk g6 #[.slice Ao g.length co] 22::(fq p++(fr))),HM.pt (fs':=(.obj lp (.loop (rec .ready none)):: .blk g8 (mP p (bn b x)) 140:: .obj B (.deferred (some [])):: .row (.slice Ao g.length co) g.length (g.map cK) 3 1:: .blk g6 #[.slice Ao g.length co] 22::(fq p++(fr)))) 5 [1,0,2,3,4],fun w4 HM=>?_⟩
   refine wpIn_block ?_
   refine wpIn_seq ?_
   refine qr ?_
   refine Jb Z HM ((Jg 9 O1∘Jp 1∘aT∘Jq) (Ju (fun pI=>?_) fun pI=>?_))
   ·
    intro a Z HM
    have hd24:=eq_of_beq pI
    replace HM:Mem w _ (.obj lp (.loop (rec .busy none)):: .blk g8 (mP p (bn b x)) 140:: .obj B (.deferred (some [])):: .row (.slice Ao g.length co) g.length (g.map cK) 3 1:: .blk g6 #[.slice Ao g.length co] 22::fr):=Mem.NY (a:=[.obj lp (.loop (rec .busy none)),.blk g8 (mP p (bn b x)) 140,.obj B (.deferred (some [])),.row (.slice Ao g.length co) g.length (g.map cK) 3 1,.blk g6 #[.slice Ao g.length co] 22]) (pa:=fq p) (fr:=fr) HM
    refine Qr Z rfl ?_
    refine qr ?_
    refine Jb Z HM ((Jc O4∘Jp 1∘JU rH #[vI i]) fun Fz FJ=>(JD ([i].map cK) 4 (fun _ _=>sW) rH (hr:=by exact fun HM=>HM.aZ (i:=0) (n:=1) (size:=1) rfl rfl) (h1:=by exact q1h _)) fun TU jQ c28 hc28=>(JW yG bg) fun Uf=>(ES∘Jq) fun a Z HM=>?_)
    have wQ:g.length+1=(g++[i]).length:=by rw [List.length_append];rfl
    replace HM:=HM.bu (i:=4) (ys:=(g++[i]).map cK) rfl wQ (by rw [List.map_append])
    rw [wQ] at hc28
    replace HM:=HM.cz (i:=5) (ds:= #[.slice jQ (g++[i]).length c28]) rfl (by rw [wQ];try rfl)
    refine ⟨(.obj B (.deferred (some [])):: .row (.slice jQ ((g++[i]).length) c28) ((g++[i]).length) ((g++[i]).map cK) 3 1:: .blk g6 #[.slice jQ ((g++[i]).length) c28] 22::fr),HM.pt (fs':=(.obj lp (.loop (rec .busy none)):: .obj B (.deferred (some [])):: .row (.slice jQ ((g++[i]).length) c28) ((g++[i]).length) ((g++[i]).map cK) 3 1:: .blk g6 #[.slice jQ ((g++[i]).length) c28] 22::fr)) 6 [1,3,4,5],fun w5 HM=>?_⟩
    exact ⟨(.obj lp (.loop (rec .ready none)):: .obj B (.deferred (some [])):: .row (.slice jQ ((g++[i]).length) c28) ((g++[i]).length) ((g++[i]).map cK) 3 1:: .blk g6 #[.slice jQ ((g++[i]).length) c28] 22:: []),HM,.inl ⟨trivial,rfl,(g++[i]),(i+1),jQ,c28,by show i+1+_=_;omega,(hgd.trans (by rw [if_pos om,List.append_assoc];rfl)),by rw [List.length_append];show g.length+1≤_;omega,hc28,rfl⟩⟩
   intro a Z HM
   have hd24:=ne_of_beq_false pI
   replace HM:Mem w _ (.obj lp (.loop (rec .busy none)):: .blk g8 (mP p (bn b x)) 140:: .obj B (.deferred (some [])):: .row (.slice Ao g.length co) g.length (g.map cK) 3 1:: .blk g6 #[.slice Ao g.length co] 22::fr):=Mem.NY (a:=[.obj lp (.loop (rec .busy none)),.blk g8 (mP p (bn b x)) 140,.obj B (.deferred (some [])),.row (.slice Ao g.length co) g.length (g.map cK) 3 1,.blk g6 #[.slice Ao g.length co] 22]) (pa:=fq p) (fr:=fr) HM
   refine Qs Z rfl ?_
   refine wpIn_skip ?_
   refine ⟨(.obj B (.deferred (some [])):: .row (.slice Ao g.length co) g.length (g.map cK) 3 1:: .blk g6 #[.slice Ao g.length co] 22::fr),HM.pt (fs':=(.obj lp (.loop (rec .busy none)):: .obj B (.deferred (some [])):: .row (.slice Ao g.length co) g.length (g.map cK) 3 1:: .blk g6 #[.slice Ao g.length co] 22::fr)) 5 [0,2,3,4],fun w5 HM=>?_⟩
   exact ⟨(.obj lp (.loop (rec .ready none)):: .obj B (.deferred (some [])):: .row (.slice Ao g.length co) g.length (g.map cK) 3 1:: .blk g6 #[.slice Ao g.length co] 22:: []),HM,.inl ⟨trivial,rfl,g,(i+1),Ao,co,by show i+1+_=_;omega,(hgd.trans (by rw [if_neg om])),by omega,hco,rfl⟩⟩
  refine (qjk w w1 gl gb lp BB A c b hL hB hr hc hn hl PA pc L hL2 om _ _ _ hy ⟨[],0,none,0,Nat.zero_add _,rfl,Nat.le_refl _,Nat.le_refl _,rfl⟩ (HM.pk [2,3,6,0,1,4,5])).mono ?_
  rintro r w2 ⟨v,rfl,F2,dh,(⟨g,n,Ao,co,hq,hgd,hgl,hco,rfl⟩|⟨u,hF,rfl⟩)⟩
  ·exact ⟨v,rfl,.inl ⟨_,⟨g,n,Ao,co,hq,hgd,hgl,hco,rfl⟩,dh⟩⟩
  ·exact ⟨v,rfl,.inr ⟨.ret,_,⟨rfl,u,hF,rfl⟩,dh⟩⟩
 ·
  clear Z HM;rintro B a w6 _ ⟨g,n,Ao,co,hq,hgd,hgl,hco,rfl⟩ Z HM
  refine Jb Z HM ((JG∘JP∘Jc O2∘Jp 2∘Jj∘JZ) fun a Z HM=>?_)
  refine Cy Z HM (i:=0) rfl fun a w7 Z HM=>?_
  exact lu rfl Z rfl rfl (.inr ⟨by rw [hidx];exact fQ,by rw [hidx];exact q5q (hgd.trans (List.append_nil g)) (HM.own (i:=1) rfl) hco HM.below⟩)
 ·
  clear Z HM;rintro _ B a w6 _ ⟨rfl,u,hF,rfl⟩ Z HM
  exact hF.elim
def FK (L:List Pl) (next:Int):Nat→Int×Nat
 |0=>(0,6)
 |k+1=>if ((L.getD k Pl.zero).nx:Int)≤next then ((k:Int),0) else FK L next k
def ic (b:List Nat) (next:Int):Int×Nat:=if (aQ b).2≠0 then (0,(aQ b).2) else FK (aQ b).1 next (aQ b).1.length
def gF (b:List Nat) (i:Int):Nat:=if (aQ b).2≠0 then (aQ b).2 else if i<0∨((aQ b).1.length:Int)≤i then 2 else bn b ((aQ b).1.getD i.toNat Pl.zero)
def KN (w:World) (b:List Nat) (i:Int) (r:Ending) (w':World):Prop:=∃p:Pm,r= .returned (.tuple #[.agg p.cells,.int .i64 (gF b i:Int)])∧(gF b i=0→mQ b ((aQ b).1.getD i.toNat Pl.zero) p)∧df p∧Mem w w' (fq p)
section
variable {W w:World} {b:List Nat} {L:List Pl} {i:Int} {ie k:Nat}
theorem Ug {e:Nat} {n:Int} (he:gF b i=e) (hn:n=(e:Int)) (hne:e≠0) (HM:Mem W w []):KN W b i (.returned (.tuple #[.agg Pm.zero.cells,.int .i64 n])) w:=by
 subst he hn
 exact ⟨Pm.zero,rfl,fun h=>absurd h hne,qyc,HM.wL⟩
theorem q1i {x:Pl} {p:Pm} (hi:aQ b=(L,0)) (h:i=(k:Int)) (hk:k<L.length) (hx:L.getD k Pl.zero=x) (hp:mQ b x p) (ho:df p) (HM:Mem W w (fq p)):KN W b i (.returned (.tuple #[.agg p.cells,.int .i64 (bn b x:Int)])) w:=by
 subst h hx
 have he:gF b (k:Int)=bn b (L.getD k Pl.zero):=by unfold gF;rw [hi,if_neg (fun h=>h rfl),if_neg (by show ¬((k:Int)<0∨(L.length:Int)≤(k:Int));omega)];rfl
 refine ⟨p,by rw [he],fun _=>?_,ho,HM⟩
 rw [hi]
 exact hp
theorem q1j (hi:aQ b=(L,ie)) (h:ie≠0):gF b i=ie:=by unfold gF;rw [hi];exact if_pos h
theorem qse (hi:aQ b=(L,0)) (h:i<0∨(L.length:Int)≤i):gF b i=2:=by unfold gF;rw [hi];exact (if_neg (fun h=>h rfl)).trans (if_pos h)
theorem q1k {n:Int} (hi:aQ b=(L,ie)) (h:ie≠0):ic b n=(0,ie):=by unfold ic;rw [hi];exact if_pos h
theorem q5r {n:Int} (hi:aQ b=(L,0)):ic b n=FK L n L.length:=by unfold ic;rw [hi];exact if_neg (fun h=>h rfl)
end
def ja (next:Int):bT:=⟨next,⟨1,0,none,1,[⟨0,1⟩],none,1,[0],none,1,[0],none,0,[],none,1,[⟨none,1,[⟨0,0,0⟩]⟩]⟩⟩
def oH (next:Int):Pv:=⟨ja next,[iQ 7]⟩
def bM:List Nat:=(lL [oH 1]).1
def q26 (w:World) (next:Int) (r:Ending) (w':World):Prop:=∃p:Pm,r= .returned (.agg p.cells)∧dH (ja next) p.z∧p.q.map Hb.b=[iQ 7]∧df p∧Mem w w' (fq p)
def Ei (x y:Pv):Prop:=dH x.s y.s∧x.bs=y.bs
inductive ig:List Pv→List Pv→Prop where
 |nil:ig [] []
 |cons {x y:Pv} {l m:List Pv} (h:Ei x y) (t:ig l m):ig (x::l) (y::m)
theorem qyj:∀{l m:List Pv} (last:Int) (i:Nat),ig l m→jl m last i=jl l last i
 |_,_,_,_,.nil=>rfl
 |_,_,last,i,.cons h t=>by
  rw [jl,jl,IV h.1,h.2,h.1.1,qyj _ _ t]
theorem Uh {l m:List Pv} (h:ig l m):m.length=l.length:=by
 induction h with
 |nil=>rfl
 |cons _ _ ih=>rw [List.length_cons,List.length_cons,ih]
theorem Ui {l m:List Pv} (h:ig l m):mY m=mY l:=by
 unfold mY
 rw [Uh h,qyj _ _ h]
theorem qyl {l m:List Pv} (h:ig l m) (i:Nat):Ei (l.getD i Pv.zero) (m.getD i Pv.zero):=by
 induction h generalizing i with
 |nil=>exact ⟨ZH _,rfl⟩
 |cons h _ ih=>
  cases i with
  |zero=>exact h
  |succ i=>exact ih i
theorem q27 {l m:List Pv} (h:ig l m):∀i,stA m i=stA l i
 |0=>rfl
 |i+1=>by
  rw [stA,stA,q27 h i]
  unfold nU
  rw [RX (qyl h i).1,(qyl h i).2]
theorem q1l {l m:List Pv} (h:ig l m):m.flatMap jK=l.flatMap jK:=by
 induction h with
 |nil=>rfl
 |cons h _ ih=>
  rw [List.flatMap_cons,List.flatMap_cons,ih]
  unfold jK
  rw [RX h.1,h.2,h.1.1]
theorem qym {l m:List Pv} (h:ig l m):lL m=lL l:=by
 unfold lL headA nT
 rw [Ui h,Uh h,q27 h,List.take_of_length_le (Nat.le_of_eq (Uh h)),List.take_length,q1l h]
theorem lY {p:Pm} {n:Int} (h:dH (ja n) p.z) (hq:p.q.map Hb.b=[iQ 7]):Ei (oH n) p.v:=⟨h,hq.symm⟩
set_option maxRecDepth 100000 in
theorem q1m:lL [oH 1]=(bM,0):=by kernel_rfl
set_option maxRecDepth 100000 in
theorem q28:aQ bM=([⟨1,11,26,39⟩],0):=by kernel_rfl
set_option maxRecDepth 100000 in
theorem q7u:bn bM ⟨1,11,26,39⟩=0:=by kernel_rfl
set_option maxRecDepth 100000 in
theorem KO:(readAll (aW bM 26 39)).1=[iQ 7]:=by kernel_rfl
set_option maxRecDepth 100000 in
theorem KP:mY [oH 1,oH 0]=(1,330):=by kernel_rfl
set_option maxRecDepth 100000 in
theorem KQ:mY [oH 1,oH 5,oH 4]=(2,411):=by kernel_rfl
def KR (n:Int) (a b c d e f:Nat):Pm:=⟨⟨n,(N9 a b c d e).st⟩,some ⟨f,0,none⟩,1,[⟨iQ 7,none,0⟩]⟩
section
variable {W w w':World} {n:Int} {a b c d e f:Nat} {F S S2 T:List ag} {p q s:Pm} {r:Ending}
theorem KS (hn:bC n) (HM:Mem W w [.blk a #[.int .i64 0,.int .i64 1] 166,.blk b #[.int .i64 0] 3,.blk c #[.int .i64 0] 3,.blk e #[.slice (some ⟨d,0,none⟩) 1 1] 129,.blk d #[.int .u64 0,.int .u32 0,.int .u64 0] 169,.blk f #[.int .u8 2,.int .u8 0,.int .i64 0,.int .i64 7,.slice none 0 0] 59]):q26 W n (.returned (.agg (KR n a b c d e f).cells)) w:=by
 have h1:=HM.fB (i:=0) (n:=1) (size:=2) rfl rfl de
 have h2:=h1.fB (i:=1) (n:=1) (size:=1) rfl rfl de
 have h3:=h2.fB (i:=2) (n:=1) (size:=1) rfl rfl de
 have h4:=h3.fB (i:=3) (n:=1) (size:=1) rfl rfl de
 have h5:=h4.fB (i:=4) (n:=1) (size:=3) rfl rfl de
 have h6:=h5.fB (i:=5) (n:=1) (size:=5) rfl rfl de
 have h7:=(h6.nil 222 8).nil 32 11
 exact ⟨KR n a b c d e f,rfl,vw rfl ⟨⟨rfl,rfl,rfl⟩,rfl,rfl,rfl,rfl⟩,rfl,⟨q7v,q5u,q5v,hn,wR (q30 (by unfold bC;decide)),wR (Nat.zero_le _),by show 1≤1000000;decide,Nat.le_refl _⟩,h7.picks [2,3,4,1,5,6,7,0] de rfl⟩
theorem Mem.Uj (n:Nat) (h:Mem W w F) (he:F.drop n=fq p++T):dJ w p:=h.zG fun f hf=>List.mem_of_mem_drop (he▸List.mem_append_left _ hf)
theorem Mem.KT (n:Nat) (h:Mem W w F) (he:F.drop n=S++(fq p++T)):dJ w p:=h.zG fun f hf=>List.mem_of_mem_drop (he▸List.mem_append_right _ (List.mem_append_left _ hf))
theorem Mem.Uk (n:Nat) (h:Mem W w F) (he:F.drop n=S++(S2++(fq p++T))):dJ w p:=h.zG fun f hf=>List.mem_of_mem_drop (he▸List.mem_append_right _ (List.mem_append_right _ (List.mem_append_left _ hf)))
theorem q5w (h:df p) (k:dJ w p):∀x∈[p],df x∧dJ w x:=wR (p:=fun x=>df x∧dJ w x) ⟨h,k⟩
theorem qyn (h:df p) (k:dJ w p) (h2:df q) (k2:dJ w q):∀x∈[p,q],df x∧dJ w x:=fun x hx=>by
 rcases List.mem_cons.1 hx with rfl|hx
 ·exact ⟨h,k⟩
 ·exact wR (p:=fun x=>df x∧dJ w x) ⟨h2,k2⟩ x hx
theorem q5x (h:df p) (k:dJ w p) (h2:df q) (k2:dJ w q) (h3:df s) (k3:dJ w s):∀x∈[p,q,s],df x∧dJ w x:=fun x hx=>by
 rcases List.mem_cons.1 hx with rfl|hx
 ·exact ⟨h,k⟩
 ·exact qyn h2 k2 h3 k3 x hx
end
def jL:List Nat:=(lL []).1
set_option maxRecDepth 100000 in
theorem BD:lL []=(jL,0)∧jL=[113,97,1,0]++jL.drop 4∧jL.length=8:=by refine ⟨?_,?_,?_⟩<;>kernel_rfl
set_option maxRecDepth 100000 in
theorem q7w:bM=[113,97,1,1,1,15,13]++bM.drop 7:=by kernel_rfl
set_option maxRecDepth 100000 in
theorem oI:bM.length=39:=by kernel_rfl
set_option maxRecDepth 100000 in
theorem oJ:∀x∈bM,x<256:=by
 have h:(bM.all fun x=>decide (x<256))=true:=by kernel_rfl
 exact fun x hx=>of_decide_eq_true (List.all_eq_true.1 h x hx)
set_option maxRecDepth 100000 in
theorem q5y:aQ (bM++[0])=([],410):=by kernel_rfl
set_option maxRecDepth 100000 in
theorem KU:ic bM 9=(0,0)∧ic bM 0=(0,6)∧gF bM 0=0∧gF bM 1=2:=by refine ⟨?_,?_,?_,?_⟩<;>kernel_rfl
set_option maxRecDepth 100000 in
theorem KV:(jk (aW bM 11 26)).next=1:=by kernel_rfl
theorem q7x:∀x∈bM++[0],x<256:=fun x hx=>by
 rcases List.mem_append.1 hx with h|h
 ·exact oJ x h
 ·rw [List.mem_singleton.1 h];decide
theorem q5z {w:World} {B m:Nat} {A:Option Addr} (h:Rd w B 1 A m (bM.map B8)) (hm:m=39):Rd w B 1 A 7 ([113,97,1,1,1,15,13].map B8):=by
 rw [q7w] at h
 exact Rd.pre h rfl om
theorem q50 {w:World} {B m:Nat} {A:Option Addr} (h:Rd w B 1 A m (jL.map B8)) (hm:m=8):Rd w B 1 A 4 ([113,97,1,0].map B8):=by
 rw [BD.2.1] at h
 exact Rd.pre h rfl om
def KW (w:World) (r:Ending) (w':World):Prop:=∃(z:eu) (g c:Nat) (h:Hb),r= .returned (.tuple #[.agg #[.int .i64 1,.int .i64 z.az,.int .u64 (z.au:Int),.slice z.gA z.gs.length z.gc,.slice z.lA z.cl.length z.lc,.slice z.uA z.cu.length z.uc,.slice z.tA z.ts.length z.tc,.slice z.sA z.rs.length z.sc,.slice (some ⟨g,0,none⟩) 1 c],.int .i64 0])∧h.b=iQ 7∧Mem w w' [.row (.slice (some ⟨g,0,none⟩) 1 c) 1 ([h].flatMap hbL) 59 5]
theorem q51 {w w':World} {r:Ending} (h:KN w bM 0 r w'):KW w r w':=by
 obtain ⟨⟨⟨nx,z⟩,A,c,q⟩,rfl,hp,hok,hm⟩:=h
 rw [KU.2.2.1]
 have h1:=hp KU.2.2.1
 rw [q28] at h1
 obtain ⟨h2,h3⟩:=h1 q7u
 have h4:(jk (aW bM 11 26)).next=nx:=h2.1
 rw [KV] at h4
 subst h4
 have h5:q.map Hb.b=[iQ 7]:=h3.trans KO
 obtain ⟨h,t,rfl,hb,ht⟩:=List.map_eq_cons_iff.1 h5
 obtain rfl:=List.map_eq_nil_iff.1 ht
 have hm1:Mem w w' [.row (.slice A 1 c) 1 ([h].flatMap hbL) 59 5]:=hm.nC (List.sublist_append_of_sublist_right (List.Sublist.cons₂ _ (List.nil_sublist _)))
 obtain ⟨g,rfl⟩:=qc2 (hm1.own (i:=0) rfl) de
 exact ⟨z,g,c,h,rfl,hb,hm1⟩
theorem q1n {w w':World} {r:Ending} (h:KN w bM 1 r w'):∃p:Pm,r= .returned (.tuple #[.agg p.cells,.int .i64 2])∧Below w.heap.size w w':=by
 obtain ⟨p,rfl,_,_,hm⟩:=h
 rw [KU.2.2.2]
 exact ⟨p,rfl,hm.below⟩
theorem KX:nE Tryz.prog 4 128 (.agg (Pl.cells ⟨1,11,26,39⟩)) (.agg #[.int .i64 1,.int .i64 11,.int .i64 26,.int .i64 39])=some true:=by kernel_rfl
theorem q1o {W w:World} {a:List ag} {p:Pm} (h:Mem W w (a++(fq p++[]))):Mem W w (fq p):=by
 rw [List.append_nil] at h
 exact h.nC (List.sublist_append_right a _)
theorem qyo (A:Option Addr) (c:Nat) (b:List Nat) (BB:Nat) (w:World) (hL:ax BB w) (hB:BB≤w.heap.size) (hr:Rd w w.heap.size 1 A b.length (b.map B8)) (hc:b.length≤c) (hn:b.length≤100000000) (hl:∀z∈b,z<256) (n:Int) (hIn:bC n):
    Calls Tryz.prog 56 #[.slice A b.length c,vI n] w (Is w (.tuple #[vI (ic b n).1,vI ((ic b n).2:Int)])):=by
 refine (lF Tryz.func56 32) ?_
 refine (JP∘Jp 2∘Jq) fun a Z HM=>?_
 obtain ⟨L,ie,hidx⟩:∃L ie,aQ b=(L,ie):=⟨_,_,rfl⟩
 have hpl:(L,ie).1.length=L.length:=rfl
 refine Jb Z HM ((JG∘JP∘Jp 1∘JK (h:=by exact fun HM=>N8 A c b BB _ (hL.mem HM hB) (HM.le hB) (HM.old hr) hc hn hl hidx)) fun PA pc yM hpc=>(Jp 1∘Jx∘Jx∘Jp 2∘Jj∘JQ∘JP∘Jp 2∘aT∘Jj) (Ju (fun fE=>?_) fun fE=>?_))
 ·
  intro a Z HM
  have mD:=bne_iff_ne.1 fE
  exact Jb Z HM ((JT∘JP∘Jp 3∘Jj∘JZ∘dL) fun HM=>Br (q1k hidx om) rfl HM.below)
 intro a Z HM
 have mD:=bne_eq_false_iff_eq.1 fE
 have fQ:ie=0:=by omega
 have hL2:∀x∈L,x.sn≤x.st∧x.st≤x.en∧x.en≤b.length:=N7 hl (by rw [hidx,fQ])
 have hLn:L.length≤1024:=KJ hl (by rw [hidx,fQ])
 refine Jb Z HM ((JF∘aI∘JQ∘JP∘Jp 1∘Jl∘Jp 1∘Jo (vI ((L.length:Int)-1)) (by exact EL ⟨by omega,by omega⟩)∘Jp 1∘fC∘Jj∘JB) fun a Z HM=>?_)
 refine qj (fun mS aS wS=>∃(k:Nat),(k≤L.length)∧(ic b n=FK L n k)∧mS=0+k∧Fr aS 32 [] [(8,vI ((k:Int)-1)),(15,.bool false),(7,vI ie),(6,.slice PA L.length pc),(5,vI 0),(4,vI 0),(1,vI n)]∧Mem w wS [.row (.slice PA L.length pc) L.length (L.flatMap fe) 128 4]) (m:=0+L.length) ⟨L.length,Nat.le_refl _,q5r (by rw [hidx,fQ]),rfl,Z.sub kr,HM.pk [0]⟩ ?_
 clear Z HM;rintro mS a w_ ⟨k,hk,hfi,rfl,Z,HM⟩
 refine Jb Z HM ((JQ∘JP∘Jp 2∘aT∘Jj) (Ju (fun iA=>?_) fun iA=>?_))
 ·
  intro a Z HM
  have kN:=of_decide_eq_true iA
  obtain ⟨j,hkj⟩:∃j,k=j+1:=⟨k-1,by omega⟩
  have hj:j<L.length:=by omega
  have hgo:FK L n k=if ((L.getD j Pl.zero).nx:Int)≤n then ((j:Int),0) else FK L n j:=by rw [hkj];rfl
  refine Jb Z HM ((JT∘aI∘JQ∘JB∘JP∘Jp 2∘Jo (vI j) (by rw [show ((k:Int)-1)=(j:Int) by omega])) ?_)
  repeat (first|clear Z|clear HM)
  intro a Z HM
  obtain ⟨kZ,rfl⟩:=qc2 (HM.own (i:=0) rfl) (Nat.lt_of_le_of_lt (Nat.zero_le _) (show j<L.length from by omega))
  refine Jb Z HM ((Jy (h:=by exact Yl.xq kZ j 4 rfl rfl rfl)∘Jf 0∘Jy (v:=vI ((L.getD j Pl.zero).nx)) (h:=by exact Yl.ze rfl rfl kr (fun _ h=>(by have:=h.Ap sH (i:=0) rfl (k:=j) (off:=0) (x:=(L.getD j Pl.zero)) ((getD_at Pl.zero hj)) rfl;simpa using this)))∘Jp 2∘aN∘Jj) (Ji (fun vJ=>?_) fun vJ=>?_))
  ·
   exact (JT∘JP∘Jp 1∘Jo (vI j) (by rw [show ((k:Int)-1)=(j:Int) by omega])∘Jp 2∘Jj∘JZ∘dL) fun HM=>Br (m:=0) (hfi.trans (hgo.trans (if_pos om))) rfl HM.below
  refine (JF∘aI∘JR∘Jp 1∘Jo (vI j) (by rw [show ((k:Int)-1)=(j:Int) by omega])∘Jp 1∘Jo (vI ((j:Int)-1)) (by exact EL ⟨by omega,by omega⟩)∘Jp 1∘bK∘Jq) fun a Z HM=>?_
  exact ⟨_,om,j,by omega,(hfi.trans (hgo.trans (if_neg om))),rfl,Z.sub kr,HM.pk [0]⟩
 intro a Z HM
 have kN:=of_decide_eq_false iA
 exact Jb Z HM ((JF∘JX∘JG∘JP∘Jp 2∘Jj∘JZ∘dL) fun HM=>Br (m:=6) (hfi.trans (by rw [show k=0 by omega];rfl)) rfl HM.below)
theorem qom (A:Option Addr) (c:Nat) (b:List Nat) (BB:Nat) (w:World) (hL:ax BB w) (hB:BB≤w.heap.size) (hr:Rd w w.heap.size 1 A b.length (b.map B8)) (hc:b.length≤c) (hn:b.length≤100000000) (hl:∀z∈b,z<256) (i:Int) (hIi:bC i):
    Calls Tryz.prog 57 #[.slice A b.length c,vI i] w (KN w b i):=by
 refine (lF Tryz.func57 37) ?_
 refine (JP∘JA #[vI 0,vI 0,vQ 0,vN,vN,vN,vN,vN,vN]) fun w4 g4=>(Jp 1∘Jq) fun a Z HM=>?_
 obtain ⟨L,ie,hidx⟩:∃L ie,aQ b=(L,ie):=⟨_,_,rfl⟩
 have hpl:(L,ie).1.length=L.length:=rfl
 refine Jb Z HM ((JG∘JP∘Jp 1∘JK (h:=by exact fun HM=>N8 A c b BB _ (hL.mem HM hB) (HM.le hB) (HM.old hr) hc hn hl hidx)) fun PA pc uH hpc=>(Jp 1∘Jx∘Jx∘Jp 2∘Jj∘JQ∘JB∘JP∘Jp 3∘bK∘Jj) (Ju (fun cB=>?_) fun cB=>?_))
 ·
  intro a Z HM
  have iE:=bne_iff_ne.1 cB
  refine Jb Z HM ((JT∘JP∘Jy (v:= .agg #[vI 0,vI 0,vQ 0,vN,vN,vN,vN,vN,vN]) (h:=by exact Yl.build (vs:=[]) rfl kr kr)∘Jp 1∘JV bQ fJ) fun uK=>(Jp 1∘bK∘Jj∘JZ) fun a Z HM=>?_)
  exact dP rfl Z (.cellS (i:=1) Z HM rfl rfl bQ rfl) (.tmp Z rfl) (Ug (q1j hidx om) rfl om (HM.pk []))
 intro a Z HM
 have iE:=bne_eq_false_iff_eq.1 cB
 have fQ:ie=0:=by omega
 have hL2:∀x∈L,x.sn≤x.st∧x.st≤x.en∧x.en≤b.length:=N7 hl (by rw [hidx,fQ])
 have hLn:L.length≤1024:=KJ hl (by rw [hidx,fQ])
 refine Jb Z HM ((JF∘JP∘Jp 3) (Ji (fun kN=>?_) fun kN=>?_))
 ·
  refine (Jp 6∘aN∘Jj∘JT∘JP∘Jy (v:= .agg #[vI 0,vI 0,vQ 0,vN,vN,vN,vN,vN,vN]) (h:=by exact Yl.build (vs:=[]) rfl kr kr)∘JV bQ fJ) fun zP=>(Jp 1∘aT∘Jj∘JZ) fun a Z HM=>?_
  exact dP rfl Z (.cellS (i:=1) Z HM rfl rfl bQ rfl) (.tmp Z rfl) (Ug (e:=2) (qse (by rw [hidx,fQ]) om) rfl de (HM.pk []))
 refine (Jp 2∘Jl∘Jp 3∘aN∘Jj) (Ju (fun iq=>?_) fun iq=>?_)
 ·
  intro a Z HM
  have iw:=of_decide_eq_true iq
  refine Jb Z HM ((JT∘JP∘Jy (v:= .agg #[vI 0,vI 0,vQ 0,vN,vN,vN,vN,vN,vN]) (h:=by exact Yl.build (vs:=[]) rfl kr kr)∘JV bQ fJ) fun zP=>(Jp 1∘aT∘Jj∘JZ) fun a Z HM=>?_)
  exact dP rfl Z (.cellS (i:=1) Z HM rfl rfl bQ rfl) (.tmp Z rfl) (Ug (e:=2) (qse (by rw [hidx,fQ]) om) rfl de (HM.pk []))
 intro a Z HM
 have iw:=of_decide_eq_false iq
 obtain ⟨k,hk⟩:∃k:Nat,i=(k:Int):=⟨i.toNat,by omega⟩
 have hkl:k<L.length:=by omega
 obtain ⟨x,hx⟩:∃x,L.getD k Pl.zero=x:=⟨_,rfl⟩
 have TT:=hL2 x (by rw [←hx];exact qs Pl.zero hkl)
 refine Jb Z HM ((JF∘aI∘JP∘Jp 2∘Jo (vI k) (by rw [hk])) ?_)
 repeat (first|clear Z|clear HM)
 intro a Z HM
 obtain ⟨kZ,rfl⟩:=qc2 (HM.own (i:=0) rfl) (Nat.lt_of_le_of_lt (Nat.zero_le _) (show k<L.length from by omega))
 refine Jb Z HM ((Jy (h:=by exact Yl.xq kZ k 4 rfl rfl rfl)∘Jy (v:= .agg ((L.getD k Pl.zero).cells)) (h:=by exact Yl.qm rfl rfl kE rfl (fun _ h=>h.Qb sH (i:=0) rfl ((getD_at Pl.zero hkl))))∘Jo (.agg x.cells) (by rw [hx])∘Jp 1∘Jy (v:= .agg #[vI x.nx,vI x.sn,vI x.st,vI x.en,.slice A b.length c]) (h:=by exact Yl.build (vs:=[(0,.agg x.cells),(1,.slice A b.length c)]) rfl kr kr)∘JL (h:=by exact fun HM=>qoj A c b BB _ (hL.mem HM hB) (HM.le hB) (HM.old hr) hc hn hl x TT)) ?_)
 rintro HM _ Ie ⟨p,rfl,hpe,hpo,hm⟩
 refine ⟨_,rfl,_,(show Mem w Ie (.row (vS kZ L.length pc) L.length (L.flatMap fe) 128 4:: .blk g4 #[vI 0,vI 0,vQ 0,vN,vN,vN,vN,vN,vN] 55::(fq p++([]))) from HM.gD (T:=[]) 2 hm rfl),?_⟩
 refine (Jx∘Jx∘JV bQ fJ (h1:=by exact Fy p)) fun amb=>(Jp 1∘aN∘Jj∘JZ) fun a Z HM=>?_
 exact dP rfl Z (.cellS (i:=1) Z HM rfl rfl bQ rfl) (.tmp Z rfl) (q1i (by rw [hidx,fQ]) hk hkl hx hpe hpo (q1o (a:=[.row (vS kZ L.length pc) L.length (L.flatMap fe) 128 4,.blk g4 p.cells 55]) HM))
theorem FL (n:Int) (hn:bC n) (w:World):
    Calls Tryz.prog 25 #[vI n] w (q26 w n):=by
 refine (dM Tryz.func25 19) ?_
 refine (JP∘JA #[vI 0,vI 0,vQ 0,vN,vN,vN,vN,vN,vN]) fun w2 g2=>(Jr∘Jy (v:= .agg #[vI 0,vI 1]) (h:=by exact Yl.build (vs:=[(1,vI 1)]) rfl kr kr)∘JU lI #[vI 0,vI 1]) fun w5 g5=>(Jy (v:= .agg #[vI 1,vQ 0,vS g5 1 1]) (h:=by exact Yl.build (vs:=[(0,vI 1),(2,vS g5 1 1)]) rfl kr kr)∘JU rH #[vI 0]) fun w7 g7=>(JU rH #[vI 0]) fun w8 g8=>(Jy (v:= .agg #[vQ 0,vW 0,vQ 0]) (h:=by exact Yl.build (vs:=[]) rfl kr kr)∘JU nL #[vQ 0,vW 0,vQ 0]) fun uH g10=>(JU uM #[vS g10 1 1]) fun yM g11=>(Jy (v:= .agg #[vI 1,vQ 0,vS g5 1 1,vS g7 1 1,vS g8 1 1,vN,vS g11 1 1]) (h:=by exact Yl.build (vs:=[(0,.agg #[vI 1,vQ 0,vS g5 1 1]),(1,vS g7 1 1),(2,vS g8 1 1),(4,vS g11 1 1)]) rfl kr kr)∘JA #[vI 0,vQ 0,vN,vN,vN,vN,vN]) fun w3 g3=>(JV ku bg) fun abe=>(aN∘Jr∘Jp 1∘Jy (v:= .agg #[vI 1,vQ 0,vS g5 1 1,vS g7 1 1,vS g8 1 1,vN,vS g11 1 1]) (h:=by exact Yl.qm rfl rfl ku rfl (fun _ h=>qc (h.blk (i:=0) rfl)))∘Jy (v:= .agg #[vI n,vI 1,vQ 0,vS g5 1 1,vS g7 1 1,vS g8 1 1,vN,vS g11 1 1]) (h:=by exact Yl.build (vs:=[(0,vI n),(1,.agg #[vI 1,vQ 0,vS g5 1 1,vS g7 1 1,vS g8 1 1,vN,vS g11 1 1])]) rfl kr kr)∘Jy (v:= .agg #[vB 2,vB 0,vI 0,vI 7,vN]) (h:=by exact Yl.build (vs:=[(0,vB 2),(3,vI 7)]) rfl kr kr)∘JU Q7 #[vB 2,vB 0,vI 0,vI 7,vN]) fun H7 g17=>(Jy (v:= .agg #[vI n,vI 1,vQ 0,vS g5 1 1,vS g7 1 1,vS g8 1 1,vN,vS g11 1 1,vS g17 1 1]) (h:=by exact Yl.build (vs:=[(0,.agg #[vI n,vI 1,vQ 0,vS g5 1 1,vS g7 1 1,vS g8 1 1,vN,vS g11 1 1]),(1,vS g17 1 1)]) rfl kr kr)∘JV bQ Hu) fun amq=>(jc∘Jj∘JZ) fun a Z HM=>?_
 exact uy rfl Z (.cellS (i:=7) Z HM rfl rfl bQ rfl) (KS hn (HM.pk (fs':=[.blk g5 #[vI 0,vI 1] 166,.blk g7 #[vI 0] 3,.blk g8 #[vI 0] 3,.blk g11 #[vS g10 1 1] 129,.blk g10 #[vQ 0,vW 0,vQ 0] 169,.blk g17 #[vB 2,vB 0,vI 0,vI 7,vN] 59]) [6,5,4,2,3,0]))
theorem qql (B:Nat) (w:World) (hL:ax B w) (hB:B≤w.heap.size):Calls Tryz.prog 23 #[vN] w (zp w 0 jL):=by
 have h:=Um none 0 [] B w hL hB Rd.nil (fun p hp=>by cases hp) (Nat.le_refl _) (Nat.zero_le _)
 rwa [show lL (List.map Pm.v [])=(jL,0) from BD.1] at h
theorem qyq (A:Option Addr) (c:Nat) (p:Pm) (hs:dH (ja 1) p.z) (hq:p.q.map Hb.b=[iQ 7]) (B:Nat) (w:World) (hL:ax B w) (hB:B≤w.heap.size) (hr:Rd w w.heap.size 9 A 1 ([p].flatMap iV)) (hP:∀x∈[p],df x∧dJ w x) (hc:1≤c):Calls Tryz.prog 23 #[.slice A 1 c] w (zp w 0 bM):=by
 have h:=Um A c [p] B w hL hB hr hP hc (by show 1≤100000;decide)
 rwa [show lL (List.map Pm.v [p])=(bM,0) from (qym (.cons (lY hs hq) .nil)).trans q1m] at h
theorem qt2 (A:Option Addr) (c:Nat) (p q:Pm) (hs:dH (ja 1) p.z) (hq:p.q.map Hb.b=[iQ 7]) (hs2:dH (ja 0) q.z) (hq2:q.q.map Hb.b=[iQ 7]) (B:Nat) (w:World) (hL:ax B w) (hB:B≤w.heap.size) (hr:Rd w w.heap.size 9 A 2 ([p,q].flatMap iV)) (hP:∀x∈[p,q],df x∧dJ w x) (hc:2≤c):Calls Tryz.prog 22 #[.slice A 2 c] w (Is w (.tuple #[vI 1,vI 330])):=
 Ob A c [p,q] B w hL hB hr hP hc (by show 2≤1000000;decide) ((Ui (.cons (lY hs hq) (.cons (lY hs2 hq2) .nil))).trans KP)
theorem qon (A:Option Addr) (c:Nat) (p q s:Pm) (hs:dH (ja 1) p.z) (hq:p.q.map Hb.b=[iQ 7]) (hs2:dH (ja 5) q.z) (hq2:q.q.map Hb.b=[iQ 7]) (hs3:dH (ja 4) s.z) (hq3:s.q.map Hb.b=[iQ 7]) (B:Nat) (w:World) (hL:ax B w) (hB:B≤w.heap.size) (hr:Rd w w.heap.size 9 A 3 ([p,q,s].flatMap iV)) (hP:∀x∈[p,q,s],df x∧dJ w x) (hc:3≤c):Calls Tryz.prog 22 #[.slice A 3 c] w (Is w (.tuple #[vI 2,vI 411])):=
 Ob A c [p,q,s] B w hL hB hr hP hc (by show 3≤1000000;decide) ((Ui (.cons (lY hs hq) (.cons (lY hs2 hq2) (.cons (lY hs3 hq3) .nil)))).trans KQ)
theorem qyr (A:Option Addr) (c:Nat) (B:Nat) (w:World) (hL:ax B w) (hB:B≤w.heap.size) (hr:Rd w w.heap.size 1 A 39 (bM.map B8)) (hc:39≤c):Calls Tryz.prog 20 #[.slice A 39 c] w (FE w ([⟨1,11,26,39⟩],0)):=by
 have h:=KG A c bM B w hL hB (by rw [oI];exact hr) (by rw [oI];exact hc) (by rw [oI];decide) oJ
 rwa [oI,q28] at h
theorem qt3 (A:Option Addr) (c:Nat) (B:Nat) (w:World) (hL:ax B w) (hB:B≤w.heap.size) (hr:Rd w w.heap.size 1 A 40 ((bM++[0]).map B8)) (hc:40≤c):Calls Tryz.prog 20 #[.slice A 40 c] w (FE w ([],410)):=by
 have e:(bM++[0]).length=40:=by rw [List.length_append,oI];rfl
 have h:=KG A c (bM++[0]) B w hL hB (by rw [e];exact hr) (by rw [e];exact hc) (by rw [e];decide) q7x
 rwa [e,q5y] at h
theorem qsf (A:Option Addr) (c:Nat) (B:Nat) (w:World) (hL:ax B w) (hB:B≤w.heap.size) (hr:Rd w w.heap.size 1 A 39 (bM.map B8)) (hc:39≤c) {n v:Int} {e:Nat} (hn:bC n) (hf:ic bM n=(v,e)):Calls Tryz.prog 56 #[.slice A 39 c,vI n] w (Is w (.tuple #[vI v,vI e])):=by
 have h:=qyo A c bM B w hL hB (by rw [oI];exact hr) (by rw [oI];exact hc) (by rw [oI];decide) oJ n hn
 rwa [oI,hf] at h
theorem qys (A:Option Addr) (c:Nat) (B:Nat) (w:World) (hL:ax B w) (hB:B≤w.heap.size) (hr:Rd w w.heap.size 1 A 39 (bM.map B8)) (hc:39≤c):Calls Tryz.prog 57 #[.slice A 39 c,vI 0] w (KW w):=by
 have h:=qom A c bM B w hL hB (by rw [oI];exact hr) (by rw [oI];exact hc) (by rw [oI];decide) oJ 0 (by unfold bC;decide)
 rw [oI] at h
 exact h.mono fun _ _=>q51
theorem qyt (A:Option Addr) (c:Nat) (B:Nat) (w:World) (hL:ax B w) (hB:B≤w.heap.size) (hr:Rd w w.heap.size 1 A 39 (bM.map B8)) (hc:39≤c):Calls Tryz.prog 57 #[.slice A 39 c,vI 1] w (fun r w'=>∃p:Pm,r= .returned (.tuple #[.agg p.cells,vI 2])∧Below w.heap.size w w'):=by
 have h:=qom A c bM B w hL hB (by rw [oI];exact hr) (by rw [oI];exact hc) (by rw [oI];decide) oJ 1 (by unfold bC;decide)
 rw [oI] at h
 exact h.mono fun _ _=>q1n
theorem Uv (B:Nat) (w:World) (hL:ax B w) (hB:B≤w.heap.size):
    Calls Tryz.prog 16 #[] w (Is w (.bool true)):=by
 refine (JN0 Tryz.func16 172) ?_
 refine (JP∘Jp 1∘Jr∘JK (h:=by exact fun HM=>qql B _ (hL.mem HM hB) (HM.le hB))) fun Bv xB MC hc22=>fun a Z HM=>?_
 replace hc22:8≤xB:=hc22
 refine Jb Z HM ((Jp 1∘Jx∘Jx∘Jp 2∘Jr∘JL (h:=by exact fun HM=>FL 1 (by unfold bC;decide) _)) ?_)
 rintro HM _ YK ⟨p26,rfl,Uw,Ux,Uy,hm⟩
 refine ⟨_,rfl,_,(show Mem w YK (.row (.slice Bv 8 xB) 8 (jL.map B8) 5 1::(fq p26++([]))) from HM.gD (T:=[]) 1 hm rfl),?_⟩
 refine (JU nV p26.cells) fun Fz FJ=>(JK (h:=by exact fun HM=>qyq (some ⟨FJ,0,none⟩) 1 p26 Uw Ux B _ (hL.mem HM hB) (HM.le hB) (HM.aZ (i:=0) (n:=1) (size:=9) rfl rfl) (q5w Uy (HM.Uj 2 rfl)) de)) fun jQ c28 TU hc28=>fun a Z HM=>?_
 replace hc28:39≤c28:=hc28
 refine Jb Z HM ((Jp 1∘Jx∘Jx∘Jp 2∘Jq) fun a Z HM=>?_)
 replace HM:Mem w _ [.row (.slice jQ 39 c28) 39 (bM.map B8) 5 1,.blk FJ p26.cells 55,.row (.slice Bv 8 xB) 8 (jL.map B8) 5 1]:=HM.nC (List.sublist_append_left _ _)
 refine Jb Z HM ((JG∘JP∘Jp 1∘JK (h:=by exact fun HM=>qyr jQ c28 B _ (hL.mem HM hB) (HM.le hB) (HM.rd (i:=0) rfl) hc28)) fun mV kM QA nI=>(Jp 1∘Jx∘Jx∘Jp 2∘Jr∘Jp 1∘JI (h:=by exact fun HM=>qsf jQ c28 B _ (hL.mem HM hB) (HM.le hB) (HM.rd (i:=1) rfl) hc28 (by unfold bC;decide) KU.1)) fun w38 hbw=>(Jp 1∘Jx∘Jx∘Jp 2∘Jr∘Jp 1∘JI (h:=by exact fun HM=>qsf jQ c28 B _ (hL.mem HM hB) (HM.le hB) (HM.rd (i:=1) rfl) hc28 (by unfold bC;decide) KU.2.1)) fun w43 hbw=>(Jp 1∘Jx∘Jx∘Jp 2∘aN∘Jr∘Jp 1∘JL (h:=by exact fun HM=>qys jQ c28 B _ (hL.mem HM hB) (HM.le hB) (HM.rd (i:=1) rfl) hc28)) ?_)
 rintro HM _ MG ⟨z,gl,cl,hx,rfl,hxb,hm⟩
 refine ⟨_,rfl,_,HM.join hm,?_⟩
 refine (Jp 1∘Jx∘Jx∘JA #[vI 0,vI 0,vQ 0,vN,vN,vN,vN,vN,vN]) fun yM g11=>(JV bQ bg) fun amz=>(Jp 1∘Jr∘Jp 1∘JL (h:=by exact fun HM=>qyt jQ c28 B _ (hL.mem HM hB) (HM.le hB) (HM.rd (i:=3) rfl) hc28)) ?_
 rintro HM _ w53 ⟨y,rfl,hbw⟩
 refine ⟨_,rfl,_,HM.call hbw,?_⟩
 refine (Jp 1∘Jx∘Jx∘JA #[vI 0,vI 0,vQ 0,vN,vN,vN,vN,vN,vN]) fun xC g13=>(JV bQ bg (h1:=by exact Fy y)) fun QW=>(Jp 1∘aN∘Jj∘JQ∘JP∘Jv 20 [(75,.slice Bv 8 xB),(74,.bool false)]∘Jl∘Jv 4 [(80,.slice Bv 8 xB),(79,.bool false)]∘Jy (h:=by exact Yl.yA aM (j:=4) rfl rfl rfl om)∘Jy (h:=by exact Yl.str rfl rfl (fun _ h=>q50 (h.rd (i:=6) rfl) rfl))∘Jp 3) (Ju (fun En=>?_) fun En=>?_)
 ·
  intro a Z HM
  rw [show ((gH [113,97,1,0]).toList==(ByteArray.mk #[113,97,1,0]).toList)=true from Qa [113,97,1,0]] at En;cases En
 refine (Jp 1∘Jl∘Jv 4 [(91,.slice jQ 39 c28),(90,.bool false)]∘Jy (h:=by exact Yl.yA aM (j:=7) rfl rfl rfl om)∘Jy (h:=by exact Yl.str rfl rfl (fun _ h=>q5z (h.rd (i:=4) rfl) rfl))∘Jp 3) (Ju (fun Eo=>?_) fun Eo=>?_)
 ·
  intro a Z HM
  rw [show ((gH [113,97,1,1,1,15,13]).toList==(ByteArray.mk #[113,97,1,1,1,15,13]).toList)=true from Qa [113,97,1,1,1,15,13]] at Eo;cases Eo
 refine (Jp 1∘Jl∘Jv 4 [(102,.slice mV 1 kM),(101,.bool false)]) ?_
 repeat (first|clear Z|clear HM)
 intro a Z HM
 obtain ⟨wW,rfl⟩:=qc2 (HM.own (i:=3) rfl) (Nat.lt_of_le_of_lt (Nat.zero_le _) (show 0<1 from by omega))
 refine Jb Z HM ((Jy (v:=vP wW 0) (h:=by exact Yl.indexAddr (ad:=⟨wW,0,none⟩) (y:=0) (sz:=4) rfl rfl rfl om kr)∘Jy (v:= .agg ((⟨1,11,26,39⟩:Pl).cells)) (h:=by exact Yl.qm rfl rfl kE rfl (fun _ h=>h.Qb sH (i:=3) rfl ((show [(⟨1,11,26,39⟩:Pl)][0]?=some _ from rfl))))∘Jy (v:= .agg #[vI 1,vI 11,vI 26,vI 39]) (h:=by exact Yl.build (vs:=[(0,vI 1),(1,vI 11),(2,vI 26),(3,vI 39)]) rfl kr kr)∘Jy (v:= .bool false) (h:=by exact Yl.Xd (b:=true) rfl rfl rfl KX)∘Jv 6 [(112,.bool false)]∘Jf 0∘Jg 0 O1∘Jv 3 [(118,.bool false)]∘Jg 8 O1∘Jl∘Jv 3 [(124,.bool false)]∘Jg 8 O1∘Jy (v:=vP gl 0) (h:=by exact Yl.indexAddr (ad:=⟨gl,0,none⟩) (y:=0) (sz:=5) rfl rfl rfl om kr)∘Jf 3∘Jy (v:=vI hx.b.next) (h:=by exact Yl.ze rfl rfl kr (fun _ h=>h.Ap QQ (i:=2) rfl (k:=0) (off:=3) (x:=hx) ((show [hx][0]?=some _ from rfl)) rfl))∘Jo (vI 7) (by rw [hxb];try rfl)∘Jv 2 [(131,.bool false)]∘aN∘Jq) fun a Z HM=>?_)
 replace Z:=Z.to [(131,.bool false),(11,vP g11 0),(3,.slice jQ 39 c28),(0,.bool false)]
 refine Jb Z HM ((JG∘JF∘aI∘JP∘JL (h:=by exact fun HM=>FL 1 (by unfold bC;decide) _)) ?_)
 rintro HM _ Uz ⟨bF,rfl,K6,K7,K8,hm⟩
 refine ⟨_,rfl,_,(show Mem w Uz (.blk g13 y.cells 55:: .blk g11 #[vI 1,vI z.az,vQ z.au,.slice z.gA z.gs.length z.gc,.slice z.lA z.cl.length z.lc,.slice z.uA z.cu.length z.uc,.slice z.tA z.ts.length z.tc,.slice z.sA z.rs.length z.sc,vS gl 1 cl] 55:: .row (vS gl 1 cl) 1 ([hx].flatMap hbL) 59 5:: .row (vS wW 1 kM) 1 ([(⟨1,11,26,39⟩:Pl)].flatMap fe) 128 4:: .row (.slice jQ 39 c28) 39 (bM.map B8) 5 1:: .blk FJ p26.cells 55:: .row (.slice Bv 8 xB) 8 (jL.map B8) 5 1::(fq bF++([]))) from HM.gD (T:=[]) 7 hm rfl),?_⟩
 refine (JL (h:=by exact fun HM=>FL 0 (by unfold bC;decide) _)) ?_
 rintro HM _ UA ⟨bI,rfl,K9,La,Lc,hm⟩
 refine ⟨_,rfl,_,(show Mem w UA (.blk g13 y.cells 55:: .blk g11 #[vI 1,vI z.az,vQ z.au,.slice z.gA z.gs.length z.gc,.slice z.lA z.cl.length z.lc,.slice z.uA z.cu.length z.uc,.slice z.tA z.ts.length z.tc,.slice z.sA z.rs.length z.sc,vS gl 1 cl] 55:: .row (vS gl 1 cl) 1 ([hx].flatMap hbL) 59 5:: .row (vS wW 1 kM) 1 ([(⟨1,11,26,39⟩:Pl)].flatMap fe) 128 4:: .row (.slice jQ 39 c28) 39 (bM.map B8) 5 1:: .blk FJ p26.cells 55:: .row (.slice Bv 8 xB) 8 (jL.map B8) 5 1::(fq bI++(fq bF++([])))) from HM.gD (T:=fq bF++([])) 7 hm rfl),?_⟩
 refine (JU nV #[vI bF.z.next,vI bF.z.st.az,vQ bF.z.st.au,.slice bF.z.st.gA bF.z.st.gs.length bF.z.st.gc,.slice bF.z.st.lA bF.z.st.cl.length bF.z.st.lc,.slice bF.z.st.uA bF.z.st.cu.length bF.z.st.uc,.slice bF.z.st.tA bF.z.st.ts.length bF.z.st.tc,.slice bF.z.st.sA bF.z.st.rs.length bF.z.st.sc,.slice bF.A bF.q.length bF.c,vI bI.z.next,vI bI.z.st.az,vQ bI.z.st.au,.slice bI.z.st.gA bI.z.st.gs.length bI.z.st.gc,.slice bI.z.st.lA bI.z.st.cl.length bI.z.st.lc,.slice bI.z.st.uA bI.z.st.cu.length bI.z.st.uc,.slice bI.z.st.tA bI.z.st.ts.length bI.z.st.tc,.slice bI.z.st.sA bI.z.st.rs.length bI.z.st.sc,.slice bI.A bI.q.length bI.c]) fun amA Ld=>(JI (h:=by exact fun HM=>qt2 (some ⟨Ld,0,none⟩) 2 bF bI K6 K7 K9 La B _ (hL.mem HM hB) (HM.le hB) (HM.aZ (i:=0) (n:=2) (size:=9) rfl rfl) (qyn K8 (HM.KT 8 rfl) Lc (HM.Uj 8 rfl)) de)) fun amB hbw=>(Jp 1∘Jx∘Jx∘Jp 2∘Jq) fun a Z HM=>?_
 replace HM:Mem w _ [.blk Ld #[vI bF.z.next,vI bF.z.st.az,vQ bF.z.st.au,.slice bF.z.st.gA bF.z.st.gs.length bF.z.st.gc,.slice bF.z.st.lA bF.z.st.cl.length bF.z.st.lc,.slice bF.z.st.uA bF.z.st.cu.length bF.z.st.uc,.slice bF.z.st.tA bF.z.st.ts.length bF.z.st.tc,.slice bF.z.st.sA bF.z.st.rs.length bF.z.st.sc,.slice bF.A bF.q.length bF.c,vI bI.z.next,vI bI.z.st.az,vQ bI.z.st.au,.slice bI.z.st.gA bI.z.st.gs.length bI.z.st.gc,.slice bI.z.st.lA bI.z.st.cl.length bI.z.st.lc,.slice bI.z.st.uA bI.z.st.cu.length bI.z.st.uc,.slice bI.z.st.tA bI.z.st.ts.length bI.z.st.tc,.slice bI.z.st.sA bI.z.st.rs.length bI.z.st.sc,.slice bI.A bI.q.length bI.c] 55,.blk g13 y.cells 55,.blk g11 #[vI 1,vI z.az,vQ z.au,.slice z.gA z.gs.length z.gc,.slice z.lA z.cl.length z.lc,.slice z.uA z.cu.length z.uc,.slice z.tA z.ts.length z.tc,.slice z.sA z.rs.length z.sc,vS gl 1 cl] 55,.row (vS gl 1 cl) 1 ([hx].flatMap hbL) 59 5,.row (vS wW 1 kM) 1 ([(⟨1,11,26,39⟩:Pl)].flatMap fe) 128 4,.row (.slice jQ 39 c28) 39 (bM.map B8) 5 1,.blk FJ p26.cells 55,.row (.slice Bv 8 xB) 8 (jL.map B8) 5 1]:=HM.nC (List.sublist_append_left _ _)
 replace HM:=HM.pk [5]
 refine Jb Z HM ((JG∘JP∘JL (h:=by exact fun HM=>FL 1 (by unfold bC;decide) _)) ?_)
 rintro HM _ UB ⟨bB,rfl,Le,Lf,Lg,hm⟩
 refine ⟨_,rfl,_,(show Mem w UB (.row (.slice jQ 39 c28) 39 (bM.map B8) 5 1::(fq bB++([]))) from HM.gD (T:=[]) 1 hm rfl),?_⟩
 refine (JL (h:=by exact fun HM=>FL 5 (by unfold bC;decide) _)) ?_
 rintro HM _ UC ⟨bG,rfl,Lh,Li,Lj,hm⟩
 refine ⟨_,rfl,_,(show Mem w UC (.row (.slice jQ 39 c28) 39 (bM.map B8) 5 1::(fq bG++(fq bB++([])))) from HM.gD (T:=fq bB++([])) 1 hm rfl),?_⟩
 refine (JL (h:=by exact fun HM=>FL 4 (by unfold bC;decide) _)) ?_
 rintro HM _ UD ⟨bJ,rfl,Ll,Lm,Lp,hm⟩
 refine ⟨_,rfl,_,(show Mem w UD (.row (.slice jQ 39 c28) 39 (bM.map B8) 5 1::(fq bJ++(fq bG++(fq bB++([]))))) from HM.gD (T:=fq bG++(fq bB++([]))) 1 hm rfl),?_⟩
 refine (JU nV #[vI bB.z.next,vI bB.z.st.az,vQ bB.z.st.au,.slice bB.z.st.gA bB.z.st.gs.length bB.z.st.gc,.slice bB.z.st.lA bB.z.st.cl.length bB.z.st.lc,.slice bB.z.st.uA bB.z.st.cu.length bB.z.st.uc,.slice bB.z.st.tA bB.z.st.ts.length bB.z.st.tc,.slice bB.z.st.sA bB.z.st.rs.length bB.z.st.sc,.slice bB.A bB.q.length bB.c,vI bG.z.next,vI bG.z.st.az,vQ bG.z.st.au,.slice bG.z.st.gA bG.z.st.gs.length bG.z.st.gc,.slice bG.z.st.lA bG.z.st.cl.length bG.z.st.lc,.slice bG.z.st.uA bG.z.st.cu.length bG.z.st.uc,.slice bG.z.st.tA bG.z.st.ts.length bG.z.st.tc,.slice bG.z.st.sA bG.z.st.rs.length bG.z.st.sc,.slice bG.A bG.q.length bG.c,vI bJ.z.next,vI bJ.z.st.az,vQ bJ.z.st.au,.slice bJ.z.st.gA bJ.z.st.gs.length bJ.z.st.gc,.slice bJ.z.st.lA bJ.z.st.cl.length bJ.z.st.lc,.slice bJ.z.st.uA bJ.z.st.cu.length bJ.z.st.uc,.slice bJ.z.st.tA bJ.z.st.ts.length bJ.z.st.tc,.slice bJ.z.st.sA bJ.z.st.rs.length bJ.z.st.sc,.slice bJ.A bJ.q.length bJ.c]) fun amC Lr=>(JI (h:=by exact fun HM=>qon (some ⟨Lr,0,none⟩) 3 bB bG bJ Le Lf Lh Li Ll Lm B _ (hL.mem HM hB) (HM.le hB) (HM.aZ (i:=0) (n:=3) (size:=9) rfl rfl) (q5x Lg (HM.Uk 2 rfl) Lj (HM.KT 2 rfl) Lp (HM.Uj 2 rfl)) de)) fun amD hbw=>(Jp 1∘Jx∘Jx∘Jp 2∘Jq) fun a Z HM=>?_
 replace HM:Mem w _ [.blk Lr #[vI bB.z.next,vI bB.z.st.az,vQ bB.z.st.au,.slice bB.z.st.gA bB.z.st.gs.length bB.z.st.gc,.slice bB.z.st.lA bB.z.st.cl.length bB.z.st.lc,.slice bB.z.st.uA bB.z.st.cu.length bB.z.st.uc,.slice bB.z.st.tA bB.z.st.ts.length bB.z.st.tc,.slice bB.z.st.sA bB.z.st.rs.length bB.z.st.sc,.slice bB.A bB.q.length bB.c,vI bG.z.next,vI bG.z.st.az,vQ bG.z.st.au,.slice bG.z.st.gA bG.z.st.gs.length bG.z.st.gc,.slice bG.z.st.lA bG.z.st.cl.length bG.z.st.lc,.slice bG.z.st.uA bG.z.st.cu.length bG.z.st.uc,.slice bG.z.st.tA bG.z.st.ts.length bG.z.st.tc,.slice bG.z.st.sA bG.z.st.rs.length bG.z.st.sc,.slice bG.A bG.q.length bG.c,vI bJ.z.next,vI bJ.z.st.az,vQ bJ.z.st.au,.slice bJ.z.st.gA bJ.z.st.gs.length bJ.z.st.gc,.slice bJ.z.st.lA bJ.z.st.cl.length bJ.z.st.lc,.slice bJ.z.st.uA bJ.z.st.cu.length bJ.z.st.uc,.slice bJ.z.st.tA bJ.z.st.ts.length bJ.z.st.tc,.slice bJ.z.st.sA bJ.z.st.rs.length bJ.z.st.sc,.slice bJ.A bJ.q.length bJ.c] 55,.row (.slice jQ 39 c28) 39 (bM.map B8) 5 1]:=HM.nC (List.sublist_append_left _ _)
 replace HM:=HM.pk [1]
 refine Jb Z HM ((JG∘JP∘Jp 1∘JU aM #[vB 0]) fun amE amF=>(JD ([0].map B8) 1 (fun _ _=>fJ) aM (hr:=by exact fun HM=>HM.aZ (i:=0) (n:=1) (size:=1) rfl rfl) (h1:=by decide)) fun amG UE UF hc150=>(JL (h:=by exact fun HM=>qt3 UE UF B _ (hL.mem HM hB) (HM.le hB) (HM.rd (i:=1) rfl) hc150)) ?_)
 rintro HM _ amH ⟨⟨amI,amJ,rfl,_,_⟩,hbw⟩
 refine ⟨_,rfl,_,HM.call hbw,?_⟩
 exact (Jp 1∘Jx∘Jx∘Jp 2∘aN∘Jr∘Jv 19 [(0,.bool true)]∘aN∘Jj∘JZ) qU
theorem ik {x:Bool} (h:x=true):Value.bool x= .bool true:=h▸rfl
theorem q7y (A:Option Addr) (c:Nat) (b:List Nat) (B:Nat) (w:World) (hL:ax B w) (hB:B≤w.heap.size) (hr:Rd w w.heap.size 1 A b.length (b.map B8)) (hc:b.length≤c) (hn:b.length≤100000000) (hl:∀z∈b,z<256) {L:List Pl} {ie:Nat} (hi:aQ b=(L,ie)) (h0:ie≠0):Calls Tryz.prog 19 #[.slice A b.length c] w (Is w (.tuple #[vN,vI (-1),vI ie])):=by
 refine (Uc A c b B w hL hB hr hc hn hl).mono fun r w' h=>?_
 rcases h with ⟨_,h⟩|⟨h,_⟩|⟨h,_⟩
 ·rwa [hi] at h
 ·rw [hi] at h;exact absurd h h0
 ·rw [hi] at h;exact absurd h h0
theorem q7z (A:Option Addr) (c:Nat) (b:List Nat) (B:Nat) (w:World) (hL:ax B w) (hB:B≤w.heap.size) (hr:Rd w w.heap.size 1 A b.length (b.map B8)) (hc:b.length≤c) (hn:b.length≤100000000) (hl:∀z∈b,z<256) {L:List Pl} {ie:Nat} (hi:aQ b=(L,ie)) (h0:ie≠0):Calls Tryz.prog 20 #[.slice A b.length c] w (fun r w'=>∃(X:Option Addr) (cx:Nat),r= .returned (.tuple #[.slice X 0 cx,vI ie])∧Below w.heap.size w w'):=by
 refine (KG A c b B w hL hB hr hc hn hl).mono fun r w' h=>?_
 have e:=(q49 b).2
 rw [hi] at h e
 obtain rfl:L=[]:=e h0
 obtain ⟨⟨X,cx,rfl,_,_⟩,hb⟩:=h
 exact ⟨X,cx,rfl,hb⟩
theorem q70 (A:Option Addr) (c:Nat) (b:List Nat) (B:Nat) (w:World) (hL:ax B w) (hB:B≤w.heap.size) (hr:Rd w w.heap.size 1 A b.length (b.map B8)) (hc:b.length≤c) (hn:b.length≤100000000) (hl:∀z∈b,z<256) {L:List Pl} {ie:Nat} (hi:aQ b=(L,ie)) (h0:ie≠0):Calls Tryz.prog 21 #[.slice A b.length c] w (Is w (.tuple #[vN,vI ie])):=by
 refine (qok A c b B w hL hB hr hc hn hl).mono fun r w' h=>?_
 rcases h with ⟨_,h⟩|⟨h,_⟩
 ·rwa [hi] at h
 ·rw [hi] at h;exact absurd h h0
theorem q71 (A:Option Addr) (c:Nat) (b:List Nat) (B:Nat) (w:World) (hL:ax B w) (hB:B≤w.heap.size) (hr:Rd w w.heap.size 1 A b.length (b.map B8)) (hc:b.length≤c) (hn:b.length≤100000000) (hl:∀z∈b,z<256) {L:List Pl} {k e:Nat} (hi:aQ b=(L,0)) (hbd:fH b L 0=some (k,e)):Calls Tryz.prog 19 #[.slice A b.length c] w (Is w (.tuple #[vN,vI k,vI e])):=by
 refine (Uc A c b B w hL hB hr hc hn hl).mono fun r w' h=>?_
 rw [TQ,hi] at h
 rcases h with ⟨h,_⟩|⟨_,k2,e2,h,h2⟩|⟨_,h,_⟩
 ·exact absurd rfl h
 ·rw [hbd] at h
  injection h with h
  injection h with h h3
  subst h h3
  exact h2
 ·rw [hbd] at h;cases h
theorem q29 (A:Option Addr) (c:Nat) (b:List Nat) (B:Nat) (w:World) (hL:ax B w) (hB:B≤w.heap.size) (hr:Rd w w.heap.size 1 A b.length (b.map B8)) (hc:b.length≤c) (hn:b.length≤100000000) (hl:∀z∈b,z<256) {L:List Pl} (hi:aQ b=(L,0)):Calls Tryz.prog 20 #[.slice A b.length c] w (fun r w'=>∃(X:Option Addr) (cx:Nat),r= .returned (.tuple #[.slice X L.length cx,vI 0])∧Below w.heap.size w w'):=by
 refine (KG A c b B w hL hB hr hc hn hl).mono fun r w' h=>?_
 rw [hi] at h
 obtain ⟨⟨X,cx,rfl,_,_⟩,hb⟩:=h
 exact ⟨X,cx,rfl,hb⟩
theorem q3a (A:Option Addr) (c:Nat) (b:List Nat) (B:Nat) (w:World) (hL:ax B w) (hB:B≤w.heap.size) (hr:Rd w w.heap.size 1 A b.length (b.map B8)) (hc:b.length≤c) (hn:b.length≤100000000) (hl:∀z∈b,z<256) {L:List Pl} {n:Nat} (hi:aQ b=(L,0)) (hg:(dG b L 0).length=n):Calls Tryz.prog 21 #[.slice A b.length c] w (fun r w'=>∃(X:Option Addr) (cx:Nat),r= .returned (.tuple #[.slice X n cx,vI 0])∧Below w.heap.size w w'):=by
 refine (qok A c b B w hL hB hr hc hn hl).mono fun r w' h=>?_
 rw [q25,hi] at h
 rcases h with ⟨h,_⟩|⟨_,⟨X,cx,rfl,_,_⟩,hb⟩
 ·exact absurd rfl h
 ·exact ⟨X,cx,by rw [←hg],hb⟩
theorem q72 (A:Option Addr) (c:Nat) (b:List Nat) (B:Nat) (w:World) (hL:ax B w) (hB:B≤w.heap.size) (hr:Rd w w.heap.size 1 A b.length (b.map B8)) (hc:b.length≤c) (hn:b.length≤100000000) (hl:∀z∈b,z<256) {L:List Pl} (hi:aQ b=(L,0)) (hbd:fH b L 0=none):Calls Tryz.prog 19 #[.slice A b.length c] w (fun r w'=>∃(X:Option Addr) (cx:Nat) (q:List Pm),r= .returned (.tuple #[.slice X q.length cx,vI (-1),vI 0])∧kC b L (q.map Pm.v)∧(∀p∈q,df p)∧q.length≤cx∧Mem w w' (.row (.slice X q.length cx) q.length (q.flatMap iV) 55 9::eD q)):=by
 refine (Uc A c b B w hL hB hr hc hn hl).mono fun r w' h=>?_
 rw [TQ,hi] at h
 rcases h with ⟨h,_⟩|⟨_,k2,e2,h,h2⟩|⟨_,_,X,cx,q,rfl,hq,hof,hok,hcx,hm⟩
 ·exact absurd rfl h
 ·rw [hbd] at h;cases h
 ·have h0:=(ND b L 0 hbd).2
  have hv:∀i,i<L.length→(q.map Pm.v).getD i Pv.zero=(q.getD i Pm.zero).v:=fun i h=>by
   rw [List.getD_eq_getElem?_getD,List.getElem?_map,getD_at Pm.zero (show i<q.length by rw [hq];exact h)];rfl
  exact ⟨X,cx,q,rfl,⟨by rw [List.length_map,hq],fun i h=>by rw [hv i h];exact (hof i (by rw [hq];exact h) (h0 _ (qs Pl.zero h))).1,fun i h=>by rw [hv i h];exact (hof i (by rw [hq];exact h) (h0 _ (qs Pl.zero h))).2⟩,hok,hcx,hm⟩
theorem Mem.Ls {W w:World} {F T:List ag} {q:List Pm} (n:Nat) (h:Mem W w F) (he:F.drop n=eD q++T) (hok:∀p∈q,df p):∀p∈q,df p∧dJ w p:=fun p hp=>⟨hok p hp,h.q8h (fun f hf=>List.mem_of_mem_drop (he▸List.mem_append_left _ hf)) p hp⟩
theorem q73 (A:Option Addr) (c:Nat) (l:List Pm) (b:List Nat) (B:Nat) (w:World) (hL:ax B w) (hB:B≤w.heap.size) (hr:Rd w w.heap.size 9 A l.length (l.flatMap iV)) (hP:∀p∈l,df p∧dJ w p) (hc:l.length≤c) (hn:l.length≤100000) (h:lL (l.map Pm.v)=(b,0)):Calls Tryz.prog 23 #[.slice A l.length c] w (zp w 0 b):=by
 have k:=Um A c l B w hL hB hr hP hc hn
 rwa [h] at k
theorem q54 (A:Option Addr) (c:Nat) (b:List Nat) (B:Nat) (w:World) (hL:ax B w) (hB:B≤w.heap.size) (hr:Rd w w.heap.size 1 A b.length (b.map B8)) (hc:b.length≤c) (hl:∀z∈b,z<256) {L:List Pl} {ie:Nat} (hidx:aQ b=(L,ie)) (h0:ie≠0):
    Calls Tryz.prog 5 #[.slice A b.length c] w (Is w (.bool true)):=by
 refine (dM Tryz.func5 122) ?_
 refine (JP∘Jp 1∘Jj∘JQ∘JP∘JI (h:=by exact fun HM=>Uv B _ (hL.mem HM hB) (HM.le hB))) fun yI hbw=>(Jp 1∘aT∘Jj∘JF∘aI∘JQ∘JP∘Jp 1∘Jl∘Jp 1∘bK∘Jj) (Ji (fun iw=>?_) fun iw=>?_)
 ·
  exact (JT∘JP∘Jp 1∘Jj∘JZ) qU
 refine (JF∘aI∘JP∘Jp 1∘JI (h:=by exact fun HM=>q7y A c b B _ (hL.mem HM hB) (HM.le hB) (HM.old hr) hc om hl hidx h0)) fun FB hbw=>(Jp 1∘Jx∘Jx∘Jx∘Jp 3∘Jr∘Jp 1∘JL (h:=by exact fun HM=>q7z A c b B _ (hL.mem HM hB) (HM.le hB) (HM.old hr) hc om hl hidx h0)) ?_
 rintro HM _ Fz ⟨UG,x27,rfl,hbw⟩
 refine ⟨_,rfl,_,HM.call hbw,?_⟩
 exact (Jp 1∘Jx∘Jx∘Jp 2∘Jr∘Jp 1∘JI (h:=by exact fun HM=>q70 A c b B _ (hL.mem HM hB) (HM.le hB) (HM.old hr) hc om hl hidx h0)) fun w32 hbw=>(Jp 1∘Jx∘Jx∘Jp 2∘Jj∘JQ∘JP∘Jp 3∘Jo (.bool false) (by simp)∘Jp 3∘Jo (.bool true) (by exact ik (bne_iff_ne.2 om))∘Jp 4∘Jo (.bool false) (by simp)∘Jv 6 [(50,.bool false)]∘aN∘Jj∘JF∘aI∘JQ∘JP∘Jp 2∘Jo (.bool true) (by exact ik (bne_iff_ne.2 om))∘aT∘Jj∘JT∘JP∘Jp 1∘Jl∘Jv 4 [(58,.bool ((ie:Int) !=(0:Int))),(56,.bool true)]∘Jo (.bool true) (by exact ik (bne_iff_ne.2 om))∘Jv 19 [(2,.bool true)]∘gW∘Jj∘JZ) qU
theorem q55 (A:Option Addr) (c:Nat) (b:List Nat) (B:Nat) (w:World) (hL:ax B w) (hB:B≤w.heap.size) (hr:Rd w w.heap.size 1 A b.length (b.map B8)) (hc:b.length≤c) (hl:∀z∈b,z<256) {L:List Pl} {k e:Nat} (hidx:aQ b=(L,0)) (hbd:fH b L 0=some (k,e)) (h0:e≠0) (hk:k<L.length) (hg:(dG b L 0).length<L.length):
    Calls Tryz.prog 5 #[.slice A b.length c] w (Is w (.bool true)):=by
 refine (dM Tryz.func5 122) ?_
 refine (JP∘Jp 1∘Jj∘JQ∘JP∘JI (h:=by exact fun HM=>Uv B _ (hL.mem HM hB) (HM.le hB))) fun yI hbw=>(Jp 1∘aT∘Jj∘JF∘aI∘JQ∘JP∘Jp 1∘Jl∘Jp 1∘bK∘Jj) (Ji (fun iw=>?_) fun iw=>?_)
 ·
  exact (JT∘JP∘Jp 1∘Jj∘JZ) qU
 refine (JF∘aI∘JP∘Jp 1∘JI (h:=by exact fun HM=>q71 A c b B _ (hL.mem HM hB) (HM.le hB) (HM.old hr) hc om hl hidx hbd)) fun FB hbw=>(Jp 1∘Jx∘Jx∘Jx∘Jp 3∘Jr∘Jp 1∘JL (h:=by exact fun HM=>q29 A c b B _ (hL.mem HM hB) (HM.le hB) (HM.old hr) hc om hl hidx)) ?_
 rintro HM _ Fz ⟨UG,x27,rfl,hbw⟩
 refine ⟨_,rfl,_,HM.call hbw,?_⟩
 refine (Jp 1∘Jx∘Jx∘Jp 2∘Jr∘Jp 1∘JL (h:=by exact fun HM=>q3a A c b B _ (hL.mem HM hB) (HM.le hB) (HM.old hr) hc om hl hidx rfl)) ?_
 rintro HM _ w32 ⟨X32,x32,rfl,hbw⟩
 refine ⟨_,rfl,_,HM.call hbw,?_⟩
 exact (Jp 1∘Jx∘Jx∘Jp 2∘Jj∘JQ∘JP∘Jv 16 [(50,.bool false)]∘aT∘Jj∘JF∘aI∘JQ∘JP∘Jp 2∘Jo (.bool true) (by exact ik (bne_iff_ne.2 om))∘aT∘Jj∘JT∘JP∘Jp 1∘Jl∘Jv 7 [(61,.bool (decide ((k:Int)≥(0:Int)))),(59,.bool false),(56,.bool true)]∘Jo (.bool true) (by exact ik (decide_eq_true om))∘Jp 3∘Jl∘Jp 1∘Jo (.bool true) (by exact ik (decide_eq_true om))∘Jp 3∘Jl∘Jp 1∘Jl∘Jp 1∘Jo (.bool true) (by exact ik (decide_eq_true om))∘Jp 4∘aN∘Jj∘JZ) qU
theorem q56 (A:Option Addr) (c:Nat) (b:List Nat) (B:Nat) (w:World) (hL:ax B w) (hB:B≤w.heap.size) (hr:Rd w w.heap.size 1 A b.length (b.map B8)) (hc:b.length≤c) (hl:∀z∈b,z<256) {L:List Pl} (hidx:aQ b=(L,0)) (hbd:fH b L 0=none) (hg:(dG b L 0).length=L.length) (hLn:L.length≤1024):
    Calls Tryz.prog 5 #[.slice A b.length c] w (Is w (.bool true)):=by
 refine (dM Tryz.func5 122) ?_
 refine (JP∘Jp 1∘Jj∘JQ∘JP∘JI (h:=by exact fun HM=>Uv B _ (hL.mem HM hB) (HM.le hB))) fun yI hbw=>(Jp 1∘aT∘Jj∘JF∘aI∘JQ∘JP∘Jp 1∘Jl∘Jp 1∘bK∘Jj) (Ji (fun iw=>?_) fun iw=>?_)
 ·
  exact (JT∘JP∘Jp 1∘Jj∘JZ) qU
 refine (JF∘aI∘JP∘Jp 1∘JL (h:=by exact fun HM=>q72 A c b B _ (hL.mem HM hB) (HM.le hB) (HM.old hr) hc om hl hidx hbd)) ?_
 rintro HM _ FB ⟨Xq,cq,q,rfl,hro,hok,hcq,hm⟩
 refine ⟨_,rfl,_,(show Mem w FB (.row (.slice Xq q.length cq) q.length (q.flatMap iV) 55 9::(eD q++([]))) from HM.join hm),?_⟩
 intro a Z HM
 have kY:q.length=L.length:=by rw [←hro.len,List.length_map]
 have hwo:=qxv hl hidx hro (ND b L 0 hbd).2
 refine Jb Z HM ((Jp 1∘Jx∘Jx∘Jx∘Jp 3∘Jr∘Jp 1∘JL (h:=by exact fun HM=>q29 A c b B _ (hL.mem HM hB) (HM.le hB) (HM.old hr) hc om hl hidx)) ?_)
 rintro HM _ Fz ⟨UG,x27,rfl,hbw⟩
 refine ⟨_,rfl,_,HM.call hbw,?_⟩
 refine (Jp 1∘Jx∘Jx∘Jp 2∘Jr∘Jp 1∘JL (h:=by exact fun HM=>q3a A c b B _ (hL.mem HM hB) (HM.le hB) (HM.old hr) hc om hl hidx hg)) ?_
 rintro HM _ w32 ⟨X32,x32,rfl,hbw⟩
 refine ⟨_,rfl,_,HM.call hbw,?_⟩
 refine (Jp 1∘Jx∘Jx∘Jp 2∘Jj∘JQ∘JP∘Jv 16 [(50,.bool false)]∘aT∘Jj∘JF∘aI∘JQ∘JP∘Jv 2 [(52,.bool false)]∘Jj∘JF∘aI∘JP∘Jp 1∘JI (h:=by exact fun HM=>Ob Xq cq q B _ (hL.mem HM hB) (HM.le hB) (HM.rd (i:=0) rfl) (HM.Ls 1 rfl hok) hcq om hwo.1)) fun YM hbw=>(Jp 1∘Jx∘Jx∘Jp 2∘Jr∘Jp 1∘JK (h:=by exact fun HM=>q73 Xq cq q b B _ (hL.mem HM hB) (HM.le hB) (HM.rd (i:=0) rfl) (HM.Ls 1 rfl hok) hcq om hwo.2)) fun Ao co w84 hco=>(Jp 1∘Jx∘Jx∘Jp 2∘Jr∘Jv 16 [(102,.slice Ao b.length co),(101,.bool true)]∘Jy (h:=by exact Yl.str rfl rfl (fun _ h=>h.rd (i:=0) rfl))∘Jp 1∘Jy (h:=by exact Yl.str rfl rfl (fun _ h=>h.old hr))∘Jp 1∘Jo (.bool true) (by exact ik (Qa b))∘Jp 3∘Jl∘Jp 1∘Jl∘Jp 1∘Jo (.bool true) (by exact ik (decide_eq_true om))∘Jp 3) fun a Z HM=>?_
 refine Jb Z HM ((Jl∘Jp 1∘Jl∘Jp 1∘Jo (.bool true) (by exact ik (decide_eq_true om))∘Jp 2∘aN∘Jq) fun a Z HM=>?_)
 replace Z:=Z.to [(2,.bool true),(52,.bool false),(50,.bool false),(8,.slice X32 L.length x32),(7,vI 0),(6,.slice UG L.length x27),(5,vI 0),(4,vI (-1)),(3,.slice Xq q.length cq),(18,.bool false),(15,.bool false),(0,.slice A b.length c)]
 exact Jb Z HM ((JG∘JZ) qU)
theorem qj0 (A:Option Addr) (c:Nat) (b:List Nat) (B:Nat) (w:World) (hL:ax B w) (hB:B≤w.heap.size) (hr:Rd w w.heap.size 1 A b.length (b.map B8)) (hc:b.length≤c) (hl:∀z∈b,z<256):
    Calls Tryz.prog 5 #[.slice A b.length c] w (Is w (.bool true)):=by
 obtain ⟨L,ie,hidx⟩:∃L ie,aQ b=(L,ie):=⟨_,_,rfl⟩
 by_cases h0:ie=0
 · subst h0
   cases hbd:fH b L 0 with
   |none=>exact q56 A c b B w hL hB hr hc hl hidx hbd (ND b L 0 hbd).1 (KJ hl hidx)
   | some x =>
     obtain ⟨k,e⟩:=x
     have h:=ZP b L 0 hbd
     exact q55 A c b B w hL hB hr hc hl hidx hbd h.2.2.1 om h.2.2.2
 · exact q54 A c b B w hL hB hr hc hl hidx h0
end Go.Proofs.YtieeckeaijdaeaaGreatDoor
