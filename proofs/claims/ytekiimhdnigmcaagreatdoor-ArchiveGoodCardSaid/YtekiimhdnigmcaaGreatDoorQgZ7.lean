/- Parts. -/
import Derived.Test.YtekiimhdnigmcaaGreatDoorQgZ6
set_option linter.all false
set_option maxRecDepth 100000
set_option maxHeartbeats 1000000
namespace Go.Proofs.YtekiimhdnigmcaaGreatDoor
open Go.RowKit
open Go renaming World→ajg,Value→ajh,Program→aji,Ending→ajk,Exit→ajp
open List renaming length→abr
open _root_.Go.Proofs.Tryz renaming prog→abt
open _root_.List renaming length_append→abu,getD_eq_getElem?_getD→abw,append_assoc→aby,length_map→abz,length_take→abA,length_drop→abE,length_set→abL,append_nil→abN,mem_of_mem_drop→abQ,length_cons→abS,map_append→abW,flatMap_append→abZ,mem_append→acg,mem_of_mem_take→aco,drop_of_length_le→acu,perm_append_comm→acG,mem_flatMap→acT,length→acY,sublist_append_left→aeA,sublist_append_right→aeH,set_set→afn,mem_singleton→afL
open Nat renaming le_refl→abx,zero_le→abC,zero_add→ab9
open _root_.ByteArray renaming mk→abB
open Value renaming bool→abP
open Bool renaming not_eq_true'→acP,not_eq_false'→aem
open Hb renaming b→ac2
open List.Sublist renaming append_left→ahw
variable {w W:ajg} {c:Nat} {A:ajq} {q:List Pm} {a:List ajr} {p:Pm} {b:List Nat} {L:List Pl}
def zjm {B i j:Nat} {l:List Nat} (h:Rd w B 1 A (abr l) (l.map B8)) (h1:i<=j) (a:j<=abr l) (hc:abr l<=c):Rd w B 1 (if c=i then A else A.map (·.add (i*1))) (j-i) ((bn l i j).map B8):=h.yG h1 a hc
def zg8 (l:List Nat) (A:ajq) (n c:Nat) (B:Nat) (w:ajg) (d:aR B w) (e:B<=w.heap.size) (hr:Rd w w.heap.size 1 A n (l.map B8)) (a:abr l=n) (hc:n<=c) (f:∀b∈l,b<256) (g:n<=100000000) {bs:List Bk} {er:Nat} (h:readAll l=(bs,er)):Calls abt 71 #[.slice A n c] w (Df 73 85 w er bs):=by
 subst a
 have k:=qxy A c l B w d e hr hc f g
 rwa [h] at k
def q0z {f:ajr} {q:List Hb} (h:Mem W w (f::(gH 73 q++[]))):Mem W w (f::gH 73 q):=by rwa [abN] at h
theorem Mem.LU {i:ajg} {gs:List ajr} (h:Mem W w a) (k:Mem w i gs):Mem W i (a++(gs++[])):=by
 rw [abN]
 exact h.qX k
def zg9 {z:dG} {q:List Hb} (h:Mem W w (.row (.slice A (abr q) c) (abr q) (q.flatMap hbL) 85 5::(gH 73 q++(jV z.st++[])))):Mem W w (jd ⟨z,A,c,q⟩):=by
 rw [abN] at h
 exact h.perm (acG (l₁:=ajr.row (.slice A (abr q) c) (abr q) (q.flatMap hbL) 85 5::gH 73 q) (l₂:=jV z.st))
def qxz (A:ajq) (c:Nat) (b:List Nat) (B:Nat) (w:ajg) (r:aR B w) (m:B<=w.heap.size) (hr:Rd w w.heap.size 1 A (abr b) (b.map B8)) (hc:abr b<=c) (u:abr b<=100000000) (s:∀z∈b,z<256) (x:Pl) (l:x.sn<=x.st/\x.st<=x.en/\x.en<=abr b):
    Calls abt 56 #[.agg #[vI (x.nx:Int),vI (x.sn:Int),vI (x.st:Int),vI (x.en:Int),.slice A (abr b) c]] w (Df 73 85 w (readAll (bn b x.st x.en)).2 (readAll (bn b x.st x.en)).1):=by
 refine (fE Tryz.func56 16) ?_
 refine (JP∘JE) λy g1=>(Jp 2∘Jq) ?_
 obtain ⟨bs,n,f⟩:∃bs n,readAll (bn b x.st x.en)=(bs,n):=⟨_,_,rfl⟩
 refine (JG∘JP∘Jg 4 O0∘Jf 0∘Jg 2 O0∘Jf 0∘Jg 3 O0∘Jy (v:= .slice (if c=x.st then A else A.map (·.add (x.st*1))) (x.en-x.st) (c-x.st)) (h:=by exact aan bD (i:=x.st) (j:=x.en) rfl rfl rfl rfl om om)∘JL (h:=by exact λe=>zg8 (bn b x.st x.en) _ _ _ B _ (r.mem e m) (e.le m) (zjm (e.old hr) l.2.1 l.2.2 hc) (Eh l.2.2) om (KO s _ _) om f)) ?_
 rintro e _ t ⟨o,p,q,rfl,g,k,hm⟩
 have d:abr bs=abr q:=by rw [<-g,abz]
 rw [d] at hm k⊢
 refine ⟨_,rfl,_,aaL (a:=[.blk g1 #[vI x.nx,vI x.sn,vI x.st,vI x.en,abo A b c] 131]) (b:=[]) e hm,?_⟩
 exact (Jx∘Jx∘bO 2∘JZ∘bW) λe=>by rw [f];exact ⟨o,p,q,by rw [d],g,by rw [d];exact k,by rw [d];exact q0z (e.pt (fs':=(abq o q p hbL 85 5::(gH 73 q++([])))) 2 [0])⟩
def qpi (A:ajq) (c:Nat) (b:List Nat) (B:Nat) (w:ajg) (a:aR B w) (d:B<=w.heap.size) (hr:Rd w w.heap.size 1 A (abr b) (b.map B8)) (hc:abr b<=c) (e:abr b<=100000000) (f:∀z∈b,z<256) (x:Pl) (g:x.sn<=x.st/\x.st<=x.en/\x.en<=abr b) {bs:List Bk} {er:Nat} (h:readAll (bn b x.st x.en)=(bs,er)):Calls abt 56 #[.agg #[vI (x.nx:Int),vI (x.sn:Int),vI (x.st:Int),vI (x.en:Int),.slice A (abr b) c]] w (Df 73 85 w er bs):=by
 have k:=qxz A c b B w a d hr hc e f x g
 rwa [h] at k
def zbm (A:ajq) (c:Nat) (b:List Nat) (B:Nat) (w:ajg) (d:aR B w) (f:B<=w.heap.size) (hr:Rd w w.heap.size 1 A (abr b) (b.map B8)) (hc:abr b<=c) (l:abr b<=100000000) (g:∀z∈b,z<256) {e:Nat} {s:dG} (i j:Nat) (h1:i<=j) (a:j<=abr b) (h:oG (bn b i j)=e) (hs:lS (bn b i j)=s):Calls abt 112 #[.slice (if c=i then A else A.map (·.add (i*1))) (j-i) (c-i)] w (OV w e s):=by
 subst h hs
 have k:=zap (if c=i then A else A.map (·.add (i*1))) (c-i) (bn b i j) B w d f (by rw [Eh a];exact zjm hr h1 a hc) (by rw [Eh a];omega) (by rw [Eh a];omega) (KO g _ _)
 rwa [Eh a] at k
def qu0 (A:ajq) (c:Nat) (b:List Nat) (B:Nat) (w:ajg) (I:aR B w) (t:B<=w.heap.size) (hr:Rd w w.heap.size 1 A (abr b) (b.map B8)) (hc:abr b<=c) (J:abr b<=100000000) (u:∀z∈b,z<256) (x:Pl) (K:x.sn<=x.st/\x.st<=x.en/\x.en<=abr b):
    Calls abt 54 #[.agg #[vI (x.nx:Int),vI (x.sn:Int),vI (x.st:Int),vI (x.en:Int),abo A b c]] w (V3 w b x):=by
 refine (fE Tryz.func54 45) ?_
 refine (JP∘JE) λR g1=>(JA #[vI 0,vI 0,vQ 0,vN,vN,vN,vN,vN,vN]) λS C=>(Jp 1∘Jq) ?_
 obtain ⟨e,k⟩:∃e,oG (bn b x.sn x.st)=e:=⟨_,rfl⟩
 obtain ⟨T,hs⟩:∃s,lS (bn b x.sn x.st)=s:=⟨_,rfl⟩
 obtain ⟨bs,y,f⟩:∃bs y,readAll (bn b x.st x.en)=(bs,y):=⟨_,_,rfl⟩
 refine (JG∘JP∘Jg 4 O1∘Jf 0∘Jg 1 O1∘Jf 0∘Jg 2 O1∘Jy (v:= .slice (if c=x.sn then A else A.map (·.add (x.sn*1))) (x.st-x.sn) (c-x.sn)) (h:=by exact aan bD (i:=x.sn) (j:=x.st) rfl rfl rfl rfl om om)∘JL (h:=by exact λd=>zbm A c b B _ (I.mem d t) (d.le t) (d.old hr) hc J u x.sn x.st K.1 om k hs)) ?_
 rintro d _ D ⟨z,rfl,hz,l,hm⟩
 refine ⟨_,rfl,_,(show Mem w D (.blk C #[vI 0,vI 0,vQ 0,vN,vN,vN,vN,vN,vN] 53:: .blk g1 #[vI x.nx,vI x.sn,vI x.st,vI x.en,abo A b c] 131::(jV z.st++([]))) from d.LU (a:=[.blk C #[vI 0,vI 0,vQ 0,vN,vN,vN,vN,vN,vN] 53,.blk g1 #[vI x.nx,vI x.sn,vI x.st,vI x.en,abo A b c] 131]) hm),?_⟩
 refine (Jp 1∘Jx∘Jx∘JA #[vI 0,vI 0,vQ 0,vN,vN,vN,vN,vN]) λU P=>(JV zr aN (h1:=by exact NQ z)) λE=>(bO 1∘JQ∘JB∘aM 3∘bU∘Jj) (Jh (λm=>?_) λm=>?_)
 ·
  refine (JT∘JP∘fu #[vI 0,vI 0,vQ 0,vN,vN,vN,vN,vN,vN]∘Jp 1∘JV dn gu) λL=>(Jp 1∘bU∘aQ) λa Z d=>?_
  exact dS rfl Z (.cellS (i:=1) Z d rfl rfl dn rfl) (.tmp Z rfl) (V4 ((congrArg _ (zaa (by rw [k];omega))).trans (by rw [k])) om (d.pk []))
 have g:e=0:=by omega
 refine (JF∘JP∘Jg 0 O0∘Jf 0∘Jg 0 O2∘Jp 2∘fK∘Jj) (Jh (λn=>?_) λn=>?_)
 ·
  refine (JT∘JP∘fu #[vI 0,vI 0,vQ 0,vN,vN,vN,vN,vN,vN]∘JV dn gu) λM=>(Jp 1∘aL∘aQ) λa Z d=>?_
  exact dS rfl Z (.cellS (i:=1) Z d rfl rfl dn rfl) (.tmp Z rfl) (V4 ((congrArg _ (zmv (k.trans g) (by rw [hs,hz.1];omega))).trans rfl) de (d.pk []))
 refine (aP∘JP∘eF zmw O2∘JL (h:=by exact λd=>qpi A c b B _ (I.mem d t) (d.le t) (d.old hr) hc J u x K f)) ?_
 rintro d _ Q ⟨F,G,q,rfl,o,p,hm⟩
 have H:abr bs=abr q:=by rw [<-o,abz]
 rw [H] at hm p⊢
 refine ⟨_,rfl,_,aaL (a:=[.blk P z.cells 50,.blk C #[vI 0,vI 0,vQ 0,vN,vN,vN,vN,vN,vN] 53,.blk g1 #[vI x.nx,vI x.sn,vI x.st,vI x.en,abo A b c] 131]) (b:=jV z.st++[]) d hm,?_⟩
 refine (Jp 1∘Jx∘Jx∘bO 2∘bM 2∘aL∘Jj) (Jh (λr=>?_) λr=>?_)
 ·
  refine (JT∘JP∘fu #[vI 0,vI 0,vQ 0,vN,vN,vN,vN,vN,vN]∘Jp 1∘JV dn iE) λN=>(Jp 1∘bU∘aQ) λa Z d=>?_
  exact dS rfl Z (.cellS (i:=2) Z d rfl rfl dn rfl) (.tmp Z rfl) (V4 ((congrArg _ (U5 (k.trans g) (by rw [hs,hz.1];omega))).trans (by rw [f])) om (d.pk []))
 refine (aP∘JP∘eF zr O1∘Jp 1∘fu #[vI z.next,vI z.st.au,vQ z.st.aj,abo z.st.gA z.st.gs z.st.gc,abo z.st.lA z.st.cl z.st.lc,abo z.st.uA z.st.cu z.st.uc,abo z.st.tA z.st.ts z.st.tc,abo z.st.sA z.st.rs z.st.sc,abo F q G]∘JV dn iE) λO=>(Jp 1∘eO∘aQ) λa Z d=>?_
 exact dS rfl Z (.cellS (i:=2) Z d rfl rfl dn rfl) (.tmp Z rfl) (zgk (z:=z) (A:=F) (c:=G) (q:=q) u (k.trans g) (by rw [hs,hz.1];omega) (by rw [f];show y=0;omega) (by rw [hs];exact hz) l (by rw [f];exact o) p (zaq (KO u _ _) (by rw [f];show y=0;omega)) (zg9 (d.pt (fs':=(abq F q G hbL 85 5::(gH 73 q++(jV z.st++([]))))) 4 [0])))
abbrev aib {α:Type}:=λa (b:List α) c d=>(.row (vS a (abr b) c) (abr b) d 57 4:ajr)
def qnd (W w:ajg) (j f o B:Nat) (A:ajq) (c:Nat) (b:List Nat) (U:aR B W) (P:B<=W.heap.size) (hr:Rd W W.heap.size 1 A (abr b) (b.map B8)) (hc:abr b<=c) (V:abr b<=100000000) (X:∀z∈b,z<256) (k:ajq) (pc:Nat) (L:List Pl) (C:∀x∈L,x.sn<=x.st/\x.st<=x.en/\x.en<=abr b) (Y:abr L<=1000000) (Inv:List Pl->List ajr->Prop) (Stop:List ajr->Prop) (D:List ajr)
    (hy:V7 W b L o Inv Stop) (E:Inv L D) (d:Mem W w (.blk j #[abo k L pc] 35:: .blk f #[abo A b c] 30:: abq k L pc gU 57 4::D)):
    Calls abt 110 (.func (.yield o) #[] #[]:: [vP j 0,vP f 0]).toArray w (q32 W Inv Stop):=by
 refine nZ Tryz.func110 [.func (.yield o) #[] #[],vP j 0,vP f 0] [aik o,(1,vP j 0),(2,vP f 0)] λa Z=>?_
 refine Jb Z d ((JP∘Jc O0∘Jl∘bO 1∘JB) λa Z d=>?_)
 refine qg (λQ aS wS=>∃(i:Nat) (F:List ajr),(i<=abr L)/\(Inv (L.drop i) F)/\Q=abr L-i/\Fr aS 30 [] [(10,vI i),(9,vI (abr L)),(8,abo k L pc),aik o,(2,vP f 0)]/\Mem W wS (.blk j #[abo k L pc] 35:: .blk f #[abo A b c] 30:: abq k L pc gU 57 4::F)) (m:=abr L-0) ⟨0,D,abC _,E,rfl,Z.sub kr,d.pt 3 [0,1,2]⟩ ?_
 clear Z d;rintro Q a w_ ⟨i,F,hi,G,rfl,Z,d⟩
 refine Jb Z d ((cB 1∘JQ) (Ji (λr=>?_) λr=>?_))
 ·
  have g:i<abr L:=by omega
  obtain ⟨x,t⟩:∃x,L.getD i Pl.zero=x:=⟨_,rfl⟩
  have H:=C x (by rw [<-t];exact qf Pl.zero g)
  have hd:L.drop i=x::L.drop (i+1):=by rw [<-t];exact H9 Pl.zero g
  refine (eP∘aM 1) ?_
  repeat (first|clear Z|clear d)
  intro a Z d
  obtain ⟨e,rfl⟩:=d.rat 2 i
  refine Jb Z d ((nP i 4∘Jy (v:= .agg ((L.getD i Pl.zero).cells)) (h:=by exact Pe rfl rfl kL rfl (λ_ h=>h.zB rY (i:=2) rfl ((getD_at Pl.zero g))))∘Jo (.agg x.cells) (by rw [t])∘JA #[vI 0,vI 0,vI 0,vI 0]) λw5 l=>(Jp 1∘JV kL aN (h1:=by exact U7 x)) λR=>(Jr∘eF kL O0∘Jc O2∘fu #[vI x.nx,vI x.sn,vI x.st,vI x.en,abo A b c]∘JL (h:=by exact λd=>qu0 A c b B _ (U.mem d P) (d.le P) (d.old hr) hc V X x H)) ?_)
  rintro d _ I ⟨p,rfl,J,K,hm⟩
  refine ⟨_,rfl,_,(show Mem W I (.blk l x.cells 57::.blk j #[vS e (abr L) pc] 35::.blk f #[abo A b c] 30::aib e L pc (L.flatMap gU)::(jd p++(F))) from d.jZ (T:=F) 4 hm rfl),?_⟩
  refine (Jp 1∘Jx∘Jx∘JA #[vI 0,vI 0,vQ 0,vN,vN,vN,vN,vN,vN]) λw6 n=>(JV dn aN (h1:=by exact yZ p)) λS=>(bO 1) λa Z d=>?_
  refine wp_seq ?_
  refine Gv (i:=5) ?_
  refine Jb Z d ((Jp 2∘eF dn O0∘Jp 1∘fu #[vI p.z.next,vI p.z.st.au,vQ p.z.st.aj,abo p.z.st.gA p.z.st.gs p.z.st.gc,abo p.z.st.lA p.z.st.cl p.z.st.lc,abo p.z.st.uA p.z.st.cu p.z.st.uc,abo p.z.st.tA p.z.st.ts p.z.st.tc,abo p.z.st.sA p.z.st.rs p.z.st.sc,abo p.A p.q p.c,vI (dz b x)]∘Jq) λa Z d=>?_)
  refine vv Z (i:=5) (vs:=[vI i,.agg #[vI p.z.next,vI p.z.st.au,vQ p.z.st.aj,abo p.z.st.gA p.z.st.gs p.z.st.gc,abo p.z.st.lA p.z.st.cl p.z.st.lc,abo p.z.st.uA p.z.st.cu p.z.st.uc,abo p.z.st.tA p.z.st.ts p.z.st.tc,abo p.z.st.sA p.z.st.rs p.z.st.sc,abo p.A p.q p.c,vI (dz b x)]]) rfl rfl rfl rfl rfl rfl de (hy (L.drop i) F _ _ i x (L.drop (i+1)) p G hd rfl g t J K (abm (es:=[.blk n p.cells 53,.blk l x.cells 57,.blk j #[vS e (abr L) pc] 35,.blk f #[abo A b c] 30,aib e L pc (L.flatMap gU)]) d)) qm9 ?_
  clear Z d;rintro v s a ⟨u,d,(⟨_,y,M⟩|⟨_,y,N⟩)⟩ Z<;>injection y with y<;>subst y
  ·
   replace d:Mem W s (.blk n p.cells 53::.blk l x.cells 57::.blk j #[vS e (abr L) pc] 35::.blk f #[abo A b c] 30::aib e L pc (L.flatMap gU)::u):=aag (es:=[.blk n p.cells 53,.blk l x.cells 57,.blk j #[vS e (abr L) pc] 35,.blk f #[abo A b c] 30,aib e L pc (L.flatMap gU)]) d
   refine Jb Z d ((Jp 1∘aI∘Jq∘aP∘JR∘dx 1∘Jp 1∘aL∘Jq) λa Z d=>?_)
   exact ⟨_,om,i+1,u,by omega,M,rfl,Z.sub kr,d.pt 5 [2,3,4]⟩
  ·
   replace d:Mem W s (.blk n p.cells 53::.blk l x.cells 57::.blk j #[vS e (abr L) pc] 35::.blk f #[abo A b c] 30::aib e L pc (L.flatMap gU)::u):=aag (es:=[.blk n p.cells 53,.blk l x.cells 57,.blk j #[vS e (abr L) pc] 35,.blk f #[abo A b c] 30,aib e L pc (L.flatMap gU)]) d
   refine Jb Z d ((Jp 1∘aI∘Jq∘JT∘JZ) λa Z d=>?_)
   exact zC rfl Z (⟨_,rfl,u,aam [.blk n p.cells 53,.blk l x.cells 57,.blk j #[vS e (abr L) pc] 35,.blk f #[abo A b c] 30,aib e L pc (L.flatMap gU)] d,.inr N⟩)
 have O:L.drop i=[]:=List.drop_eq_nil_of_le om
 refine (JF∘JX) ?_
 rw [O] at G
 intro a Z d
 exact iD rfl Z (⟨_,rfl,F,aam [.blk j #[abo k L pc] 35,.blk f #[abo A b c] 30,abq k L pc gU 57 4] d,.inl G⟩)
def qpj (A:ajq) (n c:Nat) (a:ajq) (m pc:Nat) (w:ajg):
    Calls abt 50 #[.slice A n c,.slice a m pc] w λr g=>∃b d,r= .returned (.func (.func 110) #[] #[vP b 0,vP d 0])/\Mem w g [.blk b #[.slice a m pc] 35,ah7 d A n c]:=by
 refine (iQ Tryz.func50 6) ?_
 exact (JP∘uH) λj e=>(uH) λk f=>(Jp 1∘Jr∘Jy (h:=by exact Yl.makeFunc (fst:=[]) (caps:=[vP f 0,vP e 0]) rfl rfl rfl)∘Jp 1∘aL∘aQ∘aW) λi=>by exact ⟨_,_,rfl,i.pk (fs':=[.blk f #[.slice a m pc] 35,ah7 e A n c]) [0,1]⟩
def qx0 (A:ajq) (c:Nat) (q:List Hb) (B:Nat) (w:ajg) (U:aR B w) (O:B<=w.heap.size) (hr:Rd w w.heap.size 5 A (abr q) (q.flatMap hbL)) (V:pF w q) (J:∀h∈q,h.b.Ok) (K:∀h∈q,abr h.b.evs<=1000000) (hn:abr q<=1000000):
    Calls abt 47 #[.slice A (abr q) c] w (mI w (ze (q.map ac2)).2 (ze (q.map ac2)).1):=by
 refine (fE Tryz.func47 41) ?_
 refine (aM 2∘bg 1∘bg 1∘Jq∘JC (h:=by exact λd=>d.nil 5 1)∘JG∘bM 1∘Jl∘bO 1∘JB) λa Z d=>?_
 refine qg (λP W X=>∃(k:Nat) (I:Bool) (R:List Nat) (u:ajq) (co:Nat),(k<=abr q)/\(fZ (q.map ac2)=fZ ((q.drop k).map ac2))/\(I=decide (524288<abr (bX ((q.take k).map ac2))))/\(I=false->R=bX ((q.take k).map ac2))/\(abr R<=524288)/\(abr R<=co)/\P=abr q-k/\Fr W 41 [] (ah8 12 k 11 (abr q) [(10,abo A q c),(5,.bool I),(4,abo u R co),(3,vI 0),(2,vN)])/\Mem w X [abp u R co B8 5 1]) (m:=abr q-0) ⟨0,false,[],none,0,abC _,by rw [List.drop_zero],rfl,by intro _;rfl,by simp,abx _,rfl,Z.sub kr,d.pk [0]⟩ ?_
 clear Z d;rintro P a w_ ⟨k,I,R,u,co,hk,s,o,L,y,t,rfl,Z,d⟩
 refine Jb Z d ((cB 1∘JQ) (Ji (λz=>?_) λz=>?_))
 ·
  have f:k<abr q:=by omega
  have C:=zia f
  have M:=congrArg acY (zib f)
  rw [abu] at M
  have Y:=Ri (q.getD k Hb.zero).b
  have htk:=q6z (q:=q) k
  refine (eP∘JP) ?_
  obtain ⟨gA,oA,rfl,_⟩:=hr.sat k
  refine (iF k 5∘Jy (v:= .agg ((q.getD k Hb.zero).b.cells (q.getD k Hb.zero).A (q.getD k Hb.zero).c)) (h:=by exact Pe rfl rfl aG rfl (λ_ h=>(h.old hr).vX Hw ((getD_at Hb.zero (k:=k) (by first|omega|(simp;omega))))))∘JA ai8) λw7 g7=>(JV aG aN (h1:=by exact uM _ _ _)) λQ=>(bU∘Jr∘eF aG O0∘JK (h:=by exact λd=>q6o (q.getD k Hb.zero).b (J _ (qf Hb.zero f)) ((q.getD k Hb.zero).A) (q.getD k Hb.zero).c B _ (U.mem d O) (d.le O) (d.old (V.at f)) (K _ (qf Hb.zero f)) rfl rfl)) λPp c18 zJ S=>(Jp 1∘Jx∘Jx∘bO 2∘bM 2∘aL∘Jj) (Jh (λD=>?_) λD=>?_)
  ·
   have x:fZ (q.map ac2)=(q.getD k Hb.zero).b.err:=by rw [s,C,if_neg om]
   exact (JT∘bB 3∘bW) λd=>Ib d.below (q11 (by rw [x];omega)) (by rw [x])
  have x:fZ (q.map ac2)=fZ ((q.drop (k+1)).map ac2):=by rw [s,C,if_pos om]
  refine (aP∘aM 2) (Ju (λl=>?_) λl=>?_)
  ·
   have e:524288<abr (bX ((q.take k).map ac2)):=of_decide_eq_true (o.symm.trans l)
   refine (Jv 8 [(5,.bool true)]∘bU∘bg 2∘aL∘Jj∘aP∘JR∘dx 1∘Jp 1∘aL∘Jq) λa Z d=>?_
   exact ⟨_,om,k+1,true,R,u,co,by omega,x,(decide_eq_true om).symm,(by intro h;cases h),y,t,rfl,Z.sub kr,d.pk [2]⟩
  have e:¬524288<abr (bX ((q.take k).map ac2)):=of_decide_eq_false (o.symm.trans l)
  have p:=L l
  have T:abr R=abr (bX ((q.take k).map ac2)):=by rw [p]
  refine (Jp 1∘Jl∘Jp 1∘Jl∘Ja∘Jp 3∘aI∘bg 2∘aL∘Jj) (Ju (λg=>?_) λg=>?_)
  ·
   have E:=of_decide_eq_false ((acP _).mp g)
   intro a Z d
   replace Z:=Z.on 5 ((acP _).mp g)
   refine Jb Z d ((JT∘JR∘Jp 2∘JD ((q.getD k Hb.zero).b.out.map B8) 2 (λ_ _=>iE) bD (hr:=by exact λd=>d.rd (i:=0) rfl) (h1:=by exact uw _)) λDi F G r=>λa Z d=>?_)
   rw [show (R.map B8)++((q.getD k Hb.zero).b.out.map B8)=(R++(q.getD k Hb.zero).b.out).map B8 from by rw [abW]] at d
   refine Jb Z d ((Jp 1∘eO∘Jq) ?_)
   have j:abr R+((q.getD k Hb.zero).b.out.length)=abr (R++(q.getD k Hb.zero).b.out):=by rw [abu]
   rw [j] at r
   refine (JC (h:=by exact λd=>d.bq (i:=2) (ys:=(R++(q.getD k Hb.zero).b.out).map B8) rfl j (rfl))∘Jk 4 (.slice F (abr (R++(q.getD k Hb.zero).b.out)) G) (h:=by exact iZ j)∘JG∘JR∘dx 1∘Jp 1∘aL∘Jq) λa Z d=>?_
   exact ⟨_,om,k+1,false,(R++(q.getD k Hb.zero).b.out),F,G,by omega,x,(decide_eq_false om).symm,(by intro _;rw [p,zib f]),(by rw [abu];omega),r,rfl,Z.sub kr,d.pk [2]⟩
  have E:=of_decide_eq_true ((aem _).mp g)
  intro a Z d
  replace Z:=Z.on 5 ((aem _).mp g)
  refine Jb Z d ((aP∘JR∘dx 1∘Jp 1∘aL∘Jq) λa Z d=>?_)
  exact ⟨_,om,k+1,true,R,u,co,by omega,x,(decide_eq_true om).symm,(by intro h;cases h),y,t,rfl,Z.sub kr,d.pk [2]⟩
 have hkn:k=abr q:=by omega
 have H:fZ (q.map ac2)=0:=by rw [s,acu om];rfl
 have N:q.take k=q:=List.take_of_length_le om
 rw [N] at o L
 refine (JF∘JX∘JG∘JQ∘cB 1) (Ju (λn=>?_) λn=>?_)
 ·
  have e:524288<abr (bX (q.map ac2)):=of_decide_eq_true (o.symm.trans n)
  exact (JT∘bB 2∘bW) λd=>Ib d.below (ql5 H e) rfl
 have e:¬524288<abr (bX (q.map ac2)):=of_decide_eq_false (o.symm.trans n)
 have p:=L n
 exact (aP∘bB 3∘bW) λd=>by rw [RP H e,<-p];exact ⟨⟨u,co,rfl,d.own (i:=0) rfl,t⟩,d.below⟩
abbrev aja:Array ajh:=#[vI 0,vI 0,vQ 0,vN,vN,vN,vN,vN,vN]
def q4a (A:ajq) (c:Nat) (l:List Pm) (B:Nat) (w:ajg) (W:aR B w) (S:B<=w.heap.size) (hr:Rd w w.heap.size 9 A (abr l) (l.flatMap iJ)) (X:∀p∈l,fF p/\gM w p) (hc:abr l<=c) (hn:abr l<=1000000):
    Calls abt 15 #[.slice A (abr l) c] w (Is w (.tuple #[vI (qG (l.map Pm.v)).1,vI ((qG (l.map Pm.v)).2:Int)])):=by
 refine (fE Tryz.func15 52) ?_
 refine (cB 2∘bM 1∘Jl∘Jp 1∘bU∘Jj) (Ji (λy=>?_) λy=>?_)
 ·
  exact (JT∘bB 2∘bW) λd=>qc2 (m:=5) (if_pos (by rw [abz];omega)) rfl d.below
 refine (aP∘cB 1∘bM 1∘Jl∘bO 1∘JB) λa Z d=>?_
 refine qg (λC J K=>∃(i:Nat) (last:Int),(i<=abr l)/\(aX last)/\(qG (l.map Pm.v)=l6 ((l.map Pm.v).drop i) last i)/\C=abr l-i/\Fr J 52 [] (ah8 16 i 15 (abr l) [(14,abo A l c),(4,vI last),(13,.bool false),(3,vI 0),(2,vI 0),(0,abo A l c)])/\Mem w K []) (m:=abr l-0) ⟨0,0,abC _,(show aX (0:Int) from by unfold aX;decide),(if_neg (by rw [abz];omega)),rfl,Z.sub kr,d.pk []⟩ ?_
 clear Z d;rintro C a Y ⟨i,last,hi,L,g,rfl,Z,d⟩
 refine Jb Z d ((cB 1∘JQ) (Ji (λD=>?_) λD=>?_))
 ·
  have j:i<abr l:=by omega
  obtain ⟨x,M⟩:∃x,(l.getD i Pm.zero)=x:=⟨_,rfl⟩
  obtain ⟨e,o⟩:=X x (by rw [<-M];exact qf Pm.zero j)
  have n:=zmx (last:=last) j
  rw [M] at n
  have N:=e.nx
  intro a Z d
  unfold aX at N
  have hxl:=e.len
  refine Jb Z d ((eP∘aM 1) ?_)
  obtain ⟨gA,T,rfl,_⟩:=hr.sat i
  refine (iF i 9∘qM Pm.cells OX hr dn i Pm.zero (hk:=j)∘Jo (.agg x.cells) (by rw [M])∘JA aja) λw6 U=>(Jp 1∘JV dn aN (h1:=by exact yZ x)) λV=>(Jj∘JQ∘JP∘Jf 0∘Jy (v:= .agg x.z.cells) (h:=by exact Pe rfl rfl zr rfl (λ_ h=>h.sub (i:=0) rfl 0 rfl))∘JI (h:=by exact λd=>VN x.z e.ok e.few e.cap _ (o.st.old d))) λQG E=>(Jp 1∘eO∘bg 2∘aL∘Jj) (Jh (λF=>?_) λF=>?_)
  ·
   exact (JT∘bB 4∘bW) λd=>qc2 (g.trans (n.trans (if_pos om))) rfl d.below
  refine (aP∘JQ∘JP∘Jg 8 O0∘Jl∘bO 1∘JB) λa Z d=>?_
  refine qg (λC J K=>∃(k:Nat),(k<=abr x.q)/\(fZ (x.q.map ac2)=fZ ((x.q.drop k).map ac2))/\C=abr x.q-k/\Fr J 52 [] (ah8 31 k 30 (abr x.q) ((29,abo x.A x.q x.c)::(25,.bool false)::ah8 7 (dP x.z) 5 i ((6,vP U 0)::(17,.bool true)::ah8 16 i 15 (abr l) [(14,abo (some ⟨gA,T,none⟩) l c),(4,vI last),(13,.bool false),(3,vI 0),(2,vI 0),(0,abo (some ⟨gA,T,none⟩) l c)])))/\Mem w K [.blk U x.cells 53]) (m:=abr x.q-0) ⟨0,abC _,rfl,rfl,Z.sub kr,d.pk [0]⟩ ?_
  clear Z d;rintro C a Y ⟨k,hk,r,rfl,Z,d⟩
  refine Jb Z d ((cB 1∘JQ) (Ji (λG=>?_) λG=>?_))
  ·
   have f:k<abr x.q:=by omega
   have t:=zia f
   refine (eP∘JP) ?_
   obtain ⟨O,P,u,_⟩:=Rd.sat o.bl k
   have s:=o.bl;rw [u] at s
   refine (Jk 29 (.slice (some ⟨O,P,none⟩) (abr x.q) x.c) (h:=by rw [u];try rfl)∘iF k 5∘Jy (v:= .agg ((x.q.getD k Hb.zero).b.cells (x.q.getD k Hb.zero).A (x.q.getD k Hb.zero).c)) (h:=by exact Pe rfl rfl aG rfl (λ_ h=>(h.old s).vX Hw ((getD_at Hb.zero f))))∘JA ai8) λw9 g9=>(JV aG aN (h1:=by exact uM _ _ _)) λQ=>(bU∘Jr∘eF aG O0∘JL (h:=by exact λd=>q1w (x.q.getD k Hb.zero).b (e.OY _ (qf Hb.zero f)) ((x.q.getD k Hb.zero).A) (x.q.getD k Hb.zero).c B _ (W.mem d S) (d.le S) (d.old (o.ev.at f)) (e.U6 _ (qf Hb.zero f)))) ?_
   rintro d _ w36 ⟨rfl,E⟩
   refine ⟨_,rfl,_,d.call E,?_⟩
   refine (Jp 1∘bU∘bg 2∘aL∘Jj) (Jh (λH=>?_) λH=>?_)
   ·
    exact (JT∘bB 4∘bW) λd=>qc2 (g.trans (n.trans ((if_neg om).trans (if_pos (by rw [r,t,if_neg om];omega))))) (by rw [r,t,if_neg om]) d.below
   refine (aP∘JR∘dx 1∘Jp 1∘aL∘Jq) λa Z d=>?_
   replace Z:=Z.sp 29 (abo x.A x.q x.c) rfl (by rw [u])
   exact ⟨_,om,k+1,by omega,(r.trans (by rw [t,if_pos om])),rfl,Z.sub kr,d.pk [1]⟩
  have he0:fZ (x.q.map ac2)=0:=by rw [r,acu om];rfl
  refine (JF∘JX∘JG∘JQ∘JP∘Jf 0∘Jg 0 O0∘Jp 2∘eO∘Jj) (Ji (λI=>?_) λI=>?_)
  ·
   exact (JT∘bB 3∘bW) λd=>qc2 (m:=411) (g.trans (n.trans ((if_neg om).trans ((if_neg om).trans (if_pos om))))) rfl d.below
  refine (aP∘JR∘Jf 0∘Jg 0 O0∘Jp 1∘bU∘Jj∘JR∘dx 1∘Jp 1∘aL∘Jq) λa Z d=>?_
  exact ⟨_,om,i+1,x.z.next,by omega,e.nx,(g.trans (by rw [n,if_neg om,if_neg om,if_neg om])),rfl,Z.sub kr,d.pk []⟩
 have R:i=abr l:=by omega
 exact (JF∘JX∘JG∘bB 2∘bW) λd=>qc2 (m:=0) (g.trans (by rw [R];exact zad)) rfl d.below
def WG (A:ajq) (c:Nat) (l:List Pm) (B:Nat) (w:ajg) (a:aR B w) (b:B<=w.heap.size) (hr:Rd w w.heap.size 9 A (abr l) (l.flatMap iJ)) (d:∀p∈l,fF p/\gM w p) (hc:abr l<=c) (e:abr l<=1000000) {ci:Int} {ce:Nat} (h:qG (l.map Pm.v)=(ci,ce)):Calls abt 15 #[.slice A (abr l) c] w (Is w (.tuple #[vI ci,vI ce])):=by
 have k:=q4a A c l B w a b hr d hc e
 rwa [h] at k
def zhd (A:ajq) (c:Nat) (q:List Hb) (B:Nat) (w:ajg) (e:aR B w) (f:B<=w.heap.size) (hr:Rd w w.heap.size 5 A (abr q) (q.flatMap hbL)) (g:pF w q) (a:∀h∈q,h.b.Ok) (d:∀h∈q,abr h.b.evs<=1000000) (i:abr q<=1000000) {l:List Nat} {m:Nat} (h:ze (q.map ac2)=(l,m)):Calls abt 47 #[.slice A (abr q) c] w (mI w m l):=by
 have k:=qx0 A c q B w e f hr g a d i
 rwa [h] at k
def zn6 (l:List Nat):∀b∈([113,97,1]++l.flatMap ak),b<256:=λb a=>by
 rcases acg.1 a with h|h
 ·simp only [List.mem_cons,List.not_mem_nil,or_false] at h
  omega
 ·obtain ⟨x,_,c⟩:=acT.1 h
  exact zD x b c
def kS (l:List Pm):List Nat:=[113,97,1]++(dF l (abr l)).flatMap ak
def zn7 (l:List Pm):∀b∈kS l,b<256:=zn6 _
def zhe {l:List Pm} (a:abr l<=100000):abr (kS l)<=16777216:=by
 unfold kS
 rw [abu]
 have b:=vg (dF l (abr l))
 have c:=KP (l:=l) (abr l) (abx _)
 have d:abr ([113,97,1]:List Nat)=3:=rfl
 omega
def WH {l:List Pm}:aY (kS l)=headA (l.map Pm.v):=by unfold headA kS;rw [zae]
def zbt {p:List Nat×Nat} {h R d:List Nat} (b:p=(h++d,0)) (e:R=h) (a:W.ownsRow w.heap.size 5 1 (.slice A (abr R+abr d) c) (abr R+abr d) (R.map B8++d.map B8)) (hc:abr R+abr d<=c) (hb:Below w.heap.size w W):mI w p.2 p.1 (.returned (.tuple #[.slice A (abr R+abr d) c,vI 0])) W:=by
 subst b e
 rw [<-abu] at a hc⊢
 rw [<-abW] at a
 exact ⟨⟨A,c,rfl,a,hc⟩,hb⟩
def zhf {l:List Pm} (a:abr l<=100000):abr (aY (kS l))<=10000000:=by
 unfold kS
 rw [qI,abu]
 have b:=vg (dF l (abr l))
 have c:=KP (l:=l) (abr l) (abx _)
 have d:abr ([113,97,1]:List Nat)=3:=rfl
 omega
def WI (A:ajq) (c:Nat) (l:List Pm) (B:Nat) (w:ajg) (hL:aR B w) (J:B<=w.heap.size) (hr:Rd w w.heap.size 9 A (abr l) (l.flatMap iJ)) (hP:∀p∈l,fF p/\gM w p) (hc:abr l<=c) (hn:abr l<=100000):
    Calls abt 16 #[.slice A (abr l) c] w (mI w (oH (l.map Pm.v)).2 (oH (l.map Pm.v)).1):=by
 refine (fE Tryz.func16 104) ?_
 refine (aM 2∘Jq) ?_
 obtain ⟨ci,ce,t⟩:∃ci ce,qG (l.map Pm.v)=(ci,ce):=⟨_,_,rfl⟩
 refine (JG∘bM 1∘JI (h:=by exact λf=>WG A c l B _ (hL.mem f J) (f.le J) (f.old hr) (λp hp=>⟨(hP p hp).1,(hP p hp).2.old f⟩) hc om t)) λOw hbw=>(Jp 1∘Jx∘Jx∘Jp 2∘aI∘bg 2∘aL∘Jj) (Jh (λW=>?_) λW=>?_)
 ·
  exact (JT∘bB 3∘bW) λf=>Ib f.below (q3u t om) rfl
 have u:ce=0:=by omega
 refine (aP∘aM 1∘Jl∘Jw .u64∘JU kT #[vQ (abr l)]) λEX L=>(Jp 1∘fK∘Jq) λa Z f=>?_
 replace f:=(f.fV (i:=0) (n:=1) (size:=1) rfl rfl de).dw (i:=0) (ys:=(dF l 0).map bG) rfl (rfl)
 replace f:Mem w _ [.row (vS L (abr (dF l 0)) 1) (abr (dF l 0)) ((dF l 0).map bG) 41 1]:=f
 replace Z:=Z.sp 6 (.slice (some ⟨L,0,none⟩) (abr (dF l 0)) 1) rfl rfl
 refine Jb Z f ((JG∘aM 1∘Jq∘JC (h:=by exact λf=>f.nil 5 1)∘JG∘cB 1∘bM 1∘Jl∘bO 1∘JB) λa Z f=>?_)
 refine qg (λmS aS wS=>∃(i:Nat) (An:ajq) (X:Nat) (d:List Nat) (V:ajq) (M:Nat) (N:Bool),(i<=abr l)/\(stA (l.map Pm.v) i=(d,N))/\(abr (dF l i)<=X)/\(abr d<=M)/\(abr d<=16777216)/\mS=abr l-i/\Fr aS 104 [] (ah8 31 i 30 (abr l) [(29,abo A l c),(8,.bool N),(7,abo V d M),(6,abo An (dF l i) X),(23,.bool false),(5,vI ce),(3,vI 0),(2,vN),(0,abo A l c)])/\Mem w wS [abp V d M B8 5 1,abp An (dF l i) X bG 41 1]) (m:=abr l-0) ⟨0,some ⟨L,0,none⟩,1,[],none,0,false,abC _,rfl,abx _,abx _,abC _,rfl,Z.sub kr,f.pk [0,1]⟩ ?_
 clear Z f;rintro mS a w_ ⟨i,An,X,d,V,M,N,hi,y,hcn,O,P,rfl,Z,f⟩
 refine Jb Z f ((cB 1∘JQ) (Ji (λY=>?_) λY=>?_))
 ·
  have j:i<abr l:=by omega
  obtain ⟨x,Q⟩:∃x,(l.getD i Pm.zero)=x:=⟨_,rfl⟩
  obtain ⟨s,R⟩:=hP x (by rw [<-Q];exact qf Pm.zero j)
  obtain ⟨C,we,S⟩:∃C we,ze (x.q.map ac2)=(C,we):=⟨_,_,rfl⟩
  have hwl:abr C<=524288:=by have h:=Ny (x.q.map ac2);rwa [S] at h
  have hol:=qz8 x.z
  have hns:=q3t j Q S
  have hnl:=KP (l:=l) i hi
  refine (eP∘JP) ?_
  obtain ⟨gA,oA,rfl,_⟩:=hr.sat i
  refine (iF i 9∘qM Pm.cells OX hr dn i Pm.zero (hk:=j)∘Jo (.agg x.cells) (by rw [Q])∘JA #[vI 0,vI 0,vQ 0,vN,vN,vN,vN,vN,vN]) λsD g10=>(JV dn aN (h1:=by exact yZ x)) λCP=>(bU∘Jr∘Jf 0∘Jy (v:= .agg x.z.cells) (h:=by exact Pe rfl rfl zr rfl (λ_ h=>h.sub (i:=0) rfl 0 rfl))∘JK (h:=by exact λf=>q3z x.z s.ok s.few s.cap B _ (hL.mem f J) (f.le J) (R.st.old f))) λA38 c38 QI hc38=>(Jp 1∘Jx∘Jx∘Jp 2∘mW∘Jr∘Jg 8 O1∘JK (h:=by exact λf=>zhd x.A x.c x.q B _ (hL.mem f J) (f.le J) (f.old R.bl) (R.ev.old f) s.OY s.U6 s.len S)) λLe Lf Rf Ep=>(Jp 1∘Jx∘Jx∘Jp 2∘bg 1∘Jf 0∘Jg 0 O2∘Jv 1 [(51,vQ (IntKind.u64.wrap x.z.next))]∘Jo (vQ (aK x.z.next)) (by exact Si _)∘Jp 1∘Jl∘Jw .u64∘Jp 1∘Jl∘Jw .u64∘JU kT #[vQ (aK x.z.next),vQ (abr (dD x.z):Nat),vQ (abr C)]) λHZ g58=>(JD ([aK x.z.next,abr (dD x.z),abr C].map bG) 5 (λ_ _=>rR) kT (hr:=by exact λf=>f.bE (i:=0) (n:=3) (size:=1) rfl rfl) (h1:=by exact wQ _)) λUq D E WJ=>(Jp 1∘aI∘Jq) ?_
  have o:(abr (dF l i))+3=abr (dF l (i+1)):=by rw [hns,abu];rfl
  rw [o] at WJ
  refine (JC (h:=by exact λf=>f.bq (i:=5) (ys:=(dF l (i+1)).map bG) rfl o (by rw [hns,abW]))∘Jk 6 (.slice D (abr (dF l (i+1))) E) (h:=by exact iZ o)∘JG∘aM 2) (Ju (λF=>?_) λF=>?_)
  ·
   have G:N=true:=by simpa using F
   refine (Jv 15 [(8,.bool true)]∘bU∘Jj∘JQ∘cB 1∘JT∘JX∘JG∘JR∘dx 1∘Jp 1∘aL∘Jq) λa Z f=>?_
   exact ⟨_,om,i+1,D,E,d,V,M,true,by omega,U8 j Q y S (by first|exact .inl G|exact .inr (.inl om)|exact .inr (.inr om)),by omega,O,P,rfl,Z.sub kr,f.pk [4,5]⟩
  have WK:¬N=true:=by simpa using F
  refine (Jp 4) (Jh (λWL=>?_) λWL=>?_)
  ·
   refine (Jv 11 [(8,.bool true)]∘aI∘Jj∘JQ∘cB 1∘JT∘JX∘JG∘JR∘dx 1∘Jp 1∘aL∘Jq) λa Z f=>?_
   exact ⟨_,om,i+1,D,E,d,V,M,true,by omega,U8 j Q y S (by first|exact .inl G|exact .inr (.inl om)|exact .inr (.inr om)),by omega,O,P,rfl,Z.sub kr,f.pk [4,5]⟩
  refine (Jp 1∘Jl∘Jp 1∘Jl∘Ja∘Jp 1∘Jl∘Ja∘Jp 3∘aI∘Jj∘JQ∘cB 1) (Ju (λk=>?_) λk=>?_)
  ·
   have WM:=of_decide_eq_true k
   intro a Z f
   replace Z:=Z.on 8 k
   refine Jb Z f ((JT∘JX∘JG∘JR∘dx 1∘Jp 1∘aL∘Jq) λa Z f=>?_)
   exact ⟨_,om,i+1,D,E,d,V,M,true,by omega,U8 j Q y S (by first|exact .inl G|exact .inr (.inl om)|exact .inr (.inr om)),by omega,O,P,rfl,Z.sub kr,f.pk [4,5]⟩
  have WM:=of_decide_eq_false k
  intro a Z f
  replace Z:=Z.on 8 k
  refine Jb Z f ((aP∘JR∘Jp 2∘JD ((dD x.z).map B8) 4 (λ_ _=>qK) bD (hr:=by exact λf=>f.rd (i:=2) rfl) (h1:=by exact uw _)) λw79 Kn Ko Uf=>(Jp 1∘JD (C.map B8) 4 (λ_ _=>qK) bD (hr:=by exact λf=>f.rd (i:=1) rfl) (h1:=by exact uw _)) λw81 A81 c81 K=>(Jp 1∘kV∘Jq) ?_)
  have r:(abr d+(abr (dD x.z)))+abr C=abr (d++dD x.z++C):=by rw [abu,abu]
  rw [r] at K
  refine (JC (h:=by exact λf=>f.bq (i:=4) (ys:=(d++dD x.z++C).map B8) rfl r (by rw [abW,abW]))∘Jk 7 (.slice A81 (abr (d++dD x.z++C)) c81) (h:=by exact iZ r)∘JG∘JR∘dx 1∘Jp 1∘aL∘Jq) λa Z f=>?_
  exact ⟨_,om,i+1,D,E,(d++dD x.z++C),A81,c81,false,by omega,zqe j Q y S (by rintro (h|h|h)<;>first|(exact absurd h WK)|omega),by omega,K,by rw [abu,abu];omega,rfl,Z.sub kr,f.pk [4,5]⟩
 obtain rfl:i=abr l:=by omega
 have avz:=KP (l:=l) (abr l) (abx _)
 have avA:=vg (dF l (abr l))
 have avB:=zaf (l:=l) (i:=abr l)
 refine (JF∘JX∘JG∘JP∘JU bD #[vB 113,vB 97,vB 1]) λw84 g84=>λa Z f=>?_
 refine fo Z 1 rfl rfl ?_
 refine zig Z f 0 (e:=5) rfl rfl rfl kr kr rfl de ?_
 clear Z f;intro a w85 Z f
 refine Jb Z f ((Jp 1∘JK (h:=by exact λf=>M0 An (abr (dF l (abr l))) X (dF l (abr l)) _ (f.rd (i:=2) rfl) (zgb om _) (by have:=KP (l:=l) (abr l) (abx _);omega))) λA87 c87 Ov avC=>λa Z f=>?_)
 refine fo Z 4 rfl rfl ?_
 refine XR Z f (xs:=([113,97,1]:List Nat).map B8) (news:=((dF l (abr l)).flatMap ak).map B8) rfl bD rfl rfl (f.wR (i:=1) (size:=1) (n:=3) rfl rfl) (f.rd (i:=0) rfl) om om (λh=>by cases h) om om rfl de ?_
 clear Z f;intro a w88 Vj c88 Z f WO
 have g:3+abr ((dF l (abr l)).flatMap ak)=abr (kS l):=by unfold kS;rw [abu];rfl
 rw [g] at WO
 replace f:=f.bq (i:=0) (ys:=(kS l).map B8) rfl g (by unfold kS;rw [abW])
 replace Z:=Z.sp 88 (vS Vj (abr (kS l)) c88) rfl (iZ g)
 refine Jb Z f ((JK (h:=by exact λf=>Q8 (some ⟨Vj,0,none⟩) (abr (kS l)) c88 (kS l) B _ (hL.mem f J) (f.le J) (f.rd (i:=0) rfl) rfl (zhe hn) (zn7 l))) λPf Pg TI El=>(Jp 1∘Jx∘Jx∘Jp 2∘mW∘Jq) ?_)
 have H:stA (l.map Pm.v) (abr (l.map Pm.v))=(d,N):=by rw [abz];exact y
 have hhd:abr (aY (kS l))<=10000000:=zhf hn
 refine (JG∘bM 2) (Ju (λI=>?_) λI=>?_)
 ·
  exact (Jp 7∘aI∘Jj∘JT∘bB 2∘bW) λf=>Ib f.below (qm1 t u H (.inl (by simpa using I))) rfl
 have WQ:¬N=true:=by simpa using I
 refine (Jp 1∘Jl∘Jp 1∘Jl∘Ja∘Jp 2∘aI∘Jj) (Ji (λT=>?_) λT=>?_)
 ·
  exact (JT∘bB 2∘bW) λf=>Ib f.below (qm1 t u H (.inr (by rw [<-WH];omega))) rfl
 exact (aP∘aM 2∘JD (d.map B8) 0 (λ_ _=>aN) bD (hr:=by exact λf=>f.rd (i:=4) rfl) (h1:=by exact uw _)) λVm avD avE U=>(bO 2∘JZ∘bW) λf=>zbt (zag t u H (by rw [<-WH];rintro (h|h)<;>first|(exact absurd h WQ)|omega)) WH (f.own (i:=0) rfl) U f.below
def zjn {B n k:Nat} {l:List Nat} (h:Rd w B 1 A n (l.map B8)) (hk:k<=n):Rd w B 1 A k ((l.take k).map B8):=by
 have a:=h.upto hk
 rwa [Nat.mul_one,<-List.map_take] at a
theorem zbn {b:List Nat} {p c:Nat} {out:List Pl} (h:∀x∈out,x.sn<=c/\x.st<=c/\x.en<=c):∀x∈out++[mG b p c],x.sn<=c+l5 b p+nI b p/\x.st<=c+l5 b p+nI b p/\x.en<=c+l5 b p+nI b p:=λx a=>by
 rcases acg.1 a with a|a
 ·have:=h x a;omega
 ·rw [afL.1 a]
  unfold mG
  dsimp only
  omega
def F6 {α:Type} {l:List α} {i:Nat} {t u:α} (h:l[i]?=some t):(l.set i u)[i]?=some u:=List.getElem?_set_self (List.getElem?_eq_some_iff.1 h).1
def znt (l:List Pl):∀v∈l.flatMap gU,v.oneCell'=true:=by
 intro v a
 obtain ⟨x,_,b⟩:=acT.1 a
 exact U7 x v b
def PO (W w:ajg) (g i k:Nat) (A:ajq) (c:Nat) (b:List Nat) (p:Nat) (m:Bool) (most:Nat) (fr:List ajr) (s:∀z∈b,z<256) (t:p<=abr b) (B:abr b<=100000000) (hr:Rd W W.heap.size 1 A (abr b) (b.map B8)) (hc:abr b<=c) (o:most<=4611686018427387904)
    (d:Mem W w (.blk g #[abo A b c] 30:: .blk i #[vI p] 3:: .blk k #[.bool m] 4::fr)):
    Calls abt 51 #[vI most,vP g 0,vP i 0,vP k 0] w (BZ W g i k b A c p m most fr):=by
 refine nZ Tryz.func51 [vI most,vP g 0,vP i 0,vP k 0] [(0,vI most),(1,vP g 0),(2,vP i 0),(3,vP k 0)] λa Z=>?_
 refine Jb Z d ((aM 1∘Jq) ?_)
 have q:=yu (b.drop p)
 rw [abE] at q
 have u:=Ga (b.drop p) (λz hz=>s z (abQ hz))
 have x:=rT most (b.drop p)
 refine (JG∘JP∘Jc O0∘Jc O1∘Jy (h:=by exact aaf bD (j:=p) rfl rfl rfl om)∘JL (h:=by exact λd=>Mx _ _ _ (b.drop p) _ (Rd.Gs (d.old hr) t hc) (λz hz=>s z (abQ hz)) om)) ?_
 rintro d _ y ⟨rfl,r⟩
 refine ⟨_,rfl,_,d.call r,?_⟩
 refine (Jp 1∘Jx∘Jx∘Jx∘Jp 3∘Jr∘Jc O2∘Jp 1) (Ju (λe=>?_) λe=>?_)
 ·
  refine (Jp 4) (Je (λn=>?_) λn=>?_)
  ·
   exact (Jp 2∘Jw .u64∘Jp 2∘JW iE aN) λf=>(jh∘Jr∘Jc O1∘Jp 1∘Ja∘JW gu aN) λl=>(jh∘bg 2∘Jw .u64∘Jy (v:=vQ (if (most:Int)<((aD (b.drop p)).1:Int) then (most:Int) else ((aD (b.drop p)).1:Int))) (h:=by exact Yl.min rfl rfl rfl)∘Jo (vQ (aA most (b.drop p))) (by rw [E5])∘Jw .i64∘Jp 1∘aI∘aQ∘JC (h:=by exact λd=>d.pt (fs':=(.blk g #[abo A b c] 30::ah9 i (p+((aD (b.drop p)).2.1):Nat)::aiY k (decide (((aD (b.drop p)).1:Int)<=(most:Int)))::fr)) 3 [0,1,2])∘aW) λd=>V6 rfl (by rw [e,Bool.true_and];unfold fP bA;rw [Bool.eq_iff_iff];simp only [decide_eq_true_eq];omega) d
  exact (Jp 5∘JW iE aN) λf=>(jh∘Jr∘Jc O1∘Jp 1∘Ja∘JW gu aN) λl=>(jh∘bg 2∘Jw .u64∘Jy (v:=vQ (if (most:Int)<((aD (b.drop p)).1:Int) then (most:Int) else ((aD (b.drop p)).1:Int))) (h:=by exact Yl.min rfl rfl rfl)∘Jo (vQ (aA most (b.drop p))) (by rw [E5])∘Jw .i64∘Jp 1∘aI∘aQ∘JC (h:=by exact λd=>d.pt (fs':=(.blk g #[abo A b c] 30::ah9 i (p+((aD (b.drop p)).2.1):Nat)::.blk k #[.bool false] 4::fr)) 3 [0,1,2])∘aW) λd=>V6 rfl (by unfold fP;rw [Zy om,Bool.and_false]) d
 exact (Jv 9 [(27,.bool false)]∘JW iE aN) λf=>(wu∘Jr∘Jc O1∘Jp 1∘Ja∘JW gu aN) λl=>(wu∘bg 2∘Jw .u64∘Jy (v:=vQ (if (most:Int)<((aD (b.drop p)).1:Int) then (most:Int) else ((aD (b.drop p)).1:Int))) (h:=by exact Yl.min rfl rfl rfl)∘Jo (vQ (aA most (b.drop p))) (by rw [E5])∘Jw .i64∘Jp 1∘kV∘aQ∘JC (h:=by exact λd=>d.pt (fs':=(.blk g #[abo A b c] 30::ah9 i (p+((aD (b.drop p)).2.1):Nat)::.blk k #[.bool false] 4::fr)) 3 [0,1,2])∘aW) λd=>V6 rfl (by rw [e,Bool.false_and]) d
abbrev ai5:=λa b c d=>((6,.func (.func 51) #[] #[vP a 0,vP b 0,vP c 0])::(5,vP c 0)::(4,vP b 0)::(16,.bool false)::(12,.bool false)::(3,vI 0)::(2,vN)::(1,vP a 0)::d:List (Nat×ajh))
def PS (A:ajq) (c:Nat) (b:List Nat) (B:Nat) (w:ajg) (hL:aR B w) (hB:B<=w.heap.size) (hr:Rd w w.heap.size 1 A (abr b) (b.map B8)) (hc:abr b<=c) (hn:abr b<=100000000) (P:∀z∈b,z<256):
    Calls abt 18 #[.slice A (abr b) c] w (FY w (bT b)):=by
 refine (fE Tryz.func18 129) ?_
 refine (JP∘uH) λw1 g1=>(bO 2∘JQ∘JB∘JP∘Jc O0∘Jl∘Jp 2∘eO∘Jj) (Ji (λR=>?_) λR=>?_)
 ·
  exact (JT∘bB 2∘bW) λd=>Ay d.below (zga om) rfl
 have g:¬16777216<abr b:=by omega
 refine (JF∘JP∘Jc O0∘Jl∘Jp 2) (Ji (λS=>?_) λS=>?_)
 ·
  have N:¬(b.take 3=[113,97,1]):=λh=>by have:=congrArg acY h;rw [abA] at this;have h9:abr ([113,97,1]:List Nat)=3:=rfl;omega
  exact (Jp 6∘aI∘Jj∘JT∘bB 2∘bW) λd=>Ay d.below (qz7 g N) rfl
 have T:3<=abr b:=by omega
 refine (Jc O0∘Jy (h:=by exact aah bD (j:=3) rfl rfl rfl om)∘Jy (h:=by exact aaG rfl rfl (λ_ h=>zjn (h.old hr) om))∘Jp 1∘Jo (.bool (!(decide (b.take 3=[113,97,1])))) (by rw [show (⟨#[113,97,1]⟩:ByteArray)=j6 [113,97,1] from rfl,zj5 (λz hz=>P z (aco hz)) de])∘Jp 2∘aI∘Jj) (nQ (λG=>?_) λG=>?_)
 ·
  have N:¬(b.take 3=[113,97,1]):=G
  exact (JT∘bB 2∘bW) λd=>Ay d.below (qz7 g N) rfl
 have q:b.take 3=[113,97,1]:=G
 refine (aP∘JP∘JA #[vI 0]) λw4 r=>(JW aN aN) λWu=>(Jq) ?_
 obtain ⟨K,J⟩:∃K,eu b 3 1024=K:=⟨_,rfl⟩
 have hK2:K<=1024:=by rw [<-J];exact U0
 refine (JG∘JP∘JA #[.bool false]) λw5 s=>(JW aN aN) λG6=>(Jr∘Jy (h:=by exact Yl.makeFunc (fst:=[]) (caps:=[vP g1 0,vP r 0,vP s 0]) rfl rfl rfl)∘Jp 1∘aL∘bg 1∘Jq∘JC (h:=by exact λd=>d.nil 57 4)∘JG∘cB 2∘bM 1) λa Z d=>?_
 refine fo Z 1 rfl rfl ?_
 replace d:=d.pk (fs':=[.blk g1 #[abo A b c] 30,.blk r #[vI 3] 3,.blk s #[.bool true] 4,.row (vN) 0 [] 57 4]) [3,2,1,0]
 refine zl Z (f:=51) (vs:=[vI 1024]) (fst:=[]) (caps:=[vP g1 0,vP r 0,vP s 0]) rfl rfl rfl kr rfl de (PO w _ g1 r s A c b 3 true 1024 [.row (vN) 0 [] 57 4] P T hn hr hc de d) ?_
 rintro _ EX ⟨rfl,hm⟩
 refine ⟨_,rfl,?_⟩
 replace d:=hm
 clear Z;intro a Z
 refine Jb Z d ((bO 1∘JB) λa Z d=>?_)
 refine qg (λU aS wS=>∃(i:Nat) (p:Nat) (ok:Bool) (last:Nat) (e:Nat) (out:List Pl) (F:ajq) (co:Nat),(i<=K)/\(p<=abr b)/\(iK b (true&&fP b 3 1024) K (bJ b 3) ok (K-i) p last e out)/\(last<=4611686018427387904)/\(e<=i*33554432)/\(abr out=i)/\(∀x∈out,x.sn<=e/\x.st<=e/\x.en<=e)/\(abr out<=co)/\U=K-i/\Fr aS 129 [] (ah8 29 i 28 (eu b 3 1024) (ah8 9 e 8 last ((7,abo F out co)::ai5 g1 r s [])))/\Mem w wS [.blk g1 #[abo A b c] 30,ah9 r p,aiY s ok,abq F out co gU 57 4]) (m:=K-0) ⟨0,(bJ b 3),(true&&fP b 3 1024),0,0,[],none,0,abC _,xJ T,zm4,abC _,abC _,rfl,(λx hx=>by cases hx),abx _,rfl,Z.sub kr,d.pk [0,1,2,3]⟩ ?_
 clear Z d;rintro U a w_ ⟨i,p,ok,last,e,out,F,co,hi,hp,L,hlast,hsum,hol,V,hco,rfl,Z,d⟩
 refine Jb Z d ((cB 1∘JQ) (Ji (λW=>?_) λW=>?_))
 ·
  have auX:i<K:=by omega
  obtain ⟨k,hk⟩:∃k,K-i=k+1:=⟨K-i-1,by omega⟩
  have X:=xJ (b:=b) hp
  have Y:=xJ (b:=b) X
  have hnl:=zm5 (b:=b) (p:=p)
  have hsl:=zm6 (b:=b) (p:=p)
  have hbl:=zm7 (b:=b) (p:=p)
  rw [hk] at L
  intro a Z d
  unfold lZ at hnl;unfold l5 at hsl;unfold nI at hbl
  refine Jb Z d ((eP∘aM 1) λa Z d=>?_)
  refine fo Z 1 rfl rfl ?_
  replace d:=d.pk (fs':=[.blk g1 #[abo A b c] 30,ah9 r p,aiY s ok,abq F out co gU 57 4]) [0,1,2,3]
  refine zl Z (f:=51) (vs:=[vI 4611686018427387904]) (fst:=[]) (caps:=[vP g1 0,vP r 0,vP s 0]) rfl rfl rfl kr rfl de (PO w _ g1 r s A c b p ok 4611686018427387904 [abq F out co gU 57 4] P hp hn hr hc de d) ?_
  rintro _ w32 ⟨rfl,hm⟩
  refine ⟨_,rfl,?_⟩
  replace d:=hm
  clear Z;intro a Z
  refine Jb Z d ((fu #[vI (eu b p 4611686018427387904),vI 0,vI 0,vI 0]∘JA #[vI 0,vI 0,vI 0,vI 0]) λsD H=>(JV kL aN) λafc=>(eO∘bg 1∘Jf 1∘JW aN gu) λG9=>(nO∘Jj) λa Z d=>?_)
  refine wp_seq ?_
  refine Jb Z d ((Vs (.t (.t (.f (.f .n)))) [6]) λzK=>(Vf 0 1∘Vp [2]∘Vc 1 O0) λa Z d D=>?_)
  refine s_on Z 3 rfl ?_
  replace d:=d.pk (fs':=[.blk g1 #[abo A b c] 30,ah9 r (bJ b p),aiY s (ok&&fP b p 4611686018427387904),.blk H #[vI (eu b p 4611686018427387904),vI e,vI 0,vI 0] 57,abq F out co gU 57 4]) [1,2,3,0,4]
  refine zl Z (f:=51) (vs:=[vI 16777216]) (fst:=[]) (caps:=[vP g1 0,vP r 0,vP s 0]) rfl rfl rfl kr rfl de (PO w _ g1 r s A c b (bJ b p) (ok&&fP b p 4611686018427387904) 16777216 [.blk H #[vI (eu b p 4611686018427387904),vI e,vI 0,vI 0] 57,abq F out co gU 57 4] P X hn hr hc de d) ?_
  rintro _ Ot ⟨rfl,hm⟩
  refine ⟨_,rfl,?_⟩
  replace d:=hm
  clear Z;intro a Z
  refine av (d.pk [3,0,4]) (λD=>?_)
  refine Vb Z d D ((Va 4∘Vf 5 2) λa Z d D=>?_)
  refine s_on Z 6 rfl (eU Z d 3 λH8 d=>?_)
  refine dR kr ?_
  refine qe kr ?_
  refine wp_seq ?_
  refine Jb Z d ((Vs (.t (.f (.f .n))) [6]) λzL=>(Vf 0 2∘Vp [2]∘Vc 1 O1) λa Z d D=>?_)
  refine s_on Z 3 rfl ?_
  replace d:=d.pk (fs':=[.blk g1 #[abo A b c] 30,ah9 r (bJ b (bJ b p)),aiY s ((ok&&fP b p 4611686018427387904)&&fP b (bJ b p) 16777216),.blk H #[vI (eu b p 4611686018427387904),vI e,vI (e+(eu b (bJ b p) 16777216):Nat),vI 0] 57,abq F out co gU 57 4]) [0,1,2,3,4]
  refine zl Z (f:=51) (vs:=[vI 16777216]) (fst:=[]) (caps:=[vP g1 0,vP r 0,vP s 0]) rfl rfl rfl kr rfl de (PO w _ g1 r s A c b (bJ b (bJ b p)) ((ok&&fP b p 4611686018427387904)&&fP b (bJ b p) 16777216) 16777216 [.blk H #[vI (eu b p 4611686018427387904),vI e,vI (e+(eu b (bJ b p) 16777216):Nat),vI 0] 57,abq F out co gU 57 4] P Y hn hr hc de d) ?_
  rintro _ w45 ⟨rfl,hm⟩
  refine ⟨_,rfl,?_⟩
  replace d:=hm
  clear Z;intro a Z
  refine av (d.pk [0,3,4]) (λD=>?_)
  refine Vb Z d D ((Va 4∘Vf 5 3) λa Z d D=>?_)
  refine s_on Z 6 rfl (eU Z d 3 λafd d=>?_)
  refine dR kr ?_
  refine qe kr ?_
  refine Jb Z d ((JP∘Jc O2∘Jp 1) (Ju (λy=>?_) λy=>?_))
  ·
   refine (Jg 0 O3∘Jp 3∘JW iE aN) λO=>(jh∘Jj∘JQ∘JP∘Jc O2∘Jp 1∘aI∘Jj) (nQ (λWv=>?_) λWv=>?_)
   ·
    exact (JT∘bB 2∘bW) λd=>by exact Ay d.below (U2 g q (by rw [J];exact L.stop (by unfold lZ;rintro ⟨_,Q⟩;omega))) rfl
   refine (JC (h:=by exact λd=>d.dX (i:=2) (ds:= #[.bool true]) rfl (by rw [decide_eq_true om]))∘JC (h:=by exact λd=>(show Mem w _ [ah7 g1 A (abr b) c,ah9 r (bJ b (bJ b (bJ b p))),.blk s #[.bool true] 4,.blk H #[vI (eu b p 4611686018427387904),vI e,vI (e+(eu b (bJ b p) 16777216):Nat),vI (e+(eu b (bJ b p) 16777216)+(eu b (bJ b (bJ b p)) 16777216):Nat)] 57,abq F out co gU 57 4] from d))∘aP∘aM 1∘Jy (v:= .agg #[vI (eu b p 4611686018427387904),vI e,vI (e+(eu b (bJ b p) 16777216):Nat),vI (e+(eu b (bJ b p) 16777216)+(eu b (bJ b (bJ b p)) 16777216):Nat)]) (h:=by exact Pe rfl rfl kL rfl (λ_ h=>qj (h.blk (i:=3) rfl)))∘JU xM #[vI (eu b p 4611686018427387904),vI e,vI (e+(eu b (bJ b p) 16777216):Nat),vI (e+(eu b (bJ b p) 16777216)+(eu b (bJ b (bJ b p)) 16777216):Nat)]) λUq g59=>(JD ([(mG b p e)].flatMap gU) 5 (λ_ _=>rR) xM (hr:=by exact λd=>d.bE (i:=0) (n:=1) (size:=4) rfl rfl) (h1:=by exact znt _)) λw60 A60 c60 M=>(Jp 1∘fK∘Jq) ?_
   have u:abr out+1=abr (out++[(mG b p e)]):=by rw [abu];rfl
   rw [u] at M
   refine (JC (h:=by exact λd=>d.bq (i:=5) (ys:=(out++[(mG b p e)]).flatMap gU) rfl u (by rw [abZ]))∘Jk 7 (.slice A60 (abr (out++[(mG b p e)])) c60) (h:=by exact iZ u)∘JG∘Vs .n []) λCW=>(Vf 0 0∘Vf 2 3∘Vc 1 O4∘Vp [4]∘Vc 3 O4∘Vp [5]∘Vd∘aL∘JG∘JR∘dx 1∘Jp 1∘aL∘Jq) λa Z d=>?_
   exact ⟨_,om,i+1,(bJ b (bJ b (bJ b p))),true,(eu b p 4611686018427387904),(e+eu b (bJ b p) 16777216+eu b (bJ b (bJ b p)) 16777216),(out++[(mG b p e)]),A60,c60,by omega,xJ Y,(by rw [show K- (i+1)=k by omega];exact L.step y (by unfold lZ;omega)),hnl,by omega,by rw [abu,hol];rfl,zbn V,M,rfl,Z.sub kr,d.pk [1,2,3,5]⟩
  exact (Jp 5∘JW iE aN) λO=>(jh∘Jj∘JQ∘JP∘Jc O2∘Jp 1∘aI∘Jj∘JT∘bB 2∘bW) λd=>by exact Ay d.below (U2 g q (by rw [J];exact L.stop (by rintro ⟨h1,_⟩;rw [h1] at y;cases y))) rfl
 have hik:i=K:=by omega
 refine (JF∘JX∘JG∘JQ∘JP∘Jc O2∘Jp 2) (Ju (λI=>?_) λI=>?_)
 ·
  have Ww:ok=false:=by simpa using I
  have hbad:lF b (true&&fP b 3 1024) K (bJ b 3) 0 0=none:=by rw [Ww] at L;exact L.bad
  exact (Jv 23 [(91,.bool true)]∘eO∘Jj∘JT∘bB 2∘bW) λd=>Ay d.below (U2 g q (by rw [J];exact hbad)) rfl
 have Wx:ok=true:=by simpa using I
 have C:lF b (true&&fP b 3 1024) K (bJ b 3) 0 0=some (out,p,e):=by rw [Wx,show K-i=0 by omega] at L;exact L.fin
 refine (Jc O1∘dx 4∘Jc O0∘Jl∘Jp 3) (Ji (λWy=>?_) λWy=>?_)
 ·
  exact (Jv 16 [(91,.bool true)]∘aI∘Jj∘JT∘bB 2∘bW) λd=>by exact Ay d.below (U3 g q (by rw [J];exact C) (by rintro ⟨h1,Q,T⟩;first|omega|(rw [Q] at l;cases l))) rfl
 refine (Jc O0∘Jc O1∘dx 4∘Jy (h:=by exact aah bD (j:=p+4) rfl rfl rfl om)∘JI (h:=by exact λd=>Q9 A (p+4) c (b.take (p+4)) B _ (hL.mem d hB) (d.le hB) (zjn (d.old hr) om) om (by rw [abA];omega) om (λz hz=>P z (aco hz)))) λw80 hbw=>(Jp 3) (Ju (λl=>?_) λl=>?_)
 ·
  exact (Jv 8 [(91,.bool true)]∘aI∘Jj∘JT∘bB 2∘bW) λd=>by exact Ay d.below (U3 g q (by rw [J];exact C) (by rintro ⟨h1,Q,T⟩;first|omega|(rw [Q] at l;cases l))) rfl
 refine (Jc O1∘dx 4∘Jp 1∘Ja∘Jc O0∘Jl∘Jp 2∘aI∘Jj) (Jh (λhd91=>?_) λhd91=>?_)
 ·
  exact (JT∘bB 2∘bW) λd=>by exact Ay d.below (U3 g q (by rw [J];exact C) (by rintro ⟨h1,Q,T⟩;first|omega|(rw [Q] at l;cases l))) rfl
 have hall:p+4<=abr b/\q5 (b.take (p+4))=true/\p+4+e=abr b:=⟨by omega,by simpa using l,by omega⟩
 refine (aP∘bM 1∘Jl∘Jp 1∘Jq∘JC (h:=by exact λd=>d.dw (i:=3) (ys:=(gN (Pl.up (p+4)) out 0).flatMap gU) rfl (by rw [q30]))∘JG∘JB) λa Z d=>?_
 refine qg (λU aS wS=>∃(j:Nat),(j<=abr out)/\U=abr out-j/\Fr aS 129 [] (ah8 94 j 93 (abr out) ((91,.bool false)::(30,.bool false)::ah8 29 i 28 (eu b 3 1024) (ah8 9 e 8 last ((7,abo F out co)::ai5 g1 r s []))))/\Mem w wS [.blk g1 #[abo A b c] 30,ah9 r p,aiY s ok,.row (abo F out co) (abr out) ((gN (Pl.up (p+4)) out j).flatMap gU) 57 4]) (m:=abr out-0) ⟨0,abC _,rfl,Z.sub kr,d.pk [0,1,2,3]⟩ ?_
 clear Z d;rintro U a w_ ⟨j,hj,rfl,Z,d⟩
 refine Jb Z d ((cB 1∘JQ) (Ji (λhd95=>?_) λhd95=>?_))
 ·
  have o:j<abr out:=by omega
  have hmx:=V _ (qf Pl.zero o)
  have hu1:((out.getD j Pl.zero).Az (p+4)).st=(out.getD j Pl.zero).st:=rfl
  have hu2:((out.getD j Pl.zero).Eu (p+4)).en=(out.getD j Pl.zero).en:=rfl
  refine (eP∘aM 2∘aL∘Jj) λa Z d=>?_
  refine wp_seq ?_
  refine Jb Z d ((Vs .n [10]) λauY=>(Vp [0,1]) ?_)
  repeat (first|clear Z|clear d|clear D)
  intro a Z d D
  obtain ⟨E,rfl⟩:=d.rat 3 j
  refine Vb Z d D ((Vy 2 (h:=by exact Yl.iM E j 4 rfl rfl rfl)∘Vf 3 1∘Vy 4 (v:=vI ((out.getD j Pl.zero).sn)) (h:=by exact Pd rfl rfl kr (λ_ h=>h.qv rY (i:=3) rfl (k:=j) (off:=1) (x:=(out.getD j Pl.zero)) ((FX (Pl.up (p+4)) out Pl.zero o)) rfl))∘Vc 5 O1∘zI 6 4∘Va 7∘Vu 8 (h:=by exact λ_=>Yl.iM E j 4 rfl rfl rfl)∘Vf 9 1) λa Z d D=>?_)
  refine s_on Z 10 rfl ?_
  refine zj Z d (i:=3) rfl rfl rfl rfl kr rfl rfl (by rw [rZ gU 4 rY];simp only [abL,V5];omega) λWz d=>?_
  replace d:=d.dw (i:=3) (ys:=((gN (Pl.up (p+4)) out j).set j ((out.getD j Pl.zero).Az (p+4))).flatMap gU) rfl (vV gU 4 rY (gN (Pl.up (p+4)) out j) j (out.getD j Pl.zero) ((out.getD j Pl.zero).Az (p+4)) (FX (Pl.up (p+4)) out Pl.zero o) 1 de _ rfl)
  refine dR kr ?_
  refine qe kr ?_
  refine wp_seq ?_
  refine Jb Z d ((Vs .n [10]) λauZ=>(Vp [0,1]∘Vy 2 (h:=by exact Yl.iM E j 4 rfl rfl rfl)∘Vf 3 2∘Vy 4 (v:=vI (((out.getD j Pl.zero).Az (p+4)).st)) (h:=by exact Pd rfl rfl kr (λ_ h=>h.qv rY (i:=3) rfl (k:=j) (off:=2) (x:=((out.getD j Pl.zero).Az (p+4))) ((F6 (FX (Pl.up (p+4)) out Pl.zero o))) rfl))∘Vc 5 O1∘zI 6 4∘Va 7∘Vu 8 (h:=by exact λ_=>Yl.iM E j 4 rfl rfl rfl)∘Vf 9 2) λa Z d D=>?_)
  refine s_on Z 10 rfl ?_
  refine zj Z d (i:=3) rfl rfl rfl rfl kr rfl rfl (by rw [rZ gU 4 rY];simp only [abL,V5];omega) λWA d=>?_
  replace d:=d.dw (i:=3) (ys:=(((gN (Pl.up (p+4)) out j).set j ((out.getD j Pl.zero).Az (p+4))).set j ((out.getD j Pl.zero).Eu (p+4))).flatMap gU) rfl (vV gU 4 rY ((gN (Pl.up (p+4)) out j).set j ((out.getD j Pl.zero).Az (p+4))) j ((out.getD j Pl.zero).Az (p+4)) ((out.getD j Pl.zero).Eu (p+4)) (F6 (FX (Pl.up (p+4)) out Pl.zero o)) 2 de _ rfl)
  refine dR kr ?_
  refine qe kr ?_
  refine Jb Z d ((Vs .n [10]) λau0=>(Vp [0,1]∘Vy 2 (h:=by exact Yl.iM E j 4 rfl rfl rfl)∘Vf 3 3∘Vy 4 (v:=vI (((out.getD j Pl.zero).Eu (p+4)).en)) (h:=by exact Pd rfl rfl kr (λ_ h=>h.qv rY (i:=3) rfl (k:=j) (off:=3) (x:=((out.getD j Pl.zero).Eu (p+4))) ((F6 (F6 (FX (Pl.up (p+4)) out Pl.zero o)))) rfl))∘Vc 5 O1∘zI 6 4∘Va 7∘Vu 8 (h:=by exact λ_=>Yl.iM E j 4 rfl rfl rfl)∘Vf 9 3) λa Z d D=>?_)
  refine s_on Z 10 rfl ?_
  refine zj Z d (i:=3) rfl rfl rfl rfl kr rfl rfl (by rw [rZ gU 4 rY];simp only [abL,V5];omega) λWB d=>?_
  replace d:=d.dw (i:=3) (ys:=(gN (Pl.up (p+4)) out (j+1)).flatMap gU) rfl ((vV gU 4 rY (((gN (Pl.up (p+4)) out j).set j ((out.getD j Pl.zero).Az (p+4))).set j ((out.getD j Pl.zero).Eu (p+4))) j ((out.getD j Pl.zero).Eu (p+4)) ((out.getD j Pl.zero).up (p+4)) (F6 (F6 (FX (Pl.up (p+4)) out Pl.zero o))) 3 de _ rfl).trans (by rw [afn,afn,q31 (Pl.up (p+4)) out Pl.zero o]))
  refine dR kr ?_
  refine qe kr ?_
  refine Jb Z d ((JG∘JR∘dx 1∘Jp 1∘aI∘Jq) λa Z d=>?_)
  exact ⟨_,om,j+1,by omega,rfl,Z.sub kr,d.pk [0,1,2,3]⟩
 have hjn:abr out<=j:=by omega
 exact (JF∘JX∘JG∘bB 3∘bW) λd=>zat (zi9 g q (by rw [J];exact C) hall) (by rw [abz]) (by have h:=d.own (i:=3) rfl;rwa [zau hjn] at h) hco d.below
def LV (hb:∀x∈b,x<256) (h:bT b=(L,0)):∀x∈L,x.sn<=x.st/\x.st<=x.en/\x.en<=abr b:=λx d=>by
 obtain ⟨a,e⟩:=(U4 hb h).at
 obtain ⟨i,hi,rfl⟩:=List.getElem_of_mem d
 have c:=e.sn i hi
 rw [abw,List.getElem?_eq_getElem hi] at c
 exact ⟨c.2.1,c.2.2.1,c.2.2.2.1⟩
def LW (hb:∀x∈b,x<256) (h:bT b=(L,0)):abr L<=1024:=by
 obtain ⟨a,c⟩:=(U4 hb h).at
 exact c.few
def LX (A:ajq) (c:Nat) (b:List Nat) (a:Nat) (w:ajg) (d:aR a w) (e:a<=w.heap.size) (hr:Rd w w.heap.size 1 A (abr b) (b.map B8)) (hc:abr b<=c) (f:abr b<=100000000) (g:∀z∈b,z<256) {L:List Pl} {m:Nat} (h:bT b=(L,m)):Calls abt 18 #[.slice A (abr b) c] w (FY w (L,m)):=h▸PS A c b a w d e hr hc f g
def zb0 (A:ajq) (c:Nat) (b:List Nat) (S:Nat) (w:ajg) (hL:aR S w) (T:S<=w.heap.size) (hr:Rd w w.heap.size 1 A (abr b) (b.map B8)) (hc:abr b<=c) (hn:abr b<=100000000) (U:∀z∈b,z<256) (i:Int) (hIi:aX i):
    Calls abt 22 #[.slice A (abr b) c,.int .i64 i] w (zjj w b i):=by
 refine (iQ Tryz.func22 54) ?_
 refine (aM 2∘Jq) ?_
 obtain ⟨L,F,g⟩:∃L F,bT b=(L,F):=⟨_,_,rfl⟩
 have hpl:(L,F).1.length=abr L:=rfl
 refine (JG∘aM 1∘JK (h:=by exact λd=>LX A c b S _ (hL.mem d T) (d.le T) (d.old hr) hc hn U g)) λPA pc CO hpc=>(Jp 1∘Jx∘Jx∘bO 2∘JQ∘JB∘aM 3∘bU∘Jj) (Jh (λG=>?_) λG=>?_)
 ·
  exact (JT∘bB 3∘bW) λd=>PE (zgt g om) rfl om (d.pk [])
 have o:F=0:=by omega
 have W:∀x∈L,x.sn<=x.st/\x.st<=x.en/\x.en<=abr b:=LV U (by rw [g,o])
 have hLn:abr L<=1024:=LW U (by rw [g,o])
 refine (JF∘aM 3) (Ji (λH=>?_) λH=>?_)
 ·
  exact (Jp 6∘aI∘Jj∘JT∘bB 2∘bW) λd=>PE (e:=2) (q0p (by rw [g,o]) om) rfl de (d.pk [])
 refine (Jp 2∘Jl∘Jp 3∘aI∘Jj) (Ji (λI=>?_) λI=>?_)
 ·
  exact (JT∘bB 2∘bW) λd=>PE (e:=2) (q0p (by rw [g,o]) om) rfl de (d.pk [])
 obtain ⟨j,hj⟩:∃j:Nat,i=(j:Int):=⟨i.toNat,by omega⟩
 have X:j<abr L:=by omega
 have J:=za7 (b:=b) (by rw [g,o]) hj X
 repeat (first|clear Z|clear d)
 intro a Z d
 obtain ⟨f,rfl⟩:=d.rat 0 j
 refine Jb Z d ((aP∘aM 1∘Jq∘JC (h:=by exact λd=>d.nil 85 5)∘JC (h:=by exact λd=>(show Mem w _ (.row (.slice none 0 0) 0 [] 85 5::aib f L pc (L.flatMap gU)::(gH 73 []++([]))) from d))∘JG∘bM 2∘Jo (vI j) (by rw [hj])∘Jy (v:= .slice (if pc=j then some ⟨f,0,none⟩ else (some ⟨f,0,none⟩:ajq).map (·.add (j*4))) (abr L-j) (pc-j)) (h:=by exact aaf xM (j:=j) rfl rfl rfl om)∘Jo (.slice (some ⟨f,j*4,none⟩) (abr L-j) (pc-j)) (by rw [if_neg om];simp [Addr.add];intro h;omega)∘Jl∘bO 1∘JB) λa Z d=>?_)
 refine qg (λmS aS wS=>∃(k:Nat) (q:List Hb) (K:ajq) (co:Nat),(k<=abr L-j)/\(lH b (L.drop j)=lH b ((L.drop j).drop k))/\(q.map ac2=lI b ((L.drop j).take k))/\(abr q<=k*1000000)/\(abr q<=co)/\mS=abr L-j-k/\Fr aS 54 [] (ah8 35 k 34 (abr L-j:Nat) [(33,.slice (some ⟨f,j*4,none⟩) (abr L-j) (pc-j)),(8,.slice K (abr q) co),(22,.bool false),(18,.bool false),(7,vI F),(6,vS f (abr L) pc),(5,vI 0),(4,.slice none 0 0),(0,.slice A (abr b) c),(1,vI i)])/\Mem w wS (.row (.slice K (abr q) co) (abr q) (q.flatMap hbL) 85 5::aib f L pc (L.flatMap gU)::(gH 73 q++([])))) (m:=abr L-j-0) ⟨0,[],none,0,abC _,rfl,rfl,abC _,abx _,rfl,Z.sub kr,d.pt 2 [0,1]⟩ ?_
 clear Z d;rintro mS a w_ ⟨k,q,K,co,hk,Y,hq,Lm,hco,rfl,Z,d⟩
 refine Jb Z d ((cB 1∘JQ) (Ji (λM=>?_) λM=>?_))
 ·
  have u:j+k<abr L:=by omega
  obtain ⟨x,V⟩:∃x,L.getD (j+k) Pl.zero=x:=⟨_,rfl⟩
  have hxx:=W x (by rw [<-V];exact qf Pl.zero u)
  obtain ⟨bs,er,y⟩:∃bs er,readAll (bn b x.st x.en)=(bs,er):=⟨_,_,rfl⟩
  have E:=zgu (b:=b) u V
  have N:=zgv (b:=b) u V
  rw [y] at E N
  refine (eP∘JP∘Jy (v:=vP f ((j+k)*4)) (h:=by exact (Yl.ix f (j*4) k 4 rfl rfl rfl om).as (by rw [Nat.add_mul]))∘Jy (v:= .agg ((L.getD (j+k) Pl.zero).cells)) (h:=by exact Pe rfl rfl kL rfl (λ_ h=>h.zB rY (i:=1) rfl ((getD_at Pl.zero u))))∘Jo (.agg x.cells) (by rw [V])∘JA #[vI 0,vI 0,vI 0,vI 0]) λsD B=>(JV kL aN (h1:=by exact U7 x)) λCP=>(bU∘Jr∘eF kL O0∘Jp 1∘fu #[vI x.nx,vI x.sn,vI x.st,vI x.en,.slice A (abr b) c]∘JL (h:=by exact λd=>qpi A c b S _ (hL.mem d T) (d.le T) (d.old hr) hc hn U x hxx y)) ?_
  rintro d _ Sl ⟨A1,c1,p,rfl,O,hc1,hm⟩
  have P:abr bs=abr p:=by rw [<-O,abz]
  rw [P] at hm hc1⊢
  refine ⟨_,rfl,_,aaL (a:=[.blk B x.cells 57,.row (.slice K (abr q) co) (abr q) (q.flatMap hbL) 85 5,aib f L pc (L.flatMap gU)]) (b:=gH 73 q++[]) d hm,?_⟩
  refine (Jp 1∘Jx∘Jx∘bO 2∘bM 2∘aL∘Jj) (Jh (λQ=>?_) λQ=>?_)
  ·
   exact (JT∘bB 3∘bW) λd=>PE (J.trans (Y.trans (E.trans (if_pos om)))) rfl om (d.mJ (List.nil_sublist _))
  have C:er=0:=by omega
  have hp6:abr p<=1000000:=by rw [<-P];have:=qm7 (l:=bn b x.st x.en) (by rw [y];exact C);rw [y] at this;exact this
  refine (aP∘JR∘Jp 2∘JD (p.flatMap hbL) 2 (λ_ _=>iE) Fb (hr:=by exact λd=>d.rd (i:=0) rfl) (h1:=by exact zk1 _)) λQK s t D=>(Jp 1∘eO∘Jq) ?_
  have r:abr q+abr p=abr (q++p):=List.length_append.symm
  rw [r] at D
  intro a Z d
  replace d:=d.bq (i:=2) (ys:=(q++p).flatMap hbL) rfl r (List.flatMap_append.symm)
  replace Z:=Z.sp 8 (.slice s (abr (q++p)) t) rfl (iZ r)
  replace d:Mem w _ (.blk B x.cells 57::.row (.slice s (abr (q++p)) t) (abr (q++p)) ((q++p).flatMap hbL) 85 5::aib f L pc (L.flatMap gU)::(gH 73 (q++p)++([]))):=aa2 (a:=[.blk B x.cells 57,.row (.slice s (abr (q++p)) t) (abr (q++p)) ((q++p).flatMap hbL) 85 5,aib f L pc (L.flatMap gU)]) (d.pt (fs':=(.blk B x.cells 57::.row (.slice s (abr (q++p)) t) (abr (q++p)) ((q++p).flatMap hbL) 85 5::aib f L pc (L.flatMap gU)::(gH 73 p++(gH 73 q++([]))))) 4 [1,2,3])
  refine Jb Z d ((JG∘JR∘dx 1∘Jp 1∘aL∘Jq) λa Z d=>?_)
  exact ⟨_,om,k+1,(q++p),s,t,by omega,by rw [Y,E];exact if_neg (λn=>n C),by rw [abW,hq,O,N],by rw [abu];omega,D,rfl,Z.sub kr,d.pt 3 [1,2]⟩
 have R:k=abr L-j:=by omega
 exact (JF∘JX∘JG∘bB 3∘bW) λd=>by exact ⟨_,_,q,0,rfl,by rw [J,Y,R,<-abE,List.drop_length];rfl,λ_=>by rw [g];show q.map ac2=lI b (L.drop i.toNat);rw [hq,R,<-abE,List.take_length,show i.toNat=j by omega],λh=>absurd rfl h,hco,q0z (d.pt (fs':=(.row (.slice K (abr q) co) (abr q) (q.flatMap hbL) 85 5::(gH 73 q++([])))) 2 [0])⟩
def zbo {x:Pl} (h:∀j,j<abr q->pW b (L.getD j Pl.zero) (q.getD j Pm.zero)) (c:L.getD (abr q) Pl.zero=x) (d:pW b x p):∀j,j<abr (q++[p])->pW b (L.getD j Pl.zero) ((q++[p]).getD j Pm.zero):=λj e=>by
 rw [abu,List.length_singleton] at e
 rw [abw (l:=q++[p])]
 rcases Nat.lt_or_ge j (abr q) with a|a
 ·rw [List.getElem?_append_left a,<-abw]
  exact h j a
 ·obtain rfl:j=abr q:=by omega
  rw [List.getElem?_append_right (abx _),Nat.sub_self,c]
  exact d
def zbp (h:∀x∈q,fF x) (b:fF p):∀x∈q++[p],fF x:=λx a=>by
 rcases acg.1 a with a|a
 ·exact h x a
 ·rw [afL.1 a];exact b
def zha (l:List Nat):∀u∈l.map bL,u.oneCell'=true:=by
 intro u a
 obtain ⟨x,_,rfl⟩:=List.mem_map.1 a
 rfl
def zjo (w:ajg) (R:List Nat) (r:ajk) (a:ajg):Prop:=(∃A c,r= .returned (.tuple #[.slice A (abr R) c,vI 0])/\a.ownsRow w.heap.size 3 1 (.slice A (abr R) c) (abr R) (R.map bL)/\abr R<=c)/\Below w.heap.size w a
def znu {R g:List Nat} (h:R=g) (a:W.ownsRow w.heap.size 3 1 (.slice A (abr g) c) (abr g) (g.map bL)) (hc:abr g<=c) (hb:Below w.heap.size w W):zjo w R (.returned (.tuple #[.slice A (abr g) c,vI 0])) W:=by
 subst h
 exact ⟨⟨A,c,rfl,a,hc⟩,hb⟩
def zjp (w:ajg) (b:List Nat) (r:ajk) (a:ajg):Prop:=
 ((bT b).2≠0/\Is w (.tuple #[vN,vI ((bT b).2:Int)]) r a)\/
 ((bT b).2=0/\zjo w (iI b (bT b).1 0) r a)
abbrev ah6 {α:Type}:=λa b (c:List α) d e f g h i j k=>(.blk a #[abo b c d] e::.blk f #[vI 0] g::.blk h #[vI 0] i::.blk j #[vN] e::k:List ajr)
def zbq (A:ajq) (c:Nat) (b:List Nat) (BB:Nat) (w:ajg) (hL:aR BB w) (hB:BB<=w.heap.size) (hr:Rd w w.heap.size 1 A (abr b) (b.map B8)) (hc:abr b<=c) (hn:abr b<=100000000) (hl:∀z∈b,z<256):
    Calls abt 17 #[.slice A (abr b) c] w (zav w b):=by
 refine Cz (vs:=[abo A b c]) Tryz.func17 rfl rfl kr (σ0:=[(0,abo A b c)]) rfl ?_
 intro a Z
 have d:=Mem.start w
 refine Jb Z d ((JP∘JA #[vN]) λw2 u=>(JA #[vI 0]) λw3 y=>(JA #[vI 0]) λw4 s=>(Jq) ?_)
 obtain ⟨L,ie,f⟩:∃L ie,bT b=(L,ie):=⟨_,_,rfl⟩
 refine (JG∘aM 1∘JK (h:=by exact λd=>LX A c b BB _ (hL.mem d hB) (d.le hB) (d.old hr) hc hn hl f)) λPA pc yL hpc=>(Jp 1∘Jx∘Jx∘bO 2∘bM 2∘aL∘Jj) (Jh (λQ=>?_) λQ=>?_)
 ·
  refine (JT∘aM 1∘JW oI aN) λau6=>(JW iE aN) λRF=>(JW gu aN) λRv=>(mW∘aQ) λa Z d=>?_
  refine CB ?_
  exact iy rfl Z (.cell1 (i:=3) Z d rfl rfl kr rfl) (.cell1 (i:=2) Z d rfl rfl kr rfl) (.cell1 (i:=1) Z d rfl rfl kr rfl) (.inl ⟨by rw [f];show ie≠0;omega,by rw [f];exact ⟨rfl,d.below⟩⟩)
 have H:ie=0:=by omega
 have hL2:∀x∈L,x.sn<=x.st/\x.st<=x.en/\x.en<=abr b:=LV hl (by rw [f,H])
 have hLn:abr L<=1024:=LW hl (by rw [f,H])
 refine (aP∘JP∘JA #[vN]) λw7 D=>(Jq∘JC (h:=by exact λd=>d.nil 53 9)∘JC (h:=by exact λd=>(show Mem w _ (.row (vN) 0 [] 53 9:: .blk D #[vN] 24:: abq PA L pc gU 57 4:: .blk s #[vI 0] 27:: .blk y #[vI 0] 3:: .blk u #[vN] 24::dH []) from d))∘JG∘bM 2∘JL (h:=by exact λd=>qpj A (abr b) c PA (abr L) pc _)) ?_
 rintro d _ EY ⟨gl,gb,rfl,hm⟩
 refine ⟨_,rfl,_,d.join hm,?_⟩
 refine (bU∘Jj∘JB) λa Z d=>?_
 refine Cy Z d (λF=>∃(q:List Pm) (l:ajq) (co:Nat),(abr q+abr ([]:List Pl)=abr L)/\(∀j,j<abr q->pW b (L.getD j Pl.zero) (q.getD j Pm.zero))/\(∀p∈q,fF p)/\(jQ b L 0=jQ b ([]:List Pl) (abr q))/\(abr q<=co)/\F=(abq l q co iJ 53 9::ah6 D l q co 24 s 27 y 3 u (dH q))) (λc F=>c= .ret/\∃(k:Nat) (e:Nat),(jQ b L 0=some (k,e))/\F=[.blk s #[vI e] 27,ah9 y k,.blk u #[vN] 24]) rfl kr ?_ ?_ ?_
 ·
  clear Z d;intro C B g w1 R d
  have hy:V7 w b L C (λI F=>∃(q:List Pm) (l:ajq) (co:Nat),(abr q+abr I=abr L)/\(∀j,j<abr q->pW b (L.getD j Pl.zero) (q.getD j Pm.zero))/\(∀p∈q,fF p)/\(jQ b L 0=jQ b I (abr q))/\(abr q<=co)/\F=(.obj C (.loop (g .ready none)):: .obj B (.deferred (some []))::(abq l q co iJ 53 9::ah6 D l q co 24 s 27 y 3 u (dH q)))) (λF=>∃(k:Nat) (e:Nat),(jQ b L 0=some (k,e))/\F=(.obj C (.loop (g .done (some .ret))):: .obj B (.deferred (some [])):: [.blk s #[vI e] 27,ah9 y k,.blk u #[vN] 24])):=by
   rintro I F fr w3 i x t p ⟨q,l,co,hq,J,K,E,M,rfl⟩ S hdr hi9 T U V d
   have hl9:=congrArg acY hdr
   have hl8:=congrArg acY S
   rw [abE] at hl9
   rw [abS] at hl8
   have W:i=abr q:=by omega
   rw [W] at T
   rw [S,jQ] at E
   replace d:Mem w w3 (ah5 C (g .ready none)::ahY B::abq l q co iJ 53 9::ah6 D l q co 24 s 27 y 3 u (jd p++(dH q++(fr)))):=aaT (a:=(ah5 C (g .ready none)::ahY B::abq l q co iJ 53 9::ah6 D l q co 24 s 27 y 3 u [])) d
   refine EO (v1:=vI i) (v2:= .agg (pV p (dz b x))) R d de de λa Z=>?_
   refine wpIn_seq ?_
   refine qk ?_
   refine Jb Z d ((Jp 1∘Jq) λa Z d=>?_)
   refine qk ?_
   refine Jb Z d ((JA #[vI 0,vI 0,vQ 0,vN,vN,vN,vN,vN,vN,vI 0]) λw9 N=>(JV BQ aN (h1:=by exact zjb _ _)) λGU=>(Jq) λa Z d=>?_)
   refine ⟨(.blk N (pV p (dz b x)) 126::ahY B::abq l q co iJ 53 9::ah6 D l q co 24 s 27 y 3 u (jd p++(dH q++(fr)))),d.pt (fs':=(ah5 C (g .ready none)::.blk N (pV p (dz b x)) 126::ahY B::abq l q co iJ 53 9::ah6 D l q co 24 s 27 y 3 u (jd p++(dH q++(fr))))) 8 [1,0,2,3,4,5,6,7],λw4 d=>?_⟩
   refine wpIn_block ?_
   refine wpIn_seq ?_
   refine wpIn_seq ?_
   refine qk ?_
   refine Jb Z d ((Jg 9 O1∘Jp 1∘aL∘Jq) (Jh (λX=>?_) λX=>?_))
   ·
    intro a Z d
    replace d:Mem w _ (ah5 C (g .busy none)::.blk N (pV p (dz b x)) 126::ahY B::abq l q co iJ 53 9::ah6 D l q co 24 s 27 y 3 u fr):=aaE (a:=(ah5 C (g .busy none)::.blk N (pV p (dz b x)) 126::ahY B::abq l q co iJ 53 9::ah6 D l q co 24 s 27 y 3 u [])) (pa:=dH q) (fr:=fr) (aaE (a:=(ah5 C (g .busy none)::.blk N (pV p (dz b x)) 126::ahY B::abq l q co iJ 53 9::ah6 D l q co 24 s 27 y 3 u [])) (pa:=jd p) (fr:=dH q++fr) d)
    refine Cw Z rfl ?_
    refine wpIn_seq ?_
    refine Ye d (ah5 C (g .busy none)::.blk N (pV p (dz b x)) 126::ahY B::abq l q co iJ 53 9::.blk D #[abo l q co] 24::.blk s #[vI 0] 27::fr) 8 [0,1,2,3,4,5] [5] λd HS=>?_
    refine ap Z (λ_=>HS) [0,1] (bf 6 [0,1]) [(27,vP N 9),(26,vI i)] λa Z=>?_
    refine dJ Z HS 2 1 (v:=vI (dz b x)) λa Z=>?_
    refine s_on Z 3 rfl (eU Z d 7 λCP d=>?_)
    refine av (d.pt 8 [0,1,2,3,4,5]) (λHS=>?_)
    refine s_on Z 4 rfl (eU Z d 6 λWC d=>?_)
    refine av (d.pt 8 [0,1,2,3,4,5]) (λHS=>?_)
    refine s_on Z 5 rfl (eU Z d 5 λKV d=>?_)
    refine dR kr ?_
    refine qe kr ?_
    refine wpIn_ret ?_
    refine ⟨(ahY B::.blk s #[vI (dz b x)] 27::ah9 y i::.blk u #[vN] 24::fr),d.pt (fs':=(ah5 C (g .busy none)::ahY B::.blk s #[vI (dz b x)] 27::ah9 y i::.blk u #[vN] 24::fr)) 8 [0,2,5,6,7],λw5 d=>?_⟩
    exact ⟨(ah5 C (g .done (some .ret))::ahY B::.blk s #[vI (dz b x)] 27::ah9 y i::.blk u #[vN] 24::[]),d,.inr ⟨trivial,rfl,i,(dz b x),(E.trans ((if_pos om).trans (by rw [W]))),rfl⟩⟩
   intro a Z d
   refine Cx Z rfl ?_
   refine wpIn_skip ?_
   refine qk ?_
   refine Jb Z d ((Jc O4∘Jf 0∘Jy (v:= .agg p.cells) (h:=by exact Pe rfl rfl dn rfl (λ_ h=>h.sub (i:=1) rfl 0 rfl))∘JU nJ p.cells) λw32 Y=>(JD (iJ p) 4 (λ_ _=>qK) nJ (hr:=by exact λd=>d.bE (i:=0) (n:=1) (size:=9) rfl rfl) (h1:=by exact yZ _)) λGL m o O=>(JW rR aN) λafh=>(qL∘Jq) λa Z d=>?_)
   have G:abr q+1=abr (q++[p]):=by rw [abu];rfl
   rw [G] at O
   replace d:=d.bq (i:=4) (ys:=(q++[p]).flatMap iJ) rfl G (by rw [abZ,List.flatMap_cons,List.flatMap_nil,abN])
   replace d:=d.dX (i:=5) (ds:= #[.slice m (abr (q++[p])) o]) rfl (by rw [G];try rfl)
   replace d:Mem w _ (.blk Y p.cells 53::ah5 C (g .busy none)::.blk N (pV p (dz b x)) 126::ahY B::abq m (q++[p]) o iJ 53 9::ah6 D m (q++[p]) o 24 s 27 y 3 u (dH (q++[p])++(fr))):=aaZ (a:=(.blk Y p.cells 53::ah5 C (g .busy none)::.blk N (pV p (dz b x)) 126::ahY B::abq m (q++[p]) o iJ 53 9::ah6 D m (q++[p]) o 24 s 27 y 3 u [])) d
   refine ⟨(ahY B::abq m (q++[p]) o iJ 53 9::ah6 D m (q++[p]) o 24 s 27 y 3 u (dH (q++[p])++(fr))),d.pt (fs':=(ah5 C (g .busy none)::ahY B::abq m (q++[p]) o iJ 53 9::ah6 D m (q++[p]) o 24 s 27 y 3 u (dH (q++[p])++(fr)))) 9 [1,3,4,5,6,7,8],λw5 d=>?_⟩
   exact ⟨(ah5 C (g .ready none)::ahY B::abq m (q++[p]) o iJ 53 9::ah6 D m (q++[p]) o 24 s 27 y 3 u (dH (q++[p]))),d,.inl ⟨trivial,rfl,(q++[p]),m,o,by rw [abu];show abr q+1+_=_;omega,zbo J T U,zbp K V,(E.trans (by rw [if_neg om,abu];rfl)),O,rfl⟩⟩
  refine (qnd w w1 gl gb C BB A c b hL hB hr hc hn hl PA pc L hL2 om _ _ _ hy ⟨[],none,0,ab9 _,(λj hj=>by cases hj),(λp hp=>by cases hp),rfl,abx _,rfl⟩ (d.pt 10 [2,3,6,0,1,4,5,7,8,9])).mono ?_
  rintro r w2 ⟨v,rfl,F2,uJ,(⟨q,l,co,hq,J,K,E,M,rfl⟩|⟨k,e,P,rfl⟩)⟩
  ·exact ⟨v,rfl,.inl ⟨_,⟨q,l,co,hq,J,K,E,M,rfl⟩,uJ⟩⟩
  ·exact ⟨v,rfl,.inr ⟨.ret,_,⟨rfl,k,e,P,rfl⟩,uJ⟩⟩
 ·
  clear Z d;rintro B a w6 _ ⟨q,l,co,hq,J,K,E,M,rfl⟩ Z d
  refine Jb Z d ((JG∘JP∘Jc O2∘JW rR aN) λafi=>(JW qK aN) λafj=>(JW oI aN) λafk=>(mW∘aQ) λa Z d=>?_)
  refine yH Z d (i:=0) rfl λa w7 Z d=>?_
  exact iy rfl Z (.cell1 (i:=5) Z d rfl rfl kr rfl) (.cell1 (i:=4) Z d rfl rfl kr rfl) (.cell1 (i:=3) Z d rfl rfl kr rfl) (.inr (.inr ⟨by rw [f];exact H,by rw [f];exact E,l,co,q,rfl,by rw [f];exact hq,by rw [f];exact J,K,M,d.pt (fs':=(abq l q co iJ 53 9::dH q)) 6 [1]⟩))
 ·
  clear Z d;rintro _ B a w6 _ ⟨rfl,k,e,P,rfl⟩ Z d
  refine wp_ret ?_
  refine yH Z d (i:=0) rfl λa w7 Z d=>?_
  exact iy rfl Z (.cell1 (i:=3) Z d rfl rfl kr rfl) (.cell1 (i:=2) Z d rfl rfl kr rfl) (.cell1 (i:=1) Z d rfl rfl kr rfl) (.inr (.inl ⟨by rw [f];exact H,k,e,by rw [f];exact P,⟨rfl,d.below⟩⟩))
abbrev ain:=λa b c d e=>(abp a b c bL 3 1::.blk d #[abo a b c] 38::e:List ajr)
def zbr (A:ajq) (c:Nat) (b:List Nat) (O:Nat) (w:ajg) (hL:aR O w) (R:O<=w.heap.size) (hr:Rd w w.heap.size 1 A (abr b) (b.map B8)) (hc:abr b<=c) (hn:abr b<=100000000) (P:∀z∈b,z<256):
    Calls abt 19 #[.slice A (abr b) c] w (zjp w b):=by
 refine Cz (vs:=[abo A b c]) Tryz.func19 rfl rfl kr (σ0:=[(0,abo A b c)]) rfl ?_
 intro a Z
 have d:=Mem.start w
 refine Jb Z d ((aM 2∘Jq) ?_)
 obtain ⟨L,Q,j⟩:∃L Q,bT b=(L,Q):=⟨_,_,rfl⟩
 refine (JG∘aM 1∘JK (h:=by exact λd=>LX A c b O _ (hL.mem d R) (d.le R) (d.old hr) hc hn P j)) λPA pc vD hpc=>(Jp 1∘Jx∘Jx∘bO 2∘bM 2∘aL∘Jj) (Jh (λI=>?_) λI=>?_)
 ·
  refine (JT∘bB 3) λa Z d=>?_
  refine CB ?_
  exact qJ rfl Z rfl rfl (.inl ⟨by rw [j];show Q≠0;omega,by rw [j];exact ⟨rfl,d.below⟩⟩)
 have y:Q=0:=by omega
 have S:∀x∈L,x.sn<=x.st/\x.st<=x.en/\x.en<=abr b:=LV P (by rw [j,y])
 have hLn:abr L<=1024:=LW P (by rw [j,y])
 refine (aP∘JP∘JA #[vN]) λw6 m=>(Jq∘JC (h:=by exact λd=>d.nil 3 1)∘JG∘bM 2∘JL (h:=by exact λd=>qpj A (abr b) c PA (abr L) pc _)) ?_
 rintro d _ Ow ⟨gl,gb,rfl,hm⟩
 refine ⟨_,rfl,_,d.join hm,?_⟩
 refine (bU∘Jj∘JB) λa Z d=>?_
 refine Cy Z d (λF=>∃(g:List Nat) (n:Nat) (e:ajq) (co:Nat),(n+abr ([]:List Pl)=abr L)/\(iI b L 0=g++iI b ([]:List Pl) n)/\(abr g<=n)/\(abr g<=co)/\F=(ain e g co m [])) (λc F=>c= .ret/\∃(u:Nat),(False)/\F=[]) rfl kr ?_ ?_ ?_
 ·
  clear Z d;intro o B f w1 J d
  have hy:V7 w b L o (λC F=>∃(g:List Nat) (n:Nat) (e:ajq) (co:Nat),(n+abr C=abr L)/\(iI b L 0=g++iI b C n)/\(abr g<=n)/\(abr g<=co)/\F=(.obj o (.loop (f .ready none)):: .obj B (.deferred (some [])):: (ain e g co m []))) (λF=>∃(u:Nat),(False)/\F=(ah5 o (f .done (some .ret))::ahY B::[])):=by
   rintro C F fr w3 i x t p ⟨g,n,e,co,T,q,G,D,rfl⟩ K U hi9 hx9 ava avb d
   have V:=congrArg acY U
   have W:=congrArg acY K
   rw [abE] at V
   rw [abS] at W
   have X:n=i:=by omega
   rw [K,iI,X] at q
   replace d:Mem w w3 (ah5 o (f .ready none)::ahY B::ain e g co m (jd p++(fr))):=aaT (a:=(ah5 o (f .ready none)::ahY B::ain e g co m [])) d
   refine EO (v1:=vI i) (v2:= .agg (pV p (dz b x))) J d de de λa Z=>?_
   refine wpIn_seq ?_
   refine qk ?_
   refine Jb Z d ((Jp 1∘Jq) λa Z d=>?_)
   refine qk ?_
   refine Jb Z d ((JA #[vI 0,vI 0,vQ 0,vN,vN,vN,vN,vN,vN,vI 0]) λw8 H=>(JV BQ aN (h1:=by exact zjb _ _)) λGU=>(Jq) λa Z d=>?_)
   refine ⟨(.blk H (pV p (dz b x)) 126::ahY B::ain e g co m (jd p++(fr))),d.pt (fs':=(ah5 o (f .ready none)::.blk H (pV p (dz b x)) 126::ahY B::ain e g co m (jd p++(fr)))) 5 [1,0,2,3,4],λw4 d=>?_⟩
   refine wpIn_block ?_
   refine wpIn_seq ?_
   refine qk ?_
   refine Jb Z d ((Jg 9 O1∘Jp 1∘aL∘Jq) (Je (λM=>?_) λM=>?_))
   ·
    intro a Z d
    replace d:Mem w _ (ah5 o (f .busy none)::.blk H (pV p (dz b x)) 126::ahY B::ain e g co m fr):=aaE (a:=(ah5 o (f .busy none)::.blk H (pV p (dz b x)) 126::ahY B::ain e g co m [])) (pa:=jd p) (fr:=fr) d
    refine Cw Z rfl ?_
    refine qk ?_
    refine Jb Z d ((Jc O4∘Jp 1∘JU kD #[vI i]) λFx g27=>(JD ([i].map bL) 4 (λ_ _=>qK) kD (hr:=by exact λd=>d.bE (i:=0) (n:=1) (size:=1) rfl rfl) (h1:=by exact zha _)) λEX k l E=>(JW rR aN) λWC=>(wu∘Jq) λa Z d=>?_)
    have s:abr g+1=abr (g++[i]):=by rw [abu];rfl
    rw [s] at E
    replace d:=d.bq (i:=4) (ys:=(g++[i]).map bL) rfl s (by rw [abW])
    replace d:=d.dX (i:=5) (ds:= #[.slice k (abr (g++[i])) l]) rfl (by rw [s];try rfl)
    refine ⟨(ahY B::ain k (g++[i]) l m fr),d.pt (fs':=(ah5 o (f .busy none)::ahY B::ain k (g++[i]) l m fr)) 6 [1,3,4,5],λw5 d=>?_⟩
    exact ⟨(ah5 o (f .ready none)::ahY B::ain k (g++[i]) l m []),d,.inl ⟨trivial,rfl,(g++[i]),(i+1),k,l,by show i+1+_=_;omega,(q.trans (by rw [if_pos om,aby];rfl)),by rw [abu];show abr g+1<=_;omega,E,rfl⟩⟩
   intro a Z d
   replace d:Mem w _ (ah5 o (f .busy none)::.blk H (pV p (dz b x)) 126::ahY B::ain e g co m fr):=aaE (a:=(ah5 o (f .busy none)::.blk H (pV p (dz b x)) 126::ahY B::ain e g co m [])) (pa:=jd p) (fr:=fr) d
   refine Cx Z rfl ?_
   refine wpIn_skip ?_
   refine ⟨(ahY B::ain e g co m fr),d.pt (fs':=(ah5 o (f .busy none)::ahY B::ain e g co m fr)) 5 [0,2,3,4],λw5 d=>?_⟩
   exact ⟨(ah5 o (f .ready none)::ahY B::ain e g co m []),d,.inl ⟨trivial,rfl,g,(i+1),e,co,by show i+1+_=_;omega,(q.trans (by rw [if_neg om])),by omega,D,rfl⟩⟩
  refine (qnd w w1 gl gb o O A c b hL R hr hc hn P PA pc L S om _ _ _ hy ⟨[],0,none,0,ab9 _,rfl,abx _,abx _,rfl⟩ (d.pk [2,3,6,0,1,4,5])).mono ?_
  rintro r w2 ⟨v,rfl,F2,N,(⟨g,n,e,co,T,q,G,D,rfl⟩|⟨u,Y,rfl⟩)⟩
  ·exact ⟨v,rfl,.inl ⟨_,⟨g,n,e,co,T,q,G,D,rfl⟩,N⟩⟩
  ·exact ⟨v,rfl,.inr ⟨.ret,_,⟨rfl,u,Y,rfl⟩,N⟩⟩
 ·
  clear Z d;rintro B a w6 _ ⟨g,n,e,co,T,q,G,D,rfl⟩ Z d
  refine Jb Z d ((JG∘JP∘Jc O2∘bO 2∘JZ) λa Z d=>?_)
  refine yH Z d (i:=0) rfl λa w7 Z d=>?_
  exact qJ rfl Z rfl rfl (.inr ⟨by rw [j];exact y,by rw [j];exact znu (q.trans (abN g)) (d.own (i:=1) rfl) D d.below⟩)
 ·
  clear Z d;rintro _ B a w6 _ ⟨rfl,u,Y,rfl⟩ Z d
  exact Y.elim
def zhc (h:Mem W w (a++(jd p++[]))):Mem W w (jd p):=by
 rw [abN] at h
 exact h.mJ (aeH a _)
def zbs (A:ajq) (c:Nat) (b:List Nat) (s:Nat) (w:ajg) (D:aR s w) (y:s<=w.heap.size) (hr:Rd w w.heap.size 1 A (abr b) (b.map B8)) (hc:abr b<=c) (E:abr b<=100000000) (t:∀z∈b,z<256) (n:Int) (F:aX n):
    Calls abt 40 #[.slice A (abr b) c,vI n] w (Is w (.tuple #[vI (kM b n).1,vI ((kM b n).2:Int)])):=by
 refine (iQ Tryz.func40 32) ?_
 refine (aM 2∘Jq) ?_
 obtain ⟨L,l,e⟩:∃L l,bT b=(L,l):=⟨_,_,rfl⟩
 have G:(L,l).1.length=abr L:=rfl
 refine (JG∘aM 1∘JK (h:=by exact λd=>LX A c b s _ (D.mem d y) (d.le y) (d.old hr) hc E t e)) λB pc H I=>(Jp 1∘Jx∘Jx∘bO 2∘bM 2∘aL∘Jj) (Jh (λo=>?_) λo=>?_)
 ·
  exact (JT∘bB 3∘bW) λd=>qc2 (zgn e om) rfl d.below
 have f:l=0:=by omega
 have J:∀x∈L,x.sn<=x.st/\x.st<=x.en/\x.en<=abr b:=LV t (by rw [e,f])
 have K:abr L<=1024:=LW t (by rw [e,f])
 refine (aP∘bM 1∘Jl∘Jp 1∘Jo (vI ((abr L:Int)-1)) (by exact nN ⟨by omega,by omega⟩)∘Jp 1∘eO∘Jj∘JB) λa Z d=>?_
 refine qg (λC M N=>∃(k:Nat),(k<=abr L)/\(kM b n=FZ L n k)/\C=0+k/\Fr M 32 [] [(8,vI ((k:Int)-1)),(15,.bool false),(7,vI l),(6,abo B L pc),(5,vI 0),(4,vI 0),(1,vI n)]/\Mem w N [abq B L pc gU 57 4]) (m:=0+abr L) ⟨abr L,abx _,zm8 (by rw [e,f]),rfl,Z.sub kr,d.pk [0]⟩ ?_
 clear Z d;rintro C a Q ⟨k,R,g,rfl,Z,d⟩
 refine Jb Z d ((bM 2∘aL∘Jj) (Ji (λp=>?_) λp=>?_))
 ·
  obtain ⟨j,u⟩:∃j,k=j+1:=⟨k-1,by omega⟩
  have O:j<abr L:=by omega
  have q:FZ L n k=if ((L.getD j Pl.zero).nx:Int)<=n then ((j:Int),0) else FZ L n j:=by rw [u];rfl
  refine (eP∘aM 2∘Jo (vI j) (by rw [show ((k:Int)-1)=(j:Int) by omega])) ?_
  repeat (first|clear Z|clear d)
  intro a Z d
  obtain ⟨P,rfl⟩:=d.rat 0 j
  refine Jb Z d ((nP j 4∘Jf 0∘Jy (v:=vI ((L.getD j Pl.zero).nx)) (h:=by exact Pd rfl rfl kr (λ_ h=>(by have:=h.qv rY (i:=0) rfl (k:=j) (off:=0) (x:=(L.getD j Pl.zero)) ((getD_at Pl.zero O)) rfl;simpa using this)))∘Jp 2∘aI∘Jj) (Ji (λr=>?_) λr=>?_))
  ·
   exact (JT∘aM 1∘Jo (vI j) (by rw [show ((k:Int)-1)=(j:Int) by omega])∘bO 2∘JZ∘bW) λd=>qc2 (m:=0) (g.trans (q.trans (if_pos om))) rfl d.below
  refine (aP∘JR∘Jp 1∘Jo (vI j) (by rw [show ((k:Int)-1)=(j:Int) by omega])∘Jp 1∘Jo (vI ((j:Int)-1)) (by exact nN ⟨by omega,by omega⟩)∘Jp 1∘bU∘Jq) λa Z d=>?_
  exact ⟨_,om,j,by omega,(g.trans (q.trans (if_neg om))),rfl,Z.sub kr,d.pk [0]⟩
 exact (JF∘JX∘JG∘bB 2∘bW) λd=>qc2 (m:=6) (g.trans (by rw [show k=0 by omega];rfl)) rfl d.below
def PW (A:ajq) (c:Nat) (b:List Nat) (r:Nat) (w:ajg) (G:aR r w) (s:r<=w.heap.size) (hr:Rd w w.heap.size 1 A (abr b) (b.map B8)) (hc:abr b<=c) (H:abr b<=100000000) (t:∀z∈b,z<256) (i:Int) (N:aX i):
    Calls abt 20 #[.slice A (abr b) c,vI i] w (Lr w b i):=by
 refine (iQ Tryz.func20 37) ?_
 refine (JP∘JA aja) λS I=>(Jp 1∘Jq) ?_
 obtain ⟨L,u,f⟩:∃L u,bT b=(L,u):=⟨_,_,rfl⟩
 have O:(L,u).1.length=abr L:=rfl
 refine (JG∘aM 1∘JK (h:=by exact λd=>LX A c b r _ (G.mem d s) (d.le s) (d.old hr) hc H t f)) λU pc P Q=>(Jp 1∘Jx∘Jx∘bO 2∘JQ∘JB∘aM 3∘bU∘Jj) (Jh (λl=>?_) λl=>?_)
 ·
  refine (JT∘JP∘fu aja∘Jp 1∘JV dn gu) λJ=>(Jp 1∘bU∘aQ) λa Z d=>?_
  exact dS rfl Z (.cellS (i:=1) Z d rfl rfl dn rfl) (.tmp Z rfl) (V8 (zgm f om) rfl om (d.pk []))
 have g:u=0:=by omega
 have y:∀x∈L,x.sn<=x.st/\x.st<=x.en/\x.en<=abr b:=LV t (by rw [f,g])
 have R:abr L<=1024:=LW t (by rw [f,g])
 refine (JF∘aM 3) (Ji (λm=>?_) λm=>?_)
 ·
  refine (Jp 6∘aI∘Jj∘JT∘JP∘fu aja∘JV dn gu) λn=>(Jp 1∘aL∘aQ) λa Z d=>?_
  exact dS rfl Z (.cellS (i:=1) Z d rfl rfl dn rfl) (.tmp Z rfl) (V8 (e:=2) (q0j (by rw [f,g]) om) rfl de (d.pk []))
 refine (Jp 2∘Jl∘Jp 3∘aI∘Jj) (Ji (λo=>?_) λo=>?_)
 ·
  refine (JT∘JP∘fu aja∘JV dn gu) λn=>(Jp 1∘aL∘aQ) λa Z d=>?_
  exact dS rfl Z (.cellS (i:=1) Z d rfl rfl dn rfl) (.tmp Z rfl) (V8 (e:=2) (q0j (by rw [f,g]) om) rfl de (d.pk []))
 obtain ⟨k,K⟩:∃k:Nat,i=(k:Int):=⟨i.toNat,by omega⟩
 have j:k<abr L:=by omega
 obtain ⟨x,B⟩:∃x,L.getD k Pl.zero=x:=⟨_,rfl⟩
 have C:=y x (by rw [<-B];exact qf Pl.zero j)
 refine (aP∘aM 2∘Jo (vI k) (by rw [K])) ?_
 repeat (first|clear Z|clear d)
 intro a Z d
 obtain ⟨q,rfl⟩:=d.rat 0 k
 refine Jb Z d ((nP k 4∘Jy (v:= .agg ((L.getD k Pl.zero).cells)) (h:=by exact Pe rfl rfl kL rfl (λ_ h=>h.zB rY (i:=0) rfl ((getD_at Pl.zero j))))∘Jo (.agg x.cells) (by rw [B])∘Jp 1∘fu #[vI x.nx,vI x.sn,vI x.st,vI x.en,abo A b c]∘JL (h:=by exact λd=>qu0 A c b r _ (G.mem d s) (d.le s) (d.old hr) hc H t x C)) ?_)
 rintro d _ D ⟨p,rfl,E,F,hm⟩
 refine ⟨_,rfl,_,(show Mem w D (aib q L pc (L.flatMap gU)::.blk I aja 53::(jd p++([]))) from d.jZ (T:=[]) 2 hm rfl),?_⟩
 refine (Jx∘Jx∘JV dn gu (h1:=by exact yZ p)) λM=>(Jp 1∘aI∘aQ) λa Z d=>?_
 exact dS rfl Z (.cellS (i:=1) Z d rfl rfl dn rfl) (.tmp Z rfl) (zgl (by rw [f,g]) K j B E F (zhc (a:=[aib q L pc (L.flatMap gU),.blk I p.cells 53]) d))
def F7 (n:Int) (l:aX n) (w:ajg):
    Calls abt 34 #[vI n] w (zjc w n):=by
 refine (fE Tryz.func34 19) ?_
 refine (JP∘JA aja) λq r=>(Jr∘fu #[vI 0,vI 1]∘JU jE #[vI 0,vI 1]) λs d=>(fu #[vI 1,vQ 0,vS d 1 1]∘JU kD #[vI 0]) λt f=>(JU kD #[vI 0]) λu g=>(fu #[vQ 0,vW 0,vQ 0]∘JU mo #[vQ 0,vW 0,vQ 0]) λm c=>(JU oO #[vS c 1 1]) λo b=>(fu #[vI 1,vQ 0,vS d 1 1,vS f 1 1,vS g 1 1,vN,vS b 1 1]∘JA ai9) λv x=>(JV eX aN) λh=>(aI∘bg 1∘eF eX O0∘fu #[vI n,vI 1,vQ 0,vS d 1 1,vS f 1 1,vS g 1 1,vN,vS b 1 1]∘fu #[vB 2,vB 0,vI 0,vI 7,vN]∘JU Fb #[vB 2,vB 0,vI 0,vI 7,vN]) λp e=>(fu #[vI n,vI 1,vQ 0,vS d 1 1,vS f 1 1,vS g 1 1,vN,vS b 1 1,vS e 1 1]∘JV dn wo) λj=>(jh∘aQ) λa Z k=>?_
 exact jc rfl Z (.cellS (i:=7) Z k rfl rfl dn rfl) (LZ l (k.pk (fs':=[.blk d #[vI 0,vI 1] 198,.blk f #[vI 0] 3,.blk g #[vI 0] 3,.blk b #[vS c 1 1] 176,.blk c #[vQ 0,vW 0,vQ 0] 200,.blk e #[vB 2,vB 0,vI 0,vI 7,vN] 85]) [6,5,4,2,3,0]))
def qx1 (B:Nat) (w:ajg) (a:aR B w) (b:B<=w.heap.size):Calls abt 16 #[vN] w (mI w 0 mR):=by
 have h:=WI none 0 [] B w a b Rd.nil (λp c=>by cases c) (abx _) (abC _)
 rwa [show oH (List.map Pm.v [])=(mR,0) from Ce.1] at h
def zbu (A:ajq) (c:Nat) (p:Pm) (hs:dI (lG 1) p.z) (a:p.q.map ac2=[kX 7]) (B:Nat) (w:ajg) (d:aR B w) (e:B<=w.heap.size) (hr:Rd w w.heap.size 9 A 1 ([p].flatMap iJ)) (f:∀x∈[p],fF x/\gM w x) (hc:1<=c):Calls abt 16 #[.slice A 1 c] w (mI w 0 dU):=by
 have h:=WI A c [p] B w d e hr f hc (by show 1<=100000;decide)
 rwa [show oH (List.map Pm.v [p])=(dU,0) from (zay (.cons (oW hs a) .nil)).trans zgp] at h
def q4b (A:ajq) (c:Nat) (p q:Pm) (hs:dI (lG 1) p.z) (e:p.q.map ac2=[kX 7]) (a:dI (lG 0) q.z) (d:q.q.map ac2=[kX 7]) (B:Nat) (w:ajg) (f:aR B w) (g:B<=w.heap.size) (hr:Rd w w.heap.size 9 A 2 ([p,q].flatMap iJ)) (h:∀x∈[p,q],fF x/\gM w x) (hc:2<=c):Calls abt 15 #[.slice A 2 c] w (Is w (.tuple #[vI 1,vI 330])):=
 WG A c [p,q] B w f g hr h hc (by show 2<=1000000;decide) ((V9 (.cons (oW hs e) (.cons (oW a d) .nil))).trans Lu)
def qu1 (A:ajq) (c:Nat) (p q s:Pm) (hs:dI (lG 1) p.z) (g:p.q.map ac2=[kX 7]) (a:dI (lG 5) q.z) (d:q.q.map ac2=[kX 7]) (e:dI (lG 4) s.z) (f:s.q.map ac2=[kX 7]) (B:Nat) (w:ajg) (h:aR B w) (i:B<=w.heap.size) (hr:Rd w w.heap.size 9 A 3 ([p,q,s].flatMap iJ)) (j:∀x∈[p,q,s],fF x/\gM w x) (hc:3<=c):Calls abt 15 #[.slice A 3 c] w (Is w (.tuple #[vI 2,vI 411])):=
 WG A c [p,q,s] B w h i hr j hc (by show 3<=1000000;decide) ((V9 (.cons (oW hs g) (.cons (oW a d) (.cons (oW e f) .nil)))).trans Lv)
def zbv (A:ajq) (c:Nat) (B:Nat) (w:ajg) (a:aR B w) (b:B<=w.heap.size) (hr:Rd w w.heap.size 1 A 39 (dU.map B8)) (hc:39<=c):Calls abt 18 #[.slice A 39 c] w (FY w ([⟨1,11,26,39⟩],0)):=by
 have h:=PS A c dU B w a b (by rw [rM];exact hr) (by rw [rM];exact hc) (by rw [rM];decide) uf
 rwa [rM,zjf] at h
def q4c (A:ajq) (c:Nat) (B:Nat) (w:ajg) (a:aR B w) (b:B<=w.heap.size) (hr:Rd w w.heap.size 1 A 40 ((dU++[0]).map B8)) (hc:40<=c):Calls abt 18 #[.slice A 40 c] w (FY w ([],410)):=by
 have e:abr (dU++[0])=40:=by rw [abu,rM];rfl
 have h:=PS A c (dU++[0]) B w a b (by rw [e];exact hr) (by rw [e];exact hc) (by rw [e];decide) zqu
 rwa [e,zn2] at h
theorem q00 (A:ajq) (c:Nat) (B:Nat) (w:ajg) (a:aR B w) (b:B<=w.heap.size) (hr:Rd w w.heap.size 1 A 39 (dU.map B8)) (hc:39<=c) {n v:Int} {e:Nat} (d:aX n) (f:kM dU n=(v,e)):Calls abt 40 #[.slice A 39 c,vI n] w (Is w (.tuple #[vI v,vI e])):=by
 have h:=zbs A c dU B w a b (by rw [rM];exact hr) (by rw [rM];exact hc) (by rw [rM];decide) uf n d
 rwa [rM,f] at h
theorem zbw (A:ajq) (c:Nat) (B:Nat) (w:ajg) (a:aR B w) (b:B<=w.heap.size) (hr:Rd w w.heap.size 1 A 39 (dU.map B8)) (hc:39<=c):Calls abt 20 #[.slice A 39 c,vI 0] w (Ma w):=by
 have h:=PW A c dU B w a b (by rw [rM];exact hr) (by rw [rM];exact hc) (by rw [rM];decide) uf 0 (by unfold aX;decide)
 rw [rM] at h
 exact h.mono λ_ _=>zn5
def zbx (A:ajq) (c:Nat) (B:Nat) (w:ajg) (a:aR B w) (b:B<=w.heap.size) (hr:Rd w w.heap.size 1 A 39 (dU.map B8)) (hc:39<=c):Calls abt 20 #[.slice A 39 c,vI 1] w (λr d=>∃p:Pm,r= .returned (.tuple #[.agg p.cells,vI 2])/\Below w.heap.size w d):=by
 have h:=PW A c dU B w a b (by rw [rM];exact hr) (by rw [rM];exact hc) (by rw [rM];decide) uf 1 (by unfold aX;decide)
 rw [rM] at h
 exact h.mono λ_ _=>zhb
abbrev aiN:=λa b c d e f g h i j k l=>(.row (vS a 1 b) 1 c 85 5::.row (vS d 1 e) 1 ([(⟨1,11,26,39⟩:Pl)].flatMap gU) 57 4::.row (.slice f 39 g) 39 (dU.map B8) 5 1::.blk h i 53::.row (.slice j 8 k) 8 (mR.map B8) 5 1::l:List ajr)
def qx2 (B:Nat) (w:ajg) (I:aR B w) (s:B<=w.heap.size):
    Calls abt 13 #[] w (Is w (.bool true)):=by
 refine (JN0 Tryz.func13 172) ?_
 refine (aM 1∘Jr∘JK (h:=by exact λm=>qx1 B _ (I.mem m s) (m.le s))) λC t QJ L=>?_
 replace L:8<=t:=L
 refine (Jp 1∘Jx∘Jx∘Jp 2∘Jr∘JL (h:=by exact λm=>F7 1 (by unfold aX;decide) _)) ?_
 rintro m _ J4 ⟨D,rfl,WR,WS,WT,hm⟩
 refine ⟨_,rfl,_,(show Mem w J4 (.row (.slice C 8 t) 8 (mR.map B8) 5 1::(jd D++([]))) from m.jZ (T:=[]) 1 hm rfl),?_⟩
 refine (JU nJ D.cells) λFx F=>(JK (h:=by exact λm=>zbu (some ⟨F,0,none⟩) 1 D WR WS B _ (I.mem m s) (m.le s) (m.bE (i:=0) (n:=1) (size:=9) rfl rfl) (znz WT (m.PV 2 rfl)) de)) λp o EX r=>?_
 replace r:39<=o:=r
 refine (Jp 1∘Jx∘Jx∘Jp 2∘Jq∘JC (h:=by exact λm=>(show Mem w _ [.row (.slice p 39 o) 39 (dU.map B8) 5 1,.blk F D.cells 53,.row (.slice C 8 t) 8 (mR.map B8) 5 1] from m.mJ (aeA _ _)))∘JG∘aM 1∘JK (h:=by exact λm=>zbv p o B _ (I.mem m s) (m.le s) (m.rd (i:=0) rfl) r)) λA33 J GL avP=>(Jp 1∘Jx∘Jx∘Jp 2∘bg 1∘JI (h:=by exact λm=>q00 p o B _ (I.mem m s) (m.le s) (m.rd (i:=1) rfl) r (by unfold aX;decide) L8.1)) λQI E=>(Jp 1∘Jx∘Jx∘Jp 2∘bg 1∘JI (h:=by exact λm=>q00 p o B _ (I.mem m s) (m.le s) (m.rd (i:=1) rfl) r (by unfold aX;decide) L8.2.1)) λSl E=>(Jp 1∘Jx∘Jx∘Jp 2∘aI∘bg 1∘JL (h:=by exact λm=>zbw p o B _ (I.mem m s) (m.le s) (m.rd (i:=1) rfl) r)) ?_
 rintro m _ C9 ⟨z,M,cl,hx,rfl,hxb,hm⟩
 refine ⟨_,rfl,_,m.join hm,?_⟩
 refine (Jp 1∘Jx∘Jx∘JA #[vI 0,vI 0,vQ 0,vN,vN,vN,vN,vN,vN]) λvD K=>(JV dn aN) λavQ=>(Jp 1∘bg 1∘JL (h:=by exact λm=>zbx p o B _ (I.mem m s) (m.le s) (m.rd (i:=3) rfl) r)) ?_
 rintro m _ YO ⟨y,rfl,E⟩
 refine ⟨_,rfl,_,m.call E,?_⟩
 refine (Jp 1∘Jx∘Jx∘JA #[vI 0,vI 0,vQ 0,vN,vN,vN,vN,vN,vN]) λwB P=>(JV dn aN (h1:=by exact yZ y)) λRy=>(Jp 1∘aI∘Jj∘JQ∘JP∘Jv 20 [(75,.slice C 8 t),(74,.bool false)]∘Jl∘Jv 4 [(80,.slice C 8 t),(79,.bool false)]∘Jy (h:=by exact aah bD (j:=4) rfl rfl rfl om)∘Jy (h:=by exact aaG rfl rfl (λ_ h=>zn4 (h.rd (i:=6) rfl) rfl))∘Jp 3) (Ju (λG=>?_) λG=>?_)
 ·
  rw [show ((j6 [113,97,1,0]).toList==(abB #[113,97,1,0]).toList)=true from X7 [113,97,1,0]] at G;cases G
 refine (Jp 1∘Jl∘Jv 4 [(91,.slice p 39 o),(90,.bool false)]∘Jy (h:=by exact aah bD (j:=7) rfl rfl rfl om)∘Jy (h:=by exact aaG rfl rfl (λ_ h=>zn3 (h.rd (i:=4) rfl) rfl))∘Jp 3) (Ju (λH=>?_) λH=>?_)
 ·
  rw [show ((j6 [113,97,1,1,1,15,13]).toList==(abB #[113,97,1,1,1,15,13]).toList)=true from X7 [113,97,1,1,1,15,13]] at H;cases H
 refine (Jp 1∘Jl∘Jv 4 [(102,.slice A33 1 J),(101,.bool false)]) ?_
 repeat (first|clear Z|clear m)
 intro a Z m
 obtain ⟨u,rfl⟩:=m.rat 3 0 (hk:=show 0<1 from by omega)
 refine Jb Z m ((Jy (v:=vP u 0) (h:=by exact Yl.indexAddr (ad:=⟨u,0,none⟩) (y:=0) (sz:=4) rfl rfl rfl om kr)∘Jy (v:= .agg ((⟨1,11,26,39⟩:Pl).cells)) (h:=by exact Pe rfl rfl kL rfl (λ_ h=>h.zB rY (i:=3) rfl ((show [(⟨1,11,26,39⟩:Pl)][0]?=some _ from rfl))))∘fu #[vI 1,vI 11,vI 26,vI 39]∘Jy (v:= .bool false) (h:=by exact aax (b:=true) rfl rfl rfl Mc)∘Jv 6 [(112,.bool false)]∘Jf 0∘Jg 0 O1∘Jv 3 [(118,.bool false)]∘Jg 8 O1∘Jl∘Jv 3 [(124,.bool false)]∘Jg 8 O1∘Jy (v:=vP M 0) (h:=by exact Yl.indexAddr (ad:=⟨M,0,none⟩) (y:=0) (sz:=5) rfl rfl rfl om kr)∘Jf 3∘Jy (v:=vI hx.b.next) (h:=by exact Pd rfl rfl kr (λ_ h=>h.qv Hw (i:=2) rfl (k:=0) (off:=3) (x:=hx) ((show [hx][0]?=some _ from rfl)) rfl))∘Jo (vI 7) (by rw [hxb];try rfl)∘Jv 2 [(131,.bool false)]∘aI∘Jq) λa Z m=>?_)
 replace Z:=Z.to [(131,.bool false),(11,vP K 0),(3,.slice p 39 o),(0,.bool false)]
 refine Jb Z m ((JG∘aP∘JP∘JL (h:=by exact λm=>F7 1 (by unfold aX;decide) _)) ?_)
 rintro m _ WU ⟨e,rfl,Q,R,S,hm⟩
 refine ⟨_,rfl,_,(show Mem w WU (.blk P y.cells 53::.blk K #[vI 1,vI z.au,vQ z.aj,abo z.gA z.gs z.gc,abo z.lA z.cl z.lc,abo z.uA z.cu z.uc,abo z.tA z.ts z.tc,abo z.sA z.rs z.sc,vS M 1 cl] 53::aiN M cl ([hx].flatMap hbL) u J p o F D.cells C t (jd e++([]))) from m.jZ (T:=[]) 7 hm rfl),?_⟩
 refine (JL (h:=by exact λm=>F7 0 (by unfold aX;decide) _)) ?_
 rintro m _ D5 ⟨g,rfl,U,V,W,hm⟩
 refine ⟨_,rfl,_,(show Mem w D5 (.blk P y.cells 53::.blk K #[vI 1,vI z.au,vQ z.aj,abo z.gA z.gs z.gc,abo z.lA z.cl z.lc,abo z.uA z.cu z.uc,abo z.tA z.ts z.tc,abo z.sA z.rs z.sc,vS M 1 cl] 53::aiN M cl ([hx].flatMap hbL) u J p o F D.cells C t (jd g++(jd e++([])))) from m.jZ (T:=jd e++([])) 7 hm rfl),?_⟩
 refine (JU nJ #[vI e.z.next,vI e.z.st.au,vQ e.z.st.aj,abo e.z.st.gA e.z.st.gs e.z.st.gc,abo e.z.st.lA e.z.st.cl e.z.st.lc,abo e.z.st.uA e.z.st.cu e.z.st.uc,abo e.z.st.tA e.z.st.ts e.z.st.tc,abo e.z.st.sA e.z.st.rs e.z.st.sc,abo e.A e.q e.c,vI g.z.next,vI g.z.st.au,vQ g.z.st.aj,abo g.z.st.gA g.z.st.gs g.z.st.gc,abo g.z.st.lA g.z.st.cl g.z.st.lc,abo g.z.st.uA g.z.st.cu g.z.st.uc,abo g.z.st.tA g.z.st.ts g.z.st.tc,abo g.z.st.sA g.z.st.rs g.z.st.sc,abo g.A g.q g.c]) λavR N=>(JI (h:=by exact λm=>q4b (some ⟨N,0,none⟩) 2 e g Q R U V B _ (I.mem m s) (m.le s) (m.bE (i:=0) (n:=2) (size:=9) rfl rfl) (zn0 S (m.L6 8 rfl) W (m.PV 8 rfl)) de)) λavS E=>(Jp 1∘Jx∘Jx∘Jp 2∘Jq∘JC (h:=by exact λm=>(show Mem w _ (.blk N #[vI e.z.next,vI e.z.st.au,vQ e.z.st.aj,abo e.z.st.gA e.z.st.gs e.z.st.gc,abo e.z.st.lA e.z.st.cl e.z.st.lc,abo e.z.st.uA e.z.st.cu e.z.st.uc,abo e.z.st.tA e.z.st.ts e.z.st.tc,abo e.z.st.sA e.z.st.rs e.z.st.sc,abo e.A e.q e.c,vI g.z.next,vI g.z.st.au,vQ g.z.st.aj,abo g.z.st.gA g.z.st.gs g.z.st.gc,abo g.z.st.lA g.z.st.cl g.z.st.lc,abo g.z.st.uA g.z.st.cu g.z.st.uc,abo g.z.st.tA g.z.st.ts g.z.st.tc,abo g.z.st.sA g.z.st.rs g.z.st.sc,abo g.A g.q g.c] 53::.blk P y.cells 53::.blk K #[vI 1,vI z.au,vQ z.aj,abo z.gA z.gs z.gc,abo z.lA z.cl z.lc,abo z.uA z.cu z.uc,abo z.tA z.ts z.tc,abo z.sA z.rs z.sc,vS M 1 cl] 53::aiN M cl ([hx].flatMap hbL) u J p o F D.cells C t []) from m.mJ (aeA _ _)))∘JC (h:=by exact λm=>m.pk [5])∘JG∘JP∘JL (h:=by exact λm=>F7 1 (by unfold aX;decide) _)) ?_
 rintro m _ WV ⟨d,rfl,X,Y,Md,hm⟩
 refine ⟨_,rfl,_,(show Mem w WV (.row (.slice p 39 o) 39 (dU.map B8) 5 1::(jd d++([]))) from m.jZ (T:=[]) 1 hm rfl),?_⟩
 refine (JL (h:=by exact λm=>F7 5 (by unfold aX;decide) _)) ?_
 rintro m _ DT ⟨f,rfl,Me,Mf,Mg,hm⟩
 refine ⟨_,rfl,_,(show Mem w DT (.row (.slice p 39 o) 39 (dU.map B8) 5 1::(jd f++(jd d++([])))) from m.jZ (T:=jd d++([])) 1 hm rfl),?_⟩
 refine (JL (h:=by exact λm=>F7 4 (by unfold aX;decide) _)) ?_
 rintro m _ Mh ⟨l,rfl,Mi,Mj,Mk,hm⟩
 refine ⟨_,rfl,_,(show Mem w Mh (.row (.slice p 39 o) 39 (dU.map B8) 5 1::(jd l++(jd f++(jd d++([]))))) from m.jZ (T:=jd f++(jd d++([]))) 1 hm rfl),?_⟩
 refine (JU nJ #[vI d.z.next,vI d.z.st.au,vQ d.z.st.aj,abo d.z.st.gA d.z.st.gs d.z.st.gc,abo d.z.st.lA d.z.st.cl d.z.st.lc,abo d.z.st.uA d.z.st.cu d.z.st.uc,abo d.z.st.tA d.z.st.ts d.z.st.tc,abo d.z.st.sA d.z.st.rs d.z.st.sc,abo d.A d.q d.c,vI f.z.next,vI f.z.st.au,vQ f.z.st.aj,abo f.z.st.gA f.z.st.gs f.z.st.gc,abo f.z.st.lA f.z.st.cl f.z.st.lc,abo f.z.st.uA f.z.st.cu f.z.st.uc,abo f.z.st.tA f.z.st.ts f.z.st.tc,abo f.z.st.sA f.z.st.rs f.z.st.sc,abo f.A f.q f.c,vI l.z.next,vI l.z.st.au,vQ l.z.st.aj,abo l.z.st.gA l.z.st.gs l.z.st.gc,abo l.z.st.lA l.z.st.cl l.z.st.lc,abo l.z.st.uA l.z.st.cu l.z.st.uc,abo l.z.st.tA l.z.st.ts l.z.st.tc,abo l.z.st.sA l.z.st.rs l.z.st.sc,abo l.A l.q l.c]) λavT O=>(JI (h:=by exact λm=>qu1 (some ⟨O,0,none⟩) 3 d f l X Y Me Mf Mi Mj B _ (I.mem m s) (m.le s) (m.bE (i:=0) (n:=3) (size:=9) rfl rfl) (zn1 Md (m.WE 2 rfl) Mg (m.L6 2 rfl) Mk (m.PV 2 rfl)) de)) λDU E=>(Jp 1∘Jx∘Jx∘Jp 2∘Jq∘JC (h:=by exact λm=>(show Mem w _ [.blk O #[vI d.z.next,vI d.z.st.au,vQ d.z.st.aj,abo d.z.st.gA d.z.st.gs d.z.st.gc,abo d.z.st.lA d.z.st.cl d.z.st.lc,abo d.z.st.uA d.z.st.cu d.z.st.uc,abo d.z.st.tA d.z.st.ts d.z.st.tc,abo d.z.st.sA d.z.st.rs d.z.st.sc,abo d.A d.q d.c,vI f.z.next,vI f.z.st.au,vQ f.z.st.aj,abo f.z.st.gA f.z.st.gs f.z.st.gc,abo f.z.st.lA f.z.st.cl f.z.st.lc,abo f.z.st.uA f.z.st.cu f.z.st.uc,abo f.z.st.tA f.z.st.ts f.z.st.tc,abo f.z.st.sA f.z.st.rs f.z.st.sc,abo f.A f.q f.c,vI l.z.next,vI l.z.st.au,vQ l.z.st.aj,abo l.z.st.gA l.z.st.gs l.z.st.gc,abo l.z.st.lA l.z.st.cl l.z.st.lc,abo l.z.st.uA l.z.st.cu l.z.st.uc,abo l.z.st.tA l.z.st.ts l.z.st.tc,abo l.z.st.sA l.z.st.rs l.z.st.sc,abo l.A l.q l.c] 53,.row (.slice p 39 o) 39 (dU.map B8) 5 1] from m.mJ (aeA _ _)))∘JC (h:=by exact λm=>m.pk [1])∘JG∘aM 1∘JU bD #[vB 0]) λavU avV=>(JD ([0].map B8) 1 (λ_ _=>gu) bD (hr:=by exact λm=>m.bE (i:=0) (n:=1) (size:=1) rfl rfl) (h1:=by decide)) λavW WW WX hc150=>(JL (h:=by exact λm=>q4c WW WX B _ (I.mem m s) (m.le s) (m.rd (i:=1) rfl) hc150)) ?_
 rintro m _ avX ⟨⟨avY,avZ,rfl,_,_⟩,E⟩
 refine ⟨_,rfl,_,m.call E,?_⟩
 exact (Jp 1∘Jx∘Jx∘Jp 2∘aI∘Jr∘Jv 19 [(0,.bool true)]∘aI∘aQ) sW
def Cg {P:aji} {f:Nat} {args:Array ajh} {b c:Bool} (h:Calls P f args w (Is w (.bool b))) (e:b=c):Calls P f args w (Is w (.bool c)):=e▸h
def zhj (x y:Pm) (r:fF x) (F:fF y) (s:yg x.v y.v) (w:ajg) (g:gM w x) (j:gM w y):
    Calls abt 21 #[.agg x.cells,.agg y.cells] w (Is w (.bool true)):=by
 refine (iQ Tryz.func21 40) ?_
 refine (JP∘JE) λU J=>(JE) λV K=>(Jp 1∘Jq) ?_
 have N:=r.len
 have O:abr x.q=abr y.q:=by have h:=congrArg acY s.2;rwa [show x.v.bs=x.q.map ac2 from rfl,show y.v.bs=y.q.map ac2 from rfl,abz,abz] at h
 refine (JG∘JQ∘JP∘Jf 0∘Jy (v:= .agg #[vI x.z.next,vI x.z.st.au,vQ x.z.st.aj,.slice x.z.st.gA (abr x.z.st.gs) x.z.st.gc,.slice x.z.st.lA (abr x.z.st.cl) x.z.st.lc,.slice x.z.st.uA (abr x.z.st.cu) x.z.st.uc,.slice x.z.st.tA (abr x.z.st.ts) x.z.st.tc,.slice x.z.st.sA (abr x.z.st.rs) x.z.st.sc]) (h:=by exact Pe rfl rfl zr rfl (λ_ h=>h.sub (i:=1) rfl 0 rfl))∘Jf 0∘Jy (v:= .agg #[vI y.z.next,vI y.z.st.au,vQ y.z.st.aj,.slice y.z.st.gA (abr y.z.st.gs) y.z.st.gc,.slice y.z.st.lA (abr y.z.st.cl) y.z.st.lc,.slice y.z.st.uA (abr y.z.st.cu) y.z.st.uc,.slice y.z.st.tA (abr y.z.st.ts) y.z.st.tc,.slice y.z.st.sA (abr y.z.st.rs) y.z.st.sc]) (h:=by exact Pe rfl rfl zr rfl (λ_ h=>h.sub (i:=0) rfl 0 rfl))∘JI (h:=by exact λd=>Cg (zby x.z y.z _ (g.st.old d) (j.st.old d) r.few F.few) (decide_eq_true s.1))) λP G=>(Jp 2∘Jg 8 O1∘Jl∘Jg 8 O0∘Jl∘Jp 2∘aI∘Jj) (Jh (λt=>?_) λt=>?_)
 ·
  intro a Z d
  exfalso;omega
 refine (aP∘JQ∘JP∘Jg 8 O1∘Jl∘bO 1∘JB) λa Z d=>?_
 refine qg (λM Q R=>∃(k:Nat),(k<=abr x.q)/\M=abr x.q-k/\Fr Q 40 [] [(24,vI k),(23,vI (abr x.q)),(20,.bool false),aiH,(3,vP K 0),(2,vP J 0)]/\Mem w R [.blk K y.cells 53,.blk J x.cells 53]) (m:=abr x.q-0) ⟨0,abC _,rfl,Z.sub kr,d.pk [0,1]⟩ ?_
 clear Z d;rintro M a W ⟨k,X,rfl,Z,d⟩
 refine Jb Z d ((cB 1∘JQ) (Ji (λu=>?_) λu=>?_))
 ·
  have l:k<abr x.q:=by omega
  have H:(x.q.getD k Hb.zero).b=(y.q.getD k Hb.zero).b:=Hz s.2 l
  refine (eP∘aM 2∘aL∘Jj) λa Z d=>?_
  refine wp_seq ?_
  refine Jb Z d ((Vs .n []) λS=>(Vf 0 8∘Vp [2]∘Vf 5 8∘Vp [7]∘Vc 1 O1) ?_)
  obtain ⟨B,C,o,_⟩:=Rd.sat g.bl k
  have e:=g.bl;rw [o] at e
  intro a Z d I
  replace Z:=Z.sp 28 (.slice (some ⟨B,C,none⟩) (abr x.q) x.c) rfl (by rw [o];try rfl)
  refine Vb Z d I ((oL 3 k 5∘Vy 4 (v:= .agg ((x.q.getD k Hb.zero).b.cells (x.q.getD k Hb.zero).A (x.q.getD k Hb.zero).c)) (h:=by exact Pe rfl rfl aG rfl (λ_ h=>(h.old e).vX Hw ((getD_at Hb.zero l))))∘Vc 6 O0) ?_)
  obtain ⟨D,E,p,_⟩:=Rd.sat j.bl k
  have f:=j.bl;rw [p] at f
  intro a Z d I
  replace Z:=Z.sp 33 (.slice (some ⟨D,E,none⟩) (abr y.q) y.c) rfl (by rw [p];try rfl)
  refine Vb Z d I ((oL 8 k 5∘Vy 9 (v:= .agg ((y.q.getD k Hb.zero).b.cells (y.q.getD k Hb.zero).A (y.q.getD k Hb.zero).c)) (h:=by exact Pe rfl rfl aG rfl (λ_ h=>(h.old f).vX Hw ((getD_at Hb.zero om))))∘VI 10 .n (h:=by exact λd=>Cg (zd0 (x.q.getD k Hb.zero).b (y.q.getD k Hb.zero).b ((x.q.getD k Hb.zero).A) ((y.q.getD k Hb.zero).A) (x.q.getD k Hb.zero).c (y.q.getD k Hb.zero).c _ (d.old (g.ev.at l)) (d.old (j.ev.at om)) (r.U6 _ (qf Hb.zero l))) (decide_eq_true H))) λT G=>(Vp [11]∘Vd∘aI∘aP∘JR∘dx 1∘Jp 1∘aL∘Jq) λa Z d=>?_)
  exact ⟨_,om,k+1,by omega,rfl,Z.sub kr,d.pk [0,1]⟩
 exact (JF∘JX∘JG∘bB 1) sW
section
variable {q:List Pm} {L:List Pl} {bs:List Nat} (h:iL q L bs) (A:ajq) (c BB:Nat) (w:ajg) (hL:aR BB w) (hB:BB<=w.heap.size) (hr:Rd w w.heap.size 1 A bs.length (bs.map B8)) (hc:bs.length<=c)
include h hL hB hr hc
theorem zbz:Calls abt 18 #[.slice A (abr bs) c] w (λr a=>(∃A c,r= .returned (.tuple #[.slice A (abr L) c,.int .i64 0])/\a.ownsRow w.heap.size 57 4 (.slice A (abr L) c) (abr L) (L.flatMap gU)/\abr L<=c)/\Below w.heap.size w a):=by
 have k:=PS A c bs BB w hL hB hr hc (by have:=h.wr.few;omega) h.lt
 rw [h.wr.idx] at k
 exact k
end
section
variable {q:List Pm} {L:List Pl} {bs c:List Nat} {k n:Nat} (h:iL q L bs) (hd:Cc q L bs c k) (hk:k<q.length) (h4:q.length<=1000) (hn:c.length=n) (A:ajq) (cp BB:Nat) (w:ajg) (hL:aR BB w) (hB:BB<=w.heap.size) (hr:Rd w w.heap.size 1 A n (c.map B8)) (hc:n<=cp)
include h hd hk h4 hn hL hB hr hc
theorem zhk:Calls abt 19 #[.slice A n cp] w (λr a=>∃(G:List Nat) (A:ajq) (c:Nat),(r= .returned (.tuple #[.slice A (abr G) c,vI 0])/\a.ownsRow w.heap.size 3 1 (.slice A (abr G) c) (abr G) (G.map bL))/\(abr G=abr q-1/\∀j,j<abr q-1->G.getD j 0=if j<k then j else j+1)/\Below w.heap.size w a):=by
 subst hn
 refine (zbr A cp c BB w hL hB hr hc (by have:=h.wr.few;have:=hd.len;omega) hd.lt).mono λr a e=>?_
 rw [zjp,hd.idx] at e
 rcases e with ⟨e,_⟩|⟨_,e⟩
 ·exact absurd rfl e
 ·rw [(q0y h hd hk).2] at e
  obtain ⟨⟨A,c,e1,e2,_⟩,e3⟩:=e
  exact ⟨_,A,c,⟨e1,e2⟩,⟨zbj,λj b=>zg3 b⟩,e3⟩
theorem zhl:Calls abt 17 #[.slice A n cp] w (Is w (.tuple #[vN,vI k,vI 341])):=by
 subst hn
 refine (zbq A cp c BB w hL hB hr hc (by have:=h.wr.few;have:=hd.len;omega) hd.lt).mono λr a e=>?_
 rw [zav,hd.idx,(q0y h hd hk).1] at e
 rcases e with ⟨e,_⟩|⟨_,b,e2,e,g⟩|⟨_,e,_⟩
 ·exact absurd rfl e
 ·injection e with e
  injection e with e1 e2
  subst e1 e2
  exact g
 ·cases e
theorem zhm:Calls abt 20 #[.slice A n cp,vI k] w (λr a=>(∃p:Pm,r= .returned (.tuple #[.agg p.cells,vI 341]))/\Below w.heap.size w a):=by
 subst hn
 refine (PW A cp c BB w hL hB hr hc (by have:=h.wr.few;have:=hd.len;omega) hd.lt (k:Int) (by unfold aX;omega)).mono ?_
 rintro r a ⟨p,rfl,_,_,hm⟩
 rw [zg5 h hd hk]
 exact ⟨⟨p,rfl⟩,hm.below⟩
theorem zhn {j:Nat} (d:j<abr q) (a:j≠k):Calls abt 20 #[.slice A n cp,vI j] w (λr g=>∃p:Pm,r= .returned (.tuple #[.agg p.cells,vI 0])/\yg p.v (q.getD j Pm.zero).v/\fF p/\Mem w g (jd p)):=by
 subst hn
 refine (PW A cp c BB w hL hB hr hc (by have:=h.wr.few;have:=hd.len;omega) hd.lt (j:Int) (by unfold aX;omega)).mono ?_
 rintro r g ⟨p,rfl,m,o,hm⟩
 have i:=zbk h hd d a
 have l:=m i
 rw [hd.idx] at l
 obtain ⟨z,e,f⟩:=Wt h hd d a
 obtain ⟨s,t⟩:=l z
 rw [i]
 exact ⟨p,rfl,⟨q2o (qto s) (qto e),by show p.q.map ac2=(q.getD j Pm.zero).q.map ac2;rw [t];exact f⟩,o,hm⟩
theorem zho:Calls abt 22 #[.slice A n cp,vI 0] w (λr d=>(∃(a:ajq) (b:Nat),r= .returned (.tuple #[.slice a (mQ q (abr q)) b,vI 0]))/\Below w.heap.size w d):=by
 subst hn
 refine (zb0 A cp c BB w hL hB hr hc (by have:=h.wr.few;have:=hd.len;omega) hd.lt 0 (by unfold aX;omega)).mono ?_
 rintro r d ⟨a,b,p,e,rfl,f,g,_,i,hm⟩
 obtain ⟨j,l⟩:=zg4 h hd hk
 rw [j] at f
 subst f
 have e2:=congrArg acY ((g rfl).trans l)
 rw [abz,abz,<-zg6] at e2
 rw [e2]
 exact ⟨⟨a,b,rfl⟩,hm.below⟩
end
def zn9 {P:aji} {x:Code} {Q:ajp->Act->ajg->Prop} {a:Act} (R:Act->ajg->Prop) (h:x.wp P (Exit.then R Q) a w) (k:∀a w,R a w->Q .normal a w):x.wp P Q a w:=
 Code.wp_mono (λe a w b=>by cases e<;>first|exact k _ _ b|exact b) h
def abg {b m:List ajr} (h:Mem W w (a++(m++b))):Mem W w (a++b):=h.mJ (ahw (aeH m b) a)
def abf {i:ajg} {b T:List ajr} (h:Mem W w (a++b)) (k:Mem w i T):Mem W i (a++(T++b)):=by
 refine (h.join k).perm ?_
 rw [<-aby,<-aby]
 exact List.Perm.append_right b acG
theorem Mem.Mq {F S:List ajr} (h:Mem W w F) (n:Nat) (a:F.drop n=S++dH q):∀p∈q,gM w p:=h.zq4 λ_ b=>abQ (a▸List.mem_append_right _ b)
theorem Mem.AA {F:List ajr} (h:Mem W w F) (n:Nat) (a:F.drop n=dH q):∀p∈q,gM w p:=h.zq4 λ_ b=>abQ (a▸b)
def zb2 {bs:List Nat} (A:ajq) (c:Nat) (l:List Pm) (B:Nat) (w:ajg) (hL:aR B w) (hB:B<=w.heap.size) (hr:Rd w w.heap.size 9 A (abr l) (l.flatMap iJ)) (d:∀p∈l,gM w p) (hc:abr l<=c) (hn:abr l<=100000) (a:iL l L bs):Calls abt 16 #[.slice A (abr l) c] w (mI w 0 bs):=by
 have k:=WI A c l B w hL hB hr (λp b=>⟨a.ok p b,d p b⟩) hc hn
 rw [a.wr.wr] at k
 exact k
abbrev aiK {α β γ:Type}:=λa b (c:List α) d e (f:List β) g h (i:List γ) j k l=>((15,vI a)::(72,.bool false)::(69,.bool false)::(13,vS b (abr c) d)::(11,vS e (abr f) g)::(9,abo h i j)::(39,.bool false)::(8,.bool false)::(3,vW k)::l:List (Nat×ajh))
def qni (A:ajq) (c:Nat) (l:List Ap) (B:Nat) (w:ajg) (hL:aR B w) (hB:B<=w.heap.size) (hr:Rd w w.heap.size 16 A (abr l) (l.flatMap F4)) (hP:∀x∈l,l7 w x) (hc:abr l<=c) (hn:abr l<=9223372036854775807) (wh:Nat) (hwh:wh<256) (N:Nat) (hat:N<65536) (o:Nat) (hpat:o<4294967296):
    Calls abt 4 #[.slice A (abr l) c,vB wh,.int .u16 (N:Int),vW o] w (Is w (.bool true)):=by
 refine (JN4 Tryz.func4 241) ?_
 refine (cB 1∘JQ∘JP∘JI (h:=by exact λe=>qx2 B _ (hL.mem e hB) (e.le hB))) λQI u=>(Jp 1∘aL∘Jj∘aP∘aM 1∘JL (h:=by exact λe=>q4g A c l _ (e.old hr) (λx hx=>(hP x hx).old e) hc hn)) ?_
 rintro e _ VT ⟨H,D,q,rfl,hqs,hqc,hm⟩
 refine ⟨_,rfl,_,(show Mem w VT (abq H q D iJ 53 9::dH q) from aaV e hm),?_⟩
 refine (Jp 1∘Jx∘Jx∘Jp 2∘Jq) ?_
 have Lm:=hqs.1
 have h4:abr (l.take 4)<=4/\abr (l.take 4)<=abr l:=by rw [abA];omega
 obtain ⟨L,bs,E⟩:=zqn hqs h4.2 h4.1 hP
 have hbl:=E.wr.few
 have hq4:abr q<=4:=by omega
 refine (JG∘aM 1∘JK (h:=by exact λe=>zb2 H D q B _ (hL.mem e hB) (e.le hB) (e.rd (i:=0) rfl) (e.AA 1 rfl) hqc om E)) λAx z w47 I=>(Jp 1∘Jx∘Jx∘Jp 2∘bg 1∘JK (h:=by exact λe=>zbz E Ax z B _ (hL.mem e hB) (e.le hB) (e.rd (i:=0) rfl) I)) λXl M w52 hxl=>(Jp 1∘Jx∘Jx∘bO 2∘JQ∘JP∘Jv 10 [(64,abo Xl L M),(63,.bool false)]∘Jl∘Jp 1∘Jl∘Jp 1∘Jo (.bool false) (by rw [E.len];simp)∘Jp 1∘aI∘Jj∘aP∘bM 1∘Jl∘Jp 1∘bU∘Jj) (Je (λDY=>?_) λDY=>?_)
 ·
  exact (JT∘bB 1) sW
 obtain ⟨k,hk0⟩:∃k,k=wh%abr q:=⟨_,rfl⟩
 have F:k<abr q:=by rw [hk0];exact Nat.mod_lt _ om
 obtain ⟨y,hy⟩:∃y,L.getD k Pl.zero=y:=⟨_,rfl⟩
 obtain ⟨_,hy8,awv,hye,hyb,_,_⟩:=znm E F rfl hy
 have hLl:=E.len
 obtain ⟨d,hd0⟩:∃d,d=N% (8*y.st-8*y.sn):=⟨_,rfl⟩
 have hdl:d<8*y.st-8*y.sn:=by rw [hd0];exact Nat.mod_lt _ om
 have hq1:(o|||1)<4294967296:=Nat.or_lt_two_pow (n:=32) hpat de
 refine (aP∘aM 1∘Jw .i64∘Jp 1∘Jl∘Jy (v:=vI (wh%abr q:Nat)) (h:=by exact aap (m:=wh) (n:=abr q) rfl rfl rfl om)∘Jo (vI k) (by rw [hk0])∘Jp 1∘kV∘Jj) λa Z e=>?_
 refine wp_seq ?_
 refine Jb Z e ((Vs .n []) λGQ=>(Vp [0,1,6,7]) ?_)
 repeat (first|clear Z|clear e|clear HS)
 intro a Z e HS
 obtain ⟨r,rfl⟩:=e.rat 0 k
 refine Vb Z e HS ((Vy 2 (h:=by exact Yl.iM r k 4 rfl rfl rfl)∘Vf 3 1∘Vy 4 (v:=vI ((L.getD k Pl.zero).sn)) (h:=by exact Pd rfl rfl kr (λ_ h=>h.qv rY (i:=0) rfl (k:=k) (off:=1) (x:=(L.getD k Pl.zero)) ((getD_at Pl.zero om)) rfl))∘Vo (vI y.sn) (by rw [hy])∘Vp [5]∘Vo (vI (8*y.sn:Nat)) (by exact q7 om om)∘Vp [12]∘Vy 8 (h:=by exact Yl.iM r k 4 rfl rfl rfl)∘Vf 9 2∘Vy 10 (v:=vI ((L.getD k Pl.zero).st)) (h:=by exact Pd rfl rfl kr (λ_ h=>h.qv rY (i:=0) rfl (k:=k) (off:=2) (x:=(L.getD k Pl.zero)) ((getD_at Pl.zero om)) rfl))∘Vo (vI y.st) (by rw [hy])∘Vp [11]∘Vo (vI (8*y.st:Nat)) (by exact q7 om om)∘Vp [13]∘Vd∘fK∘bM 2∘Jo (.bool false) (by exact congrArg abP (decide_eq_false om))∘Jp 3∘Jl∘Jp 1∘Jo (vI (8*abr bs:Nat)) (by exact q7 om om)∘Jp 1∘Jo (.bool false) (by exact congrArg abP (decide_eq_false om))∘Jp 5∘Jo (.bool false) (by exact congrArg abP (decide_eq_false om))∘Jp 1∘aI∘Jj∘aP∘aM 2∘Jw .i64∘Jp 3∘Jo (vI (8*y.st-8*y.sn:Nat)) (by exact q7 om om)∘Jy (v:=vI (N% (8*y.st-8*y.sn):Nat)) (h:=by exact aap (m:=N) (n:=(8*y.st-8*y.sn)) rfl rfl rfl om)∘Jo (vI d) (by rw [hd0])∘Ja∘Jp 1∘aI∘Jj∘bM 1∘Jq) λa Z e=>?_)
 replace e:=e.dw (i:=1) (ys:=(iB bs (8*y.sn+d) (8*y.st) (o|||1) 0).map B8) rfl rfl
 obtain ⟨t,hgO⟩:=zo (e.own (i:=1) rfl) om
 revert e;revert a;repeat (first|clear Z|clear e)
 intro a Z e
 subst hgO
 refine Jb Z e ((JG∘JB) λa Z e=>?_)
 refine qg (λQ R T=>∃(i:Nat),(i<=32)/\Q=32-i/\Fr R 241 [] (ah8 112 i 18 (8*y.sn+d:Nat) ((103,.bool false)::ah8 17 (8*y.st:Nat) 16 (8*y.sn:Nat) (aiK k r L M t bs z H q D o [])))/\Mem w T (aib r L M (L.flatMap gU)::.row (vS t (abr bs) z) (abr bs) ((iB bs (8*y.sn+d) (8*y.st) (o|||1) i).map B8) 5 1::abq H q D iJ 53 9::dH q)) (m:=32-0) ⟨0,abC _,rfl,Z.sub kr,e.pt 3 [0,1,2]⟩ ?_
 clear Z e;rintro Q a w_ ⟨i,hi,rfl,Z,e⟩
 refine Jb Z e ((cB 1∘JQ) (Ji (λU=>?_) λU=>?_))
 ·
  have awx:i<32:=by omega
  have hbl:=PN E.lt (8*y.sn+d) (8*y.st) (o|||1) i
  have hbn:=Ws bs (8*y.sn+d) (8*y.st) (o|||1) i
  have hbt:=PK ((8*y.sn+d)+i)
  have hsh:(o|||1)/2^i<4294967296:=Nat.lt_of_le_of_lt (Nat.div_le_self _ _) hq1
  refine (eP∘aM 2∘aL∘bg 2∘Ja∘Jp 1∘eO∘bg 4) (Ji (λV=>?_) λV=>?_)
  ·
   refine (Jp 2∘Jo (vW (o|||1:Nat)) (by exact X5 (m:=o) (n:=1) om om)∘Jp 1∘Jy (v:=vW ((o|||1)/2^i:Nat)) (h:=by exact aat (m:=(o|||1)) (n:=i) rfl rfl rfl (by show _<=32;omega))∘Jp 1∘Jo (vW (((o|||1)/2^i)%2:Nat)) (by exact Qp (n:=1) (j:=1) rfl de om)∘Jp 2∘aI∘Jj) (Je (λW=>?_) λW=>?_)
   ·
    refine (JT∘Vs .n [10]) λCW=>(Vp [0,1,5]∘Vp [2]∘Vo (vI ((8*y.sn+d+i)/8:Nat)) (by exact X0 .i64 8 (by show _<=9223372036854775807;omega))∘Vy 3 (h:=by exact Yl.iM t ((8*y.sn+d+i)/8) 1 rfl rfl rfl)∘VH (getD_lt hbl (k:=((8*y.sn+d+i)/8)) (by first|omega|(simp;omega)))) λhx3=>(Vy 4 (h:=by exact aae 1 ((8*y.sn+d+i)/8) 0 (by first|omega|(simp;omega)) rfl rfl rfl)∘Vp [6]∘Vo (vI ((8*y.sn+d+i)%8:Nat)) (by exact zi .i64 _ 8)∘Vy 7 (v:=vB (1*2^ ((8*y.sn+d+i)%8):Nat)) (h:=by exact aaC (m:=1) (n:=((8*y.sn+d+i)%8)) rfl rfl rfl (by show _<=8;omega) (by have:=PK ((8*y.sn+d)+i);show _<=255;omega))∘Vp [8]∘Vo (vB (((iB bs (8*y.sn+d) (8*y.st) (o|||1) i).getD ((8*y.sn+d+i)/8) 0)^^^ (1*2^ ((8*y.sn+d+i)%8)):Nat)) (by exact zon (m:=((iB bs (8*y.sn+d) (8*y.st) (o|||1) i).getD ((8*y.sn+d+i)/8) 0)) (n:=1*2^ ((8*y.sn+d+i)%8)) om om)∘Vy 9 (h:=by exact Yl.iM t ((8*y.sn+d+i)/8) 1 rfl rfl rfl)) λa Z e HS=>?_
    refine s_on Z 10 rfl ?_
    refine zj Z e (i:=1) rfl rfl rfl rfl kr rfl rfl (by simp only [abz];rw [Ws];omega) λW9 e=>?_
    replace e:=e.dw (i:=1) (ys:=(iB bs (8*y.sn+d) (8*y.st) (o|||1) (i+1)).map B8) rfl ((Gq B8 _ (((8*y.sn+d)+i)/8) _ om).trans (by rw [iB,if_pos ⟨by omega,by omega⟩,Nat.one_mul];rfl))
    refine dR kr ?_
    refine qe kr ?_
    refine Jb Z e ((JG∘JR∘dx 1∘Jp 1∘aI∘Jq) λa Z e=>?_)
    exact ⟨_,om,i+1,by omega,rfl,Z.sub kr,e.pt 3 [0,1,2]⟩
   refine (JC (h:=by exact λe=>e.dw (i:=1) (ys:=(iB bs (8*y.sn+d) (8*y.st) (o|||1) (i+1)).map B8) rfl (by rw [iB,if_neg om]))∘aP∘JR∘dx 1∘Jp 1∘aL∘Jq) λa Z e=>?_
   exact ⟨_,om,i+1,by omega,rfl,Z.sub kr,e.pt 3 [0,1,2]⟩
  refine (JC (h:=by exact λe=>e.dw (i:=1) (ys:=(iB bs (8*y.sn+d) (8*y.st) (o|||1) (i+1)).map B8) rfl (by rw [iB,if_neg om]))∘Jp 7∘aI∘Jj∘aP∘JR∘dx 1∘Jp 1∘aL∘Jq) λa Z e=>?_
  exact ⟨_,om,i+1,by omega,rfl,Z.sub kr,e.pt 3 [0,1,2]⟩
 obtain rfl:i=32:=by omega
 have s:=zqr (p:=o|||1) E F hy hdl (zns o)
 intro a Z e
 generalize iB bs (8*y.sn+d) (8*y.st) (o|||1) 32=C at e s
 refine Jb Z e ((JF∘JX∘JG∘aM 1∘JL (h:=by exact λe=>zhk E s F om s.len (some ⟨t,0,none⟩) z B _ (hL.mem e hB) (e.le hB) (e.rd (i:=1) rfl) I)) ?_)
 rintro e _ Mh ⟨G,X,J,⟨rfl,ho⟩,⟨Pb,hGa⟩,u⟩
 refine ⟨_,rfl,_,e.dh u ho,?_⟩
 refine (Jp 1∘Jx∘Jx∘Jp 2∘bg 1∘JI (h:=by exact λe=>zhl E s F om s.len (some ⟨t,0,none⟩) z B _ (hL.mem e hB) (e.le hB) (e.rd (i:=2) rfl) I)) λawz u=>(Jp 1∘Jx∘Jx∘Jx∘Jp 3∘bg 2∘JL (h:=by exact λe=>zhm E s F om s.len (some ⟨t,0,none⟩) z B _ (hL.mem e hB) (e.le hB) (e.rd (i:=2) rfl) I)) ?_
 rintro e _ awC ⟨⟨p0,rfl⟩,u⟩
 refine ⟨_,rfl,_,e.call u,?_⟩
 refine (Jp 1∘Jx∘Jx∘JA aja) λJ4 g26=>(JV dn aN (h1:=by exact yZ p0)) λafu=>(Jp 1∘aI∘Jj∘JQ∘JP∘Jv 4 [(160,abo X G J),(159,.bool false)]∘Jl∘Jp 1∘Jl∘zG 1∘Jp 1∘Jo (.bool false) (by rw [Pb];simp)∘Jp 5∘Jo (.bool false) (by simp)∘Jv 9 [(179,.bool false)]∘aI∘Jj∘aP∘bM 1∘Jl∘bO 1∘JB∘JM (.f .n)) λa Z e=>?_
 refine qg (λQ R T=>∃(j:Nat),(j<=abr G)/\Q=abr G-j/\Fr R 241 [] (ah8 182 j 181 (abr G) ((180,abo X G J)::(179,.bool false)::(21,abo X G J)::(113,.bool false)::(112,vI 32)::(18,vI (8*y.sn+d:Nat))::(103,.bool false)::ah8 17 (8*y.st:Nat) 16 (8*y.sn:Nat) (aiK k r L M t bs z H q D o [])))/\Mem w T (abp X G J bL 3 1::aib r L M (L.flatMap gU)::.row (vS t (abr bs) z) (abr bs) (C.map B8) 5 1::abq H q D iJ 53 9::dH q)) (m:=abr G-0) ⟨0,abC _,rfl,Z.sub kr,e.pt 4 [0,1,2,3]⟩ ?_
 clear Z e;rintro Q a w_ ⟨j,hj,rfl,Z,e⟩
 refine Jb Z e ((cB 1∘JQ) (Ji (λY=>?_) λY=>?_))
 ·
  have hjG:j<abr G:=by omega
  obtain ⟨g,hg⟩:∃g,G.getD j 0=g:=⟨_,rfl⟩
  have O:=hGa j om
  rw [hg] at O
  have Xa:g<abr q:=by rw [O];split<;>omega
  have hgk:g≠k:=by rw [O];split<;>omega
  obtain ⟨x,hx⟩:∃x,q.getD g Pm.zero=x:=⟨_,rfl⟩
  have hxm:x∈q:=by rw [<-hx];exact qf Pm.zero Xa
  have hxo:=E.ok x hxm
  refine (eP∘aM 1) ?_
  repeat (first|clear Z|clear e)
  intro a Z e
  obtain ⟨K,rfl⟩:=e.rat 0 j
  refine Jb Z e ((nP j 1∘Jy (v:=vI (G.getD j 0)) (h:=by exact aae 0 j 0 hjG rfl rfl rfl)∘Jo (vI g) (by rw [hg])∘Jp 2∘bg 2∘aL∘Jj∘bM 3∘bU∘Jj) λa Z e=>?_)
  refine zn9 (λR T=>∃(t3:Nat),(t3=g)/\Fr R 241 [] (ah8 29 g 28 j ((183,.bool true)::ah8 182 j 181 (abr G) ((180,vS K (abr G) J)::(179,.bool false)::(21,vS K (abr G) J)::(113,.bool false)::(112,vI 32)::(18,vI (8*y.sn+d:Nat))::(103,.bool false)::ah8 17 (8*y.st:Nat) 16 (8*y.sn:Nat) (aiK k r L M t bs z H q D o [(30,vI t3)]))))/\Mem w T (.row (vS K (abr G) J) (abr G) (G.map bL) 3 1::aib r L M (L.flatMap gU)::.row (vS t (abr bs) z) (abr bs) (C.map B8) 5 1::abq H q D iJ 53 9::dH q)) ?_ ?_
  ·
   refine Jb Z e (Ji (λMr=>?_) λMr=>?_)
   ·
    refine (JT∘JR∘Jp 1∘dx 1∘Jp 1∘bU∘Jq) λa Z e=>?_
    exact ⟨(j+1),by rw [O,if_neg om],Z.sub kr,e.pt 4 [0,1,2,3]⟩
   refine (JF∘JS) λa Z e=>?_
   exact ⟨j,by rw [O,if_pos om],Z.sub kr,e.pt 4 [0,1,2,3]⟩
  clear Z e;rintro a w_ ⟨t3,ht3,Z,e⟩
  refine Jb Z e ((JG∘aM 2∘JL (h:=by exact λe=>zhn E s F om s.len (some ⟨t,0,none⟩) z B _ (hL.mem e hB) (e.le hB) (e.rd (i:=2) rfl) I Xa hgk)) ?_)
  rintro e _ awF ⟨p,rfl,hpx,hpk,hm⟩
  rw [hx] at hpx
  refine ⟨_,rfl,_,abf (a:=[.row (vS K (abr G) J) (abr G) (G.map bL) 3 1,aib r L M (L.flatMap gU),.row (vS t (abr bs) z) (abr bs) (C.map B8) 5 1,abq H q D iJ 53 9]) (b:=dH q) e hm,?_⟩
  refine (Jp 1∘Jx∘Jx∘JA aja) λFa VL=>(JV dn aN (h1:=by exact yZ p)) λafv=>(bO 1) λa Z e=>?_
  refine wp_seq ?_
  refine Jb Z e ((Vs .n []) λawG=>(Vp [0,1]∘Vq [2] [(201,.bool ((g:Int) !=(t3:Int)))]∘Vo (.bool false) (by rw [ht3];simp)∘Vq [3,4,5,6,7,9,10] [(209,vI g),(208,abo H q D),(206,.bool false)]∘nR 8 dn O0) ?_)
  repeat (first|clear Z|clear e|clear HS)
  intro a Z e HS
  obtain ⟨P,rfl⟩:=e.rat 4 g
  refine Vb Z e HS ((Vy 11 (h:=by exact Yl.iM P g 9 rfl rfl rfl)∘Vy 12 (v:= .agg ((q.getD g Pm.zero).cells)) (h:=by exact Pe rfl rfl dn rfl (λ_ h=>h.zB OX (i:=4) rfl ((getD_at Pm.zero Xa))))∘Vo (.agg x.cells) (by rw [hx])∘VI 13 .n (h:=by exact λe=>zhj p x hpk hxo hpx _ (e.PV 5 rfl) (e.Mq (S:=jd p) 5 rfl x hxm))) λawH u=>(Vp [14,15]∘Vd∘aI∘aP∘JR∘dx 1∘Jp 1∘aL∘Jq) λa Z e=>?_)
  replace e:Mem w _ (.blk VL p.cells 53::.row (vS K (abr G) J) (abr G) (G.map bL) 3 1::aib r L M (L.flatMap gU)::.row (vS t (abr bs) z) (abr bs) (C.map B8) 5 1::.row (vS P (abr q) D) (abr q) (q.flatMap iJ) 53 9::dH q):=abg (a:=[.blk VL p.cells 53,.row (vS K (abr G) J) (abr G) (G.map bL) 3 1,aib r L M (L.flatMap gU),.row (vS t (abr bs) z) (abr bs) (C.map B8) 5 1,.row (vS P (abr q) D) (abr q) (q.flatMap iJ) 53 9]) (m:=jd p) (b:=dH q) e
  exact ⟨_,om,j+1,by omega,rfl,Z.sub kr,e.pt 5 [1,2,3,4]⟩
 refine (JF∘JX∘JG∘aM 1∘JL (h:=by exact λe=>zho E s F om s.len (some ⟨t,0,none⟩) z B _ (hL.mem e hB) (e.le hB) (e.rd (i:=2) rfl) I)) ?_
 rintro e _ awI ⟨⟨A1,c1,rfl⟩,u⟩
 refine ⟨_,rfl,_,e.call u,?_⟩
 refine (Jp 1∘Jx∘Jx∘Jp 2∘bg 1∘Jj∘bM 1∘Jl∘bO 1∘JB) λa Z e=>?_
 refine qg (λQ R T=>∃(m:Nat) (S:Nat),(m<=abr q)/\(S=mQ q m)/\(S<=m*1000000)/\Q=abr q-m/\Fr R 241 [] (ah8 223 m 222 (abr q) ((221,abo H q D)::(35,vI S)::(34,vI 0)::(33,.slice A1 (mQ q (abr q)) c1)::(183,.bool false)::ah8 182 j 181 (abr G) ((180,abo X G J)::(179,.bool false)::(21,abo X G J)::(113,.bool false)::(112,vI 32)::(18,vI (8*y.sn+d:Nat))::(103,.bool false)::ah8 17 (8*y.st:Nat) 16 (8*y.sn:Nat) (aiK k r L M t bs z H q D o []))))/\Mem w T (abp X G J bL 3 1::aib r L M (L.flatMap gU)::.row (vS t (abr bs) z) (abr bs) (C.map B8) 5 1::abq H q D iJ 53 9::dH q)) (m:=abr q-0) ⟨0,0,abC _,zbl.symm,abC _,rfl,Z.sub kr,e.pt 4 [0,1,2,3]⟩ ?_
 clear Z e;rintro Q a w_ ⟨m,S,hm,hS,hSb,rfl,Z,e⟩
 refine Jb Z e ((cB 1∘JQ) (Ji (λMs=>?_) λMs=>?_))
 ·
  have Xb:m<abr q:=by omega
  obtain ⟨v,hv⟩:∃v,q.getD m Pm.zero=v:=⟨_,rfl⟩
  have hvm:v∈q:=by rw [<-hv];exact qf Pm.zero Xb
  have hvl:=(E.ok v hvm).len
  refine (eP∘JP) ?_
  repeat (first|clear Z|clear e)
  intro a Z e
  obtain ⟨P,rfl⟩:=e.rat 3 m
  refine Jb Z e ((nP m 9∘Jy (v:= .agg ((q.getD m Pm.zero).cells)) (h:=by exact Pe rfl rfl dn rfl (λ_ h=>h.zB OX (i:=3) rfl ((getD_at Pm.zero Xb))))∘Jo (.agg v.cells) (by rw [hv])∘JA aja) λDi g37=>(JV dn aN (h1:=by exact yZ v)) λafw=>(bU∘Jj∘JR∘Jp 1∘Jg 8 O0∘Jl∘Ja∘Jp 1∘fK∘Jj∘JR∘dx 1∘Jp 1∘aL∘Jq) λa Z e=>?_)
  exact ⟨_,om,m+1,(S+abr v.q),by omega,by rw [znr Xb,hv,hS],by omega,rfl,Z.sub kr,e.pt 5 [1,2,3,4]⟩
 have hSa:S=mQ q (abr q):=by rw [hS,show m=abr q by omega]
 exact (JF∘JX∘JG∘JP∘Jv 4 [(236,.slice A1 (mQ q (abr q)) c1),(235,.bool true)]∘Jl∘Jp 2∘Jo (.bool true) (by rw [hSa];simp)∘Jp 2∘aI∘aQ) sW
end Go.Proofs.YtekiimhdnigmcaaGreatDoor
