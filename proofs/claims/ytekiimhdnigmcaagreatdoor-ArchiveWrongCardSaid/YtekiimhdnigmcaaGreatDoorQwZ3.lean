/- Parts. -/
import Derived.Test.YtekiimhdnigmcaaGreatDoorQwZ2
set_option linter.all false
set_option maxRecDepth 100000
set_option maxHeartbeats 1000000
namespace Go.Proofs.YtekiimhdnigmcaaGreatDoor
open Go.RowKit
open List renaming length→abk
open _root_.Go.Proofs.Tryz renaming prog→abl,func202→agP
open _root_.List renaming length_append→abm,getD_eq_getElem?_getD→abn,getElem?_eq_getElem→abt,length_take→abu,length_map→abv,getElem?_eq_some_iff→aby,append_assoc→abz,mem_of_getElem?→abF,length_set→abG,length_drop→abH,take_of_length_le→abI,flatMap_cons→abL,append_nil→abN,flatMap_append→abO,mem_cons→abQ,mem_or_eq_of_mem_set→abW,length_cons→abX,mem_cons_of_mem→ab2,take_append_drop→ab5,mem_map→acd,drop_of_length_le→acw,getElem_of_mem→acz,mem_cons_self→acB,getElem?_set_self→acJ,perm_middle→adj,append_inj→adr,length→adw,take_left→adP,set_set→ad5,pairwise_cons→aeb,getElem_mem→aei,takeWhile_sublist→aem,getElem?_set_ne→aex,takeWhile_cons→aez,takeWhile_append_dropWhile→aeP,map→afI,eraseIdx_sublist→afP,length_eraseIdx→afV
open Nat renaming le_refl→abo,zero_le→abx,lt_or_ge→acj,eq_zero_or_pos→acn,zero_add→aco,min_eq_left→ado,div_le_self→aeD,strongRecOn→ae6,min→afU,max_def→af3
open Bool renaming and_eq_true→abC,eq_iff_iff→acg,true_and→acF,or_eq_true→adE,not_eq_true'→adI
open Int renaming toNat_natCast→abD
open Value renaming bool→abS,oneCell'→acf,slice→aed,agg→aeO
open Builtin renaming zeroCells→abT
open Addr renaming add_mid→acT
open Extern.SlicesOverlaps renaming overlaps→adO
open Option renaming map_some→adW
open _root_.Array renaming getElem?_toList→afw
variable {w W:World} {r b d c i g m a e k f h n:Nat} {A:Option Addr} {x:aC} {α:Type} {F T fs:List Fact} {s:aY} {t:Tk} {l:List Tk} {be:Int}
def q2s (A:Option Addr) (n cp:Nat) (l:List Nat) (B:Nat) (w:World) (Q:aM B w) (D:B≤w.heap.size) (hr:Rd w w.heap.size 1 A n (l.map B8)) (hc:n≤cp) (hln:abk l=n) (hn:n≤9223372036854775807) (hl:∀b∈l,b<256) (hk1:iI l):
    Calls abl 134 #[.slice A n cp] w (OD 73 w (dz l)):=by
 refine (dY Tryz.func134 68) ?_
 refine (JP∘JA #[vB 0,vB 0,vI 0,vI 0,vN]) λw2 R=>(Jp 2∘Jr∘Jp 1∘JI (h:=by exact λc=>qym A n cp l _ (c.old hr) hln hn hl)) λwW E=>(Jp 1∘Jx∘Jx∘Jp 2∘Jj∘JQ∘JP∘Jp 2∘aK∘Jj) (Jh (λBp=>?_) λBp=>?_)
 ·
  refine (JT∘JP∘eH #[vB 0,vB 0,vI 0,vI 0,vN]∘Jp 1∘JV aL aU) λafH=>(Jp 2∘Jj∘JZ) λa Z c=>?_
  exact mX rfl Z (.cellS (i:=0) Z c rfl rfl aL rfl) (.tmp Z rfl) (.tmp Z rfl) (zM (q2o om) c.below)
 have C:(aV l).2=0:=by omega
 obtain ⟨v1,v2,v3,v4⟩:=WZ C
 obtain ⟨d,t⟩:∃x,x=l.take (aV l).1:=⟨_,rfl⟩
 have o:Rd w w.heap.size 1 A (aV l).1 (d.map B8):=by rw [t];exact hr.A8 om
 have p:∀b∈d,b<256:=by rw [t];exact uo hl _
 have F:abk d=(aV l).1:=by rw [t,abu];omega
 have hk7:d.getD 7 0≠1:=by rw [t];exact hk1.take _ 7 (abo 7)
 refine (JF∘aD∘JP∘Jp 2∘Jy (h:=by exact aaf aX (j:=(aV l).1) rfl rfl rfl om)∘Jp 1∘dU∘Jq) ?_
 obtain ⟨gA,g,rfl,_⟩:=o.sat 0
 refine (JG∘JQ∘JB∘JP∘Jp 1∘JI (h:=by exact λc=>Ou _ (aV l).1 cp d B _ (Q.mem c D) (c.le D) (c.old o) om F om p)) λKI E=>(Jp 2∘dU∘Jj) (Ju (λM=>?_) λM=>?_)
 ·
  have hs:zn d=false:=by simpa using M
  refine (JT∘JP∘eH #[vB 0,vB 0,vI 0,vI 0,vN]∘JV aL aU) λOH=>(Jp 2∘Jj∘JZ) λa Z c=>?_
  exact mX rfl Z (.cellS (i:=0) Z c rfl rfl aL rfl) (.tmp Z rfl) (.tmp Z rfl) (zM (Bn C t (by unfold fP;rw [if_pos hs])) c.below)
 have hs:zn d=true:=by simpa using M
 refine (JF) λa Z c=>?_
 refine wp_seq ?_
 refine Jb Z c ((Vs .n []) λWi=>(Vp [0]∘Vy 1 (v:= .slice (if cp=4 then some ⟨gA,g,none⟩ else (some ⟨gA,g,none⟩:Option Addr).map (·.add (4*1))) (6-4) (cp-4)) (h:=by exact aal aX (i:=4) (j:=6) rfl rfl rfl rfl om om)∘Vo (.slice (some ⟨gA,g+4,none⟩) (6-4) (cp-4)) (by simp only [if_neg (show ¬cp=4 by omega),adW,acT,Nat.mul_one])∘Vy 2 (v:=vP gA (g+4)) (h:=by exact Yl.arrayAt (k:=2) rfl rfl kr om)∘Vy 3 (v:= .agg #[vB (d.getD 4 0),vB (d.getD 5 0)]) (h:=by exact Pe rfl rfl zJ rfl (λ_ h=>ziu (k:=4) (l:=d) (h.old o) om))∘Vy 4 (v:= .agg #[vB 113,vB 116]) (h:=by exact Pe rfl rfl zJ rfl (λ_ h=>q8r Q h D))∘Vy 5 (v:= .bool (!(((d.getD 4 0:Int)==(113:Int))&& ((d.getD 5 0:Int)==(116:Int))))) (h:=by exact aaU rfl rfl rfl kr kr)∘Vp [6]∘Vd∘aF) (Ju (λN=>?_) λN=>?_))
 ·
  simp only [adI,Bool.and_eq_false_iff,beq_eq_false_iff_ne] at N
  have G:¬(d.getD 4 0=113∧d.getD 5 0=116):=by omega
  refine (JT∘JP∘eH #[vB 0,vB 0,vI 0,vI 0,vN]∘JV aL aU) λOI=>(Jp 2∘Jj∘JZ) λa Z c=>?_
  exact mX rfl Z (.cellS (i:=0) Z c rfl rfl aL rfl) (.tmp Z rfl) (.tmp Z rfl) (zM (Bn C t (by unfold fP;rw [if_neg (by rw [hs];decide),if_pos G])) c.below)
 simp only [Bool.not_eq_false',abC,beq_iff_eq] at N
 have G:d.getD 4 0=113∧d.getD 5 0=116:=by omega
 refine (JF∘JP∘Jp 1∘Jy (v:=vP gA (g+6)) (h:=by exact Yl.indexAddr (ad:=⟨gA,g,none⟩) (y:=6) (sz:=1) rfl rfl rfl om kr)∘JH (getD_lt p (k:=6) (by first|omega|(simp;omega)))) λhx1=>(Jy (h:=by exact aad o 6 0 (by first|omega|(simp;omega)) rfl rfl)∘Jp 2∘gG∘Jj) (Jh (λhd34=>?_) λhd34=>?_)
 ·
  refine (JT∘JP∘eH #[vB 0,vB 0,vI 0,vI 0,vN]∘JV aL aU) λFg=>(Jp 2∘Jj∘JZ) λa Z c=>?_
  exact mX rfl Z (.cellS (i:=0) Z c rfl rfl aL rfl) (.tmp Z rfl) (.tmp Z rfl) (zM (Bn C t (by unfold fP;rw [if_neg (by rw [hs];decide),if_neg (λL=>L G),if_pos om])) c.below)
 refine (JF∘JP∘Jp 1∘Jy (v:=vP gA (g+7)) (h:=by exact Yl.indexAddr (ad:=⟨gA,g,none⟩) (y:=7) (sz:=1) rfl rfl rfl om kr)∘JH (getD_lt p (k:=7) (by first|omega|(simp;omega)))) λhx2=>(Jy (h:=by exact aad o 7 0 (by first|omega|(simp;omega)) rfl rfl)∘Jp 2) (Jh (λuF=>?_) λuF=>?_)
 ·
  refine (Jp 1∘Jy (v:=vP gA (g+7)) (h:=by exact Yl.indexAddr (ad:=⟨gA,g,none⟩) (y:=7) (sz:=1) rfl rfl rfl om kr)∘JH (getD_lt p (k:=7) (by first|omega|(simp;omega)))) λhx3=>(Jy (h:=by exact aad o 7 0 (by first|omega|(simp;omega)) rfl rfl)∘Jp 3∘aF∘Jq) λa Z c=>?_
  rcases hp:Dq (d.getD 7 0) ((d.take (abk d-4)).drop 8) with _|b
  ·
   refine Jb Z c (Jh (λO=>?_) λO=>?_)
   ·
    have r:d.getD 7 0≠1∧d.getD 7 0≠2:=by omega
    refine (JT∘JP∘eH #[vB 0,vB 0,vI 0,vI 0,vN]∘JV aL aU) λS=>(Jp 2∘Jj∘JZ) λa Z c=>?_
    exact mX rfl Z (.cellS (i:=0) Z c rfl rfl aL rfl) (.tmp Z rfl) (.tmp Z rfl) (zM (Bn C t (by unfold fP;rw [if_neg (by rw [hs];decide),if_neg (λL=>L G),if_neg om,if_pos r])) c.below)
   have r:d.getD 7 0=2:=by omega
   refine (JF∘aD) λa Z c=>?_
   refine zb (λT U=>∃(H:Array Value) (q:Nat),Fr T 68 [] [(8,.bool false),(7,vP q 0),(40,.bool false),(34,.bool false),(26,.bool false),(21,.bool false),(0,.slice (some ⟨gA,g,none⟩) ((aV l).1) cp),(15,.bool false),(6,vI ((aV l).2)),(5,vI ((aV l).1)),(4,vI 0),(3,vI 0),(2,vP R 0)]∧Mem w U [.blk q H 85,.blk R #[vB 0,vB 0,vI 0,vI 0,vN] 85]∧(H.size=5)∧(∀v∈H.toList,v.oneCell'=true)) ?_ ?_
   ·
    refine Jb Z c ((Vs .n [12]) λP=>(Vp [0,3,4]∘Vy 1 (v:=vP gA (g+7)) (h:=by exact Yl.indexAddr (ad:=⟨gA,g,none⟩) (y:=7) (sz:=1) rfl rfl rfl om kr)∘VH (getD_lt p (k:=7) (by first|omega|(simp;omega)))) λhx8=>(Vy 2 (h:=by exact aad o 7 0 (by first|omega|(simp;omega)) rfl rfl)∘EW 5 4∘Vy 6 (v:= .slice (if cp=8 then some ⟨gA,g,none⟩ else (some ⟨gA,g,none⟩:Option Addr).map (·.add (8*1))) (((aV l).1-4)-8) (cp-8)) (h:=by exact aal aX (i:=8) (j:=(aV l).1-4) rfl rfl rfl rfl om om)) λa Z c s=>?_)
    refine zd [7,11] kr rfl ?_
    refine all_cons ?_ ?_
    ·refine qt Z (i:=7) rfl rfl ?_
     refine kQ Z [vB (d.getD 7 0),.slice (if cp=8 then some ⟨gA,g,none⟩ else (some ⟨gA,g,none⟩:Option Addr).map (·.add (8*1))) (((aV l).1-4)-8) (cp-8)] rfl rfl ((zN (d.getD 7 0) r _ (((aV l).1-4)-8) (cp-8) ((d.take (abk d-4)).drop 8) B _ (Q.mem c D) (c.le D) (c.old (by rw [F];exact o.wP (i:=8) (j:=(aV l).1-4) om om om)) om (by rw [abH,abu];omega) om (wR (uo p _) _)).mono (λ_ _ h=>h.none hp)) ?_
     rintro _ J ⟨⟨H,rfl,u,h1⟩,E⟩
     refine ⟨_,rfl,?_⟩
     replace c:=c.call E
     clear Z;intro a Z
     refine ay (c.pk [0]) (λs=>?_)
     refine Vb Z c s ((Vp [8]∘Vx 9∘Vx 10∘VA 11 .n #[vB 0,vB 0,vI 0,vI 0,vN]) λV q=>λa Z c s=>?_)
     refine s_on Z 12 rfl (cZ Z c 0 rfl rfl rfl rfl rfl aL rfl u (h1) λm c=>?_)
     refine dM kr ?_
     refine ap Z (bO kr) [13] (bt 14 []) [(8,.bool false)] λa Z=>?_
     refine qd kr ?_
     exact ⟨H,q,Z.sub kr,c.pk [0,1],u,h1⟩
    refine all_cons ?_ all_nil
    refine qt Z (i:=11) rfl rfl ?_
    refine gT Z c #[vB 0,vB 0,vI 0,vI 0,vN] ?_
    clear Z c;intro a V q Z c
    refine ay (c.pk [1]) (λs=>?_)
    refine s_on Z 7 rfl ?_
    refine kQ Z [vB (d.getD 7 0),.slice (if cp=8 then some ⟨gA,g,none⟩ else (some ⟨gA,g,none⟩:Option Addr).map (·.add (8*1))) (((aV l).1-4)-8) (cp-8)] rfl rfl ((zN (d.getD 7 0) r _ (((aV l).1-4)-8) (cp-8) ((d.take (abk d-4)).drop 8) B _ (Q.mem c D) (c.le D) (c.old (by rw [F];exact o.wP (i:=8) (j:=(aV l).1-4) om om om)) om (by rw [abH,abu];omega) om (wR (uo p _) _)).mono (λ_ _ h=>h.none hp)) ?_
    rintro _ J ⟨⟨H,rfl,u,h1⟩,E⟩
    refine ⟨_,rfl,?_⟩
    replace c:=c.call E
    clear Z;intro a Z
    refine ay (c.pk [1]) (λs=>?_)
    refine Vb Z c s ((Vp [8]∘Vx 9∘Vx 10) λa Z c s=>?_)
    refine s_on Z 12 rfl (cZ Z c 0 rfl rfl rfl rfl rfl aL rfl u (h1) λm c=>?_)
    refine dM kr ?_
    refine ap Z (bO kr) [13] (bt 14 []) [(8,.bool false)] λa Z=>?_
    refine qd kr ?_
    exact ⟨H,q,Z.sub kr,c.pk [0,1],u,h1⟩
   clear Z c;rintro a W ⟨H,q,Z,c,u,h1⟩
   refine Jb Z c ((JQ∘JP∘Jp 2∘bG∘Jj∘JT∘JP∘eH #[vB 0,vB 0,vI 0,vI 0,vN]∘JV aL fO) λX=>(Jp 2∘Jj∘JZ) λa Z c=>?_)
   exact mX rfl Z (.cellS (i:=1) Z c rfl rfl aL rfl) (.tmp Z rfl) (.tmp Z rfl) (zM (Bn C t (by unfold fP;rw [if_neg (by rw [hs];decide),if_neg (λL=>L G),if_neg om,if_neg om,hp])) c.below)
  ·
   refine Jb Z c (Jh (λO=>?_) λO=>?_)
   ·
    have r:d.getD 7 0≠1∧d.getD 7 0≠2:=by omega
    refine (JT∘JP∘eH #[vB 0,vB 0,vI 0,vI 0,vN]∘JV aL aU) λS=>(Jp 2∘Jj∘JZ) λa Z c=>?_
    exact mX rfl Z (.cellS (i:=0) Z c rfl rfl aL rfl) (.tmp Z rfl) (.tmp Z rfl) (zM (Bn C t (by unfold fP;rw [if_neg (by rw [hs];decide),if_neg (λL=>L G),if_neg om,if_pos r])) c.below)
   have r:d.getD 7 0=2:=by omega
   refine (JF∘aD) λa Z c=>?_
   refine zb (λT U=>∃(K:Option Addr) (I:Nat) (q:Nat),Fr T 68 [] [(8,.bool true),(7,vP q 0),(40,.bool false),(34,.bool false),(26,.bool false),(21,.bool false),(0,.slice (some ⟨gA,g,none⟩) ((aV l).1) cp),(15,.bool false),(6,vI ((aV l).2)),(5,vI ((aV l).1)),(4,vI 0),(3,vI 0),(2,vP R 0)]∧Mem w U [.blk q (b.cells K I) 85,abj K b.evs I iw 73 11,.blk R #[vB 0,vB 0,vI 0,vI 0,vN] 85]∧(abk b.evs≤I)) ?_ ?_
   ·
    refine Jb Z c ((Vs .n [12]) λP=>(Vp [0,3,4]∘Vy 1 (v:=vP gA (g+7)) (h:=by exact Yl.indexAddr (ad:=⟨gA,g,none⟩) (y:=7) (sz:=1) rfl rfl rfl om kr)∘VH (getD_lt p (k:=7) (by first|omega|(simp;omega)))) λafJ=>(Vy 2 (h:=by exact aad o 7 0 (by first|omega|(simp;omega)) rfl rfl)∘EW 5 4∘Vy 6 (v:= .slice (if cp=8 then some ⟨gA,g,none⟩ else (some ⟨gA,g,none⟩:Option Addr).map (·.add (8*1))) (((aV l).1-4)-8) (cp-8)) (h:=by exact aal aX (i:=8) (j:=(aV l).1-4) rfl rfl rfl rfl om om)) λa Z c s=>?_)
    refine zd [7,11] kr rfl ?_
    refine all_cons ?_ ?_
    ·refine qt Z (i:=7) rfl rfl ?_
     refine Bd Z c [vB (d.getD 7 0),.slice (if cp=8 then some ⟨gA,g,none⟩ else (some ⟨gA,g,none⟩:Option Addr).map (·.add (8*1))) (((aV l).1-4)-8) (cp-8)] ((zN (d.getD 7 0) r _ (((aV l).1-4)-8) (cp-8) ((d.take (abk d-4)).drop 8) B _ (Q.mem c D) (c.le D) (c.old (by rw [F];exact o.wP (i:=8) (j:=(aV l).1-4) om om om)) om (by rw [abH,abu];omega) om (wR (uo p _) _)).mono (λ_ _ h=>h.some hp)) λK I J z c a Z=>?_
     refine ay (c.pk [1]) (λs=>?_)
     refine Vb Z c s ((Vp [8]∘Vx 9∘Vx 10∘VA 11 (.f .n) #[vB 0,vB 0,vI 0,vI 0,vN]) λV q=>λa Z c s=>?_)
     refine s_on Z 12 rfl (cZ Z c 0 rfl rfl rfl rfl rfl aL rfl rfl (tJ _ _ _) λm c=>?_)
     refine dM kr ?_
     refine ap Z (bO kr) [13] (bt 14 []) [(8,.bool true)] λa Z=>?_
     refine qd kr ?_
     exact ⟨K,I,q,Z.sub kr,c.pk [0,1,2],z⟩
    refine all_cons ?_ all_nil
    refine qt Z (i:=11) rfl rfl ?_
    refine gT Z c #[vB 0,vB 0,vI 0,vI 0,vN] ?_
    clear Z c;intro a V q Z c
    refine ay (c.pk [1]) (λs=>?_)
    refine Vb Z c s ((VK 7 (.f .n) (h:=by exact λc=>(zN (d.getD 7 0) r _ (((aV l).1-4)-8) (cp-8) ((d.take (abk d-4)).drop 8) B _ (Q.mem c D) (c.le D) (c.old (by rw [F];exact o.wP (i:=8) (j:=(aV l).1-4) om om om)) om (by rw [abH,abu];omega) om (wR (uo p _) _)).mono (λ_ _ h=>h.some hp))) λK I J z=>(Vp [8]∘Vx 9∘Vx 10) λa Z c s=>?_)
    refine s_on Z 12 rfl (cZ Z c 1 rfl rfl rfl rfl rfl aL rfl rfl (tJ _ _ _) λm c=>?_)
    refine dM kr ?_
    refine ap Z (bO kr) [13] (bt 14 []) [(8,.bool true)] λa Z=>?_
    refine qd kr ?_
    exact ⟨K,I,q,Z.sub kr,c.pk [1,0,2],z⟩
   clear Z c;rintro a W ⟨K,I,q,Z,c,z⟩
   refine Jb Z c ((JQ∘JP∘Jp 2∘bG∘Jj∘JF∘aD∘JP∘eF aL O0∘Jp 1∘JV aL iO (h1:=by exact tJ _ _ _)) λY=>(Jp 2∘Jj∘JZ) λa Z c=>?_)
   exact mX rfl Z (.cellS (i:=2) Z c rfl rfl aL rfl) (.tmp Z rfl) (.tmp Z rfl) (WV (WW (e:=0) C t (by unfold fP;rw [if_neg (by rw [hs];decide),if_neg (λL=>L G),if_neg om,if_neg om,hp])) (c.own (i:=1) rfl) z c.below)
 have r:d.getD 7 0=2:=by omega
 refine (Jp 6∘aF∘Jq) λa Z c=>?_
 rcases hp:Dq (d.getD 7 0) ((d.take (abk d-4)).drop 8) with _|b
 ·
  refine Jb Z c ((JG∘JF∘aD) λa Z c=>?_)
  refine zb (λT U=>∃(H:Array Value) (q:Nat),Fr T 68 [] [(8,.bool false),(7,vP q 0),(40,.bool false),(34,.bool false),(26,.bool false),(21,.bool false),(0,.slice (some ⟨gA,g,none⟩) ((aV l).1) cp),(15,.bool false),(6,vI ((aV l).2)),(5,vI ((aV l).1)),(4,vI 0),(3,vI 0),(2,vP R 0)]∧Mem w U [.blk q H 85,.blk R #[vB 0,vB 0,vI 0,vI 0,vN] 85]∧(H.size=5)∧(∀v∈H.toList,v.oneCell'=true)) ?_ ?_
  ·
   refine Jb Z c ((Vs .n [12]) λP=>(Vp [0,3,4]∘Vy 1 (v:=vP gA (g+7)) (h:=by exact Yl.indexAddr (ad:=⟨gA,g,none⟩) (y:=7) (sz:=1) rfl rfl rfl om kr)∘VH (getD_lt p (k:=7) (by first|omega|(simp;omega)))) λhx16=>(Vy 2 (h:=by exact aad o 7 0 (by first|omega|(simp;omega)) rfl rfl)∘EW 5 4∘Vy 6 (v:= .slice (if cp=8 then some ⟨gA,g,none⟩ else (some ⟨gA,g,none⟩:Option Addr).map (·.add (8*1))) (((aV l).1-4)-8) (cp-8)) (h:=by exact aal aX (i:=8) (j:=(aV l).1-4) rfl rfl rfl rfl om om)) λa Z c s=>?_)
   refine zd [7,11] kr rfl ?_
   refine all_cons ?_ ?_
   ·refine qt Z (i:=7) rfl rfl ?_
    refine kQ Z [vB (d.getD 7 0),.slice (if cp=8 then some ⟨gA,g,none⟩ else (some ⟨gA,g,none⟩:Option Addr).map (·.add (8*1))) (((aV l).1-4)-8) (cp-8)] rfl rfl ((zN (d.getD 7 0) r _ (((aV l).1-4)-8) (cp-8) ((d.take (abk d-4)).drop 8) B _ (Q.mem c D) (c.le D) (c.old (by rw [F];exact o.wP (i:=8) (j:=(aV l).1-4) om om om)) om (by rw [abH,abu];omega) om (wR (uo p _) _)).mono (λ_ _ h=>h.none hp)) ?_
    rintro _ J ⟨⟨H,rfl,u,h1⟩,E⟩
    refine ⟨_,rfl,?_⟩
    replace c:=c.call E
    clear Z;intro a Z
    refine ay (c.pk [0]) (λs=>?_)
    refine Vb Z c s ((Vp [8]∘Vx 9∘Vx 10∘VA 11 .n #[vB 0,vB 0,vI 0,vI 0,vN]) λV q=>λa Z c s=>?_)
    refine s_on Z 12 rfl (cZ Z c 0 rfl rfl rfl rfl rfl aL rfl u (h1) λm c=>?_)
    refine dM kr ?_
    refine ap Z (bO kr) [13] (bt 14 []) [(8,.bool false)] λa Z=>?_
    refine qd kr ?_
    exact ⟨H,q,Z.sub kr,c.pk [0,1],u,h1⟩
   refine all_cons ?_ all_nil
   refine qt Z (i:=11) rfl rfl ?_
   refine gT Z c #[vB 0,vB 0,vI 0,vI 0,vN] ?_
   clear Z c;intro a V q Z c
   refine ay (c.pk [1]) (λs=>?_)
   refine s_on Z 7 rfl ?_
   refine kQ Z [vB (d.getD 7 0),.slice (if cp=8 then some ⟨gA,g,none⟩ else (some ⟨gA,g,none⟩:Option Addr).map (·.add (8*1))) (((aV l).1-4)-8) (cp-8)] rfl rfl ((zN (d.getD 7 0) r _ (((aV l).1-4)-8) (cp-8) ((d.take (abk d-4)).drop 8) B _ (Q.mem c D) (c.le D) (c.old (by rw [F];exact o.wP (i:=8) (j:=(aV l).1-4) om om om)) om (by rw [abH,abu];omega) om (wR (uo p _) _)).mono (λ_ _ h=>h.none hp)) ?_
   rintro _ J ⟨⟨H,rfl,u,h1⟩,E⟩
   refine ⟨_,rfl,?_⟩
   replace c:=c.call E
   clear Z;intro a Z
   refine ay (c.pk [1]) (λs=>?_)
   refine Vb Z c s ((Vp [8]∘Vx 9∘Vx 10) λa Z c s=>?_)
   refine s_on Z 12 rfl (cZ Z c 0 rfl rfl rfl rfl rfl aL rfl u (h1) λm c=>?_)
   refine dM kr ?_
   refine ap Z (bO kr) [13] (bt 14 []) [(8,.bool false)] λa Z=>?_
   refine qd kr ?_
   exact ⟨H,q,Z.sub kr,c.pk [0,1],u,h1⟩
  clear Z c;rintro a W ⟨H,q,Z,c,u,h1⟩
  refine Jb Z c ((JQ∘JP∘Jp 2∘bG∘Jj∘JT∘JP∘eH #[vB 0,vB 0,vI 0,vI 0,vN]∘JV aL fO) λX=>(Jp 2∘Jj∘JZ) λa Z c=>?_)
  exact mX rfl Z (.cellS (i:=1) Z c rfl rfl aL rfl) (.tmp Z rfl) (.tmp Z rfl) (zM (Bn C t (by unfold fP;rw [if_neg (by rw [hs];decide),if_neg (λL=>L G),if_neg om,if_neg om,hp])) c.below)
 ·
  refine Jb Z c ((JG∘JF∘aD) λa Z c=>?_)
  refine zb (λT U=>∃(K:Option Addr) (I:Nat) (q:Nat),Fr T 68 [] [(8,.bool true),(7,vP q 0),(40,.bool false),(34,.bool false),(26,.bool false),(21,.bool false),(0,.slice (some ⟨gA,g,none⟩) ((aV l).1) cp),(15,.bool false),(6,vI ((aV l).2)),(5,vI ((aV l).1)),(4,vI 0),(3,vI 0),(2,vP R 0)]∧Mem w U [.blk q (b.cells K I) 85,abj K b.evs I iw 73 11,.blk R #[vB 0,vB 0,vI 0,vI 0,vN] 85]∧(abk b.evs≤I)) ?_ ?_
  ·
   refine Jb Z c ((Vs .n [12]) λP=>(Vp [0,3,4]∘Vy 1 (v:=vP gA (g+7)) (h:=by exact Yl.indexAddr (ad:=⟨gA,g,none⟩) (y:=7) (sz:=1) rfl rfl rfl om kr)∘VH (getD_lt p (k:=7) (by first|omega|(simp;omega)))) λafK=>(Vy 2 (h:=by exact aad o 7 0 (by first|omega|(simp;omega)) rfl rfl)∘EW 5 4∘Vy 6 (v:= .slice (if cp=8 then some ⟨gA,g,none⟩ else (some ⟨gA,g,none⟩:Option Addr).map (·.add (8*1))) (((aV l).1-4)-8) (cp-8)) (h:=by exact aal aX (i:=8) (j:=(aV l).1-4) rfl rfl rfl rfl om om)) λa Z c s=>?_)
   refine zd [7,11] kr rfl ?_
   refine all_cons ?_ ?_
   ·refine qt Z (i:=7) rfl rfl ?_
    refine Bd Z c [vB (d.getD 7 0),.slice (if cp=8 then some ⟨gA,g,none⟩ else (some ⟨gA,g,none⟩:Option Addr).map (·.add (8*1))) (((aV l).1-4)-8) (cp-8)] ((zN (d.getD 7 0) r _ (((aV l).1-4)-8) (cp-8) ((d.take (abk d-4)).drop 8) B _ (Q.mem c D) (c.le D) (c.old (by rw [F];exact o.wP (i:=8) (j:=(aV l).1-4) om om om)) om (by rw [abH,abu];omega) om (wR (uo p _) _)).mono (λ_ _ h=>h.some hp)) λK I J z c a Z=>?_
    refine ay (c.pk [1]) (λs=>?_)
    refine Vb Z c s ((Vp [8]∘Vx 9∘Vx 10∘VA 11 (.f .n) #[vB 0,vB 0,vI 0,vI 0,vN]) λV q=>λa Z c s=>?_)
    refine s_on Z 12 rfl (cZ Z c 0 rfl rfl rfl rfl rfl aL rfl rfl (tJ _ _ _) λm c=>?_)
    refine dM kr ?_
    refine ap Z (bO kr) [13] (bt 14 []) [(8,.bool true)] λa Z=>?_
    refine qd kr ?_
    exact ⟨K,I,q,Z.sub kr,c.pk [0,1,2],z⟩
   refine all_cons ?_ all_nil
   refine qt Z (i:=11) rfl rfl ?_
   refine gT Z c #[vB 0,vB 0,vI 0,vI 0,vN] ?_
   clear Z c;intro a V q Z c
   refine ay (c.pk [1]) (λs=>?_)
   refine Vb Z c s ((VK 7 (.f .n) (h:=by exact λc=>(zN (d.getD 7 0) r _ (((aV l).1-4)-8) (cp-8) ((d.take (abk d-4)).drop 8) B _ (Q.mem c D) (c.le D) (c.old (by rw [F];exact o.wP (i:=8) (j:=(aV l).1-4) om om om)) om (by rw [abH,abu];omega) om (wR (uo p _) _)).mono (λ_ _ h=>h.some hp))) λK I J z=>(Vp [8]∘Vx 9∘Vx 10) λa Z c s=>?_)
   refine s_on Z 12 rfl (cZ Z c 1 rfl rfl rfl rfl rfl aL rfl rfl (tJ _ _ _) λm c=>?_)
   refine dM kr ?_
   refine ap Z (bO kr) [13] (bt 14 []) [(8,.bool true)] λa Z=>?_
   refine qd kr ?_
   exact ⟨K,I,q,Z.sub kr,c.pk [1,0,2],z⟩
  clear Z c;rintro a W ⟨K,I,q,Z,c,z⟩
  refine Jb Z c ((JQ∘JP∘Jp 2∘bG∘Jj∘JF∘aD∘JP∘eF aL O0∘Jp 1∘JV aL iO (h1:=by exact tJ _ _ _)) λY=>(Jp 2∘Jj∘JZ) λa Z c=>?_)
  exact mX rfl Z (.cellS (i:=2) Z c rfl rfl aL rfl) (.tmp Z rfl) (.tmp Z rfl) (WV (WW (e:=0) C t (by unfold fP;rw [if_neg (by rw [hs];decide),if_neg (λL=>L G),if_neg om,if_neg om,hp])) (c.own (i:=1) rfl) z c.below)
theorem zf.as {er sH:Nat} {R R':List Nat} {r:Ending} (h:zf w er R r W) (h1:er=sH) (h2:R=R'):zf w sH R' r W:=by subst h1;subst h2;exact h
theorem q2v (b:Bk) (a:b.Ok) (A:Option Addr) (c B:Nat) (w:World) (d:aM B w) (e:B≤w.heap.size) (hr:Rd w w.heap.size 11 A (abk b.evs) (b.evs.flatMap iw)) (f:abk b.evs≤1000000) {er:Nat} {R:List Nat} (h1:b.err=er) (h2:b.out=R):Calls abl 106 #[.agg (b.cells A c)] w (zf w er R):=
 (WY b a A c B w d e hr f).mono λ_ _ h=>h.as h1 h2
def q80 (A:Option Addr) (n cp:Nat) (l:List Nat) (B:Nat) (w:World) (g:aM B w) (i:B≤w.heap.size) (hr:Rd w w.heap.size 1 A n (l.map B8)) (hc:n≤cp) (a:abk l=n) (j:n≤9223372036854775807) (k:∀b∈l,b<256) (d:iI l) {b:Bk} {m er:Nat} (h:dz l=(b,m,er)):
  Calls abl 134 #[.slice A n cp] w λr e=>(∃A c,r= .returned (.tuple #[.agg (b.cells A c),.int .i64 (m:Int),.int .i64 (er:Int)])∧e.ownsRow w.heap.size 73 11 (.slice A (abk b.evs) c) (abk b.evs) (b.evs.flatMap iw)∧abk b.evs≤c)∧Below w.heap.size w e:=
 (q2s A n cp l B w g i hr hc a j k d).mono λ_ _ f=>by rw [h] at f;exact f
def Bk.sz (b:Bk) (k:Nat):Nat:=12+abk (au b.cpu)+abk (au b.lost.toNat)+abk (au b.base.seq.toNat)+abk (au b.base.time.toNat)+abk (recs b.base (b.evs.take k))
def Bk.big (b:Bk) (k:Nat):Bool:=decide (4096<b.sz k+abk (au k))
def Bk.zk0 (b:Bk):Nat:=((List.range (abk b.evs)).find? λi=>b.big (i+1)).getD (abk b.evs)
def Bk.fill (b:Bk):Nat×Nat:=if b.fits=false then (0,107) else (b.zk0,0)
structure Sb where
 e:Bool
 cpu:Nat
 lost:Nat
 b:Bs
 l:List Sm
structure Sb.Ok (x:Sb):Prop where
 cpu:x.cpu<256
 lost:x.lost<4294967296
 b:x.b.Ok
 l:∀y∈x.l,y.Ok
def Sb.cells (x:Sb) (A:Option Addr) (c:Nat):Array Value:= #[.bool x.e,vB (x.cpu:Int),vW (x.lost:Int),vI x.b.seq,vI x.b.time,.slice A (abk x.l) c]
theorem zix (x:Sb) (A:Option Addr) (c:Nat):∀v∈(x.cells A c).toList,v.oneCell'=true:=by intro v a;simp [Sb.cells] at a;rcases a with rfl|rfl|rfl|rfl|rfl|rfl<;>rfl
theorem uK:SI abl 113 6:=⟨by kernel_rfl,by kernel_rfl⟩
def Sb.es (x:Sb):List Ev:=lu x.cpu x.b (x.l.take 60)
def Sb.made (x:Sb):Bk:=if x.e=true then ⟨2,0,0,1+dZ x.b.seq 281474976710657,[]⟩ else ⟨1,x.cpu%64,if abk x.es=0∧x.lost=0 then 1 else (x.lost:Int),0,x.es⟩
def Xz (w:World) (b:Bk) (r:Ending) (a:World):Prop:=
 (∃A c,r= .returned (.agg (b.cells A c))∧a.ownsRow w.heap.size 73 11 (.slice A (abk b.evs) c) (abk b.evs) (b.evs.flatMap iw)∧abk b.evs≤c)∧Below w.heap.size w a
def KV {b d:Bk} (h:b=d) (a:W.ownsRow w.heap.size 73 11 (.slice A (abk d.evs) c) (abk d.evs) (d.evs.flatMap iw)) (hc:abk d.evs≤c) (hb:Below w.heap.size w W):Xz w b (.returned (.agg (d.cells A c))) W:=by
 subst h;exact ⟨⟨A,c,rfl,a,hc⟩,hb⟩
def XA (x:Int):0≤dZ x 281474976710657∧dZ x 281474976710657≤281474976710656:=by unfold dZ;rw [if_neg om];omega
def OY {x:Sb} (h:x.Ok):∀y∈x.l.take 60,y.Ok:=λy a=>h.l y (List.mem_of_mem_take a)
def q85 {x:Sb} (h:x.Ok):Chain (x.cpu%64) none x.b.based x.es:=qte h.cpu x.b (OY h)
def ziy (x:Sb):abk x.es≤60:=by grind [Sb.es,qyo,lu]
def XB:∀(es:List Ev) (cpu:Nat) (p:Option Ev) (b:Bs),Chain cpu p b es→∀e∈es,e.Ok∧e.cpu=cpu
 |[],_,_,_,_,e,a=>by cases a
 |x::r,cpu,p,b,h,e,a=>by
  obtain ⟨h1,h2,h3,h4⟩:=h
  rcases abQ.1 a with rfl|a
  ·exact ⟨h1.ok,h2⟩
  ·exact XB r cpu _ _ h4 e a
def XC {x:Sb} (h:x.Ok):x.made.Ok∧x.made.err=0∧abk x.made.evs≤60:=by
 unfold Sb.made
 split
 ·have q:=XA x.b.seq
  have c:Bk.Ok ⟨2,0,0,1+dZ x.b.seq 281474976710657,[]⟩:=⟨by show 2<256;decide,by show 0<256;decide,by unfold aQ;simp,by unfold aQ;show _≤1+dZ _ _∧1+dZ _ _≤_;omega,by intro e k;cases k⟩
  have l:Bk.fits ⟨2,0,0,1+dZ x.b.seq 281474976710657,[]⟩=true:=by
   unfold Bk.fits
   rw [if_neg (by show ¬2=1;omega),if_pos rfl]
   unfold Bk.uD
   rw [decide_eq_true_eq]
   exact ⟨by show 1≤1+dZ _ _;omega,by show 1+dZ _ _≤_;omega,rfl,rfl,rfl⟩
  exact ⟨c,W9 l (by have:=Oy ⟨2,0,0,1+dZ x.b.seq 281474976710657,[]⟩;simp only [List.length_nil] at this;omega),by show 0≤60;omega⟩
 ·have d:=q85 h
  have f:=XB _ _ _ _ d
  have o:=ziy x
  have m:=h.lost
  have p:=OP x.b
  have g:=(Wu p.1 d).1
  obtain ⟨a,n,i,j⟩:∃a:Int,(if abk x.es=0∧x.lost=0 then 1 else (x.lost:Int))=a∧(0≤a∧a≤4294967296)∧(abk x.es=0→0<a):=by
   refine ⟨_,rfl,?_,?_⟩
   ·split<;>omega
   ·intro h0;split<;>omega
  rw [n]
  have c:Bk.Ok ⟨1,x.cpu%64,a,0,x.es⟩:=⟨by show 1<256;decide,by show x.cpu%64<256;omega,by unfold aQ;show _≤a∧a≤_;omega,by unfold aQ;simp,λe k=>(f e k).1⟩
  have l:Bk.fits ⟨1,x.cpu%64,a,0,x.es⟩=true:=by
   unfold Bk.fits
   rw [if_pos rfl]
   unfold Bk.oV
   rw [decide_eq_true_eq]
   refine ⟨by show (gI x.es).2=0;rw [g],by show x.cpu%64<64;omega,i.1,by show a≤_;omega,rfl,?_⟩
   by_cases h0:abk x.es=0
   ·rw [WC h0,decide_eq_true_eq];exact j h0
   ·rw [WB h0,decide_eq_true_eq]
    exact (f _ (qe Ev.zero om)).2
  exact ⟨c,W9 l (by have:=Oy ⟨1,x.cpu%64,a,0,x.es⟩;simp only at this;omega),o⟩
theorem XD (l:List Sm):l.take (abk (l.take 60))=l.take 60:=by grind
def Fq (n:Nat) (l:List Sm) (h:abk l=n):Value.int .i64 (if ((60:Int)<(n:Int)) then 60 else (n:Int))=vI ((abk (l.take 60):Nat):Int):=by
 congr 1
 rw [abu]
 split<;>omega
theorem SQ (s:cO) (c:s.st.av.Ok) (f:bP s.st) (hc:fq s.st) (w:World) (g:eD w s.st):
    Calls abl 44 #[.agg s.cells] w (Is w (vI (bJ s:Int))):=by
 refine (dY Tryz.func44 17) ?_
 refine (JP∘JE) λl m=>(Jp 1∘Jj∘JQ∘JB∘JP∘Jg 0 O0∘Jp 2) (Ji (λd=>?_) λd=>?_)
 ·
  exact (Jp 5∘aF∘Jj∘JT∘JP∘Jp 1∘Jj∘JZ∘aZ) λb=>by exact ⟨by rw [P6 om];rfl,b.below⟩
 refine (Jg 0 O0∘Jp 3∘aF∘Jj) (Ji (λe=>?_) λe=>?_)
 ·
  exact (JT∘JP∘Jp 1∘Jj∘JZ∘aZ) λb=>by exact ⟨by rw [P6 om];rfl,b.below⟩
 refine (JF∘JP∘Jf 1∘Jy (v:= .agg #[vI s.st.ak,vQ s.st.aj,abg s.st.gA s.st.gs s.st.gc,abg s.st.lA s.st.cl s.st.lc,abg s.st.uA s.st.cu s.st.uc,abg s.st.tA s.st.ts s.st.tc,abg s.st.sA s.st.rs s.st.sc]) (h:=by exact Pe rfl rfl fU rfl (λ_ h=>h.sub (i:=0) rfl 1 rfl))∘Jo (.agg s.st.cells) (by exact rfl)∘JI (h:=by exact λb=>qty s.st c f _ (g.old b))) λj k=>(Jp 2∘gG∘Jj) (Ju (λa=>?_) λa=>?_)
 ·
  exact (JT∘JP∘Jp 1∘Jj∘JZ∘aZ) λb=>by exact ⟨by rw [q3y om (by simpa using a)];rfl,b.below⟩
 exact (JF∘aD∘JP∘Jp 1∘Jj∘JZ∘aZ) λb=>by exact ⟨by rw [Yp om (by simpa using a)];rfl,b.below⟩
def qr6 (s:cO) (u:s.st.av.Ok) (C:bP s.st) (hc:fq s.st) (w:World) (D:eD w s.st):
    Calls abl 107 #[.agg s.cells] w (P8 w (bJ s) (iR s)):=by
 refine Kz (vs:=[.agg s.cells]) Tryz.func107 rfl rfl kr (σ0:=[(0,.agg s.cells)]) rfl ?_
 intro a Z
 have b:=Mem.start w
 refine Jb Z b ((JP∘JE) λE k=>(Jp 2∘Jj∘JQ∘JP∘eF zp O0∘JI (h:=by exact λb=>SQ s u C hc _ (D.old b))) λQ H=>(Jp 1∘bG∘Jr∘Jp 2∘aK∘Jj) (Jh (λx=>?_) λx=>?_))
 ·
  refine (JT∘JP∘Jp 3∘Jj∘JZ) λa Z b=>?_
  refine VG ?_
  exact rz rfl Z rfl rfl (qy8 _ rfl (q9l om) b.below)
 have n:bJ s=0:=by omega
 have o:=BP n
 refine (JF∘aD∘JP∘JA #[vN]) λI l=>(Jq∘JC (h:=by exact λb=>b.nil 41 1)∘JG∘JQ∘JP∘eF zp O2∘JL (h:=by exact λb=>q6m s _)) ?_
 rintro b _ J ⟨K,gp,rfl,hm⟩
 refine ⟨_,rfl,_,b.join hm,?_⟩
 refine (aK∘Jj∘JB) λa Z b=>?_
 refine Ky Z b (λF=>∃(q:List Nat) (c:Option Addr) (co:Nat),(q=dW 7 (aG s))∧(abk q≤co)∧F=[abh c q co bq 41 1,.blk l #[abg c q co] 117,.blk k s.cells 50]) (λ_ _=>False) rfl kr ?_ ?_ (λ_ _ _ _ _ h=>h.elim)
 ·
  clear Z b;intro p B g E y b
  have L:qxi abl w p s (λi F=>∃(q:List Nat) (c:Option Addr) (co:Nat),(q=dW i (aG s))∧(abk q≤co)∧F=(.obj p (.loop (g .ready none)):: .obj B (.deferred (some [])):: [abh c q co bq 41 1,.blk l #[abg c q co] 117,.blk k s.cells 50])):=by
   rintro i F fr R z cr ⟨q,c,co,t,j,rfl⟩ hi M b
   replace b:=b.pt (fs':=(.obj p (.loop (g .ready none)):: abh z (aG s i) cr bq 41 1:: .obj B (.deferred (some [])):: abh c q co bq 41 1:: .blk l #[abg c q co] 117:: .blk k s.cells 50::fr)) 6 [1,0,2,3,4,5]
   refine NS (v1:= .string (qb i)) (v2:= .slice z (abk (aG s i)) cr) y b de de λa Z=>?_
   refine qz ?_
   refine Jb Z b ((Jp 1∘Jq) λa Z b=>?_)
   have N:abk q≤600000:=by rw [t];exact Ym o om
   have O:=q9k o hi
   refine ⟨(abh z (aG s i) cr bq 41 1:: .obj B (.deferred (some [])):: abh c q co bq 41 1:: .blk l #[abg c q co] 117:: .blk k s.cells 50::fr),b.pt (fs':=(.obj p (.loop (g .ready none)):: abh z (aG s i) cr bq 41 1:: .obj B (.deferred (some [])):: abh c q co bq 41 1:: .blk l #[abg c q co] 117:: .blk k s.cells 50::fr)) 6 [0,1,2,3,4,5],λS b=>?_⟩
   refine wpIn_block ?_
   refine qz ?_
   refine Jb Z b ((Jc O4∘Jp 1∘JD ((aG s i).map bq) 3 (λ_ _=>qJ) kP (hr:=by exact λb=>b.rd (i:=1) rfl) (h1:=by exact uV _)) λP d e m=>(JW sF aU) λG=>(oI∘Jq) λa Z b=>?_)
   have f:abk q+(abk (aG s i))=abk (q++(aG s i)):=nC rfl
   rw [f] at m
   replace b:=b.aT (i:=3) (ys:=(q++(aG s i)).map bq) rfl f (List.map_append.symm)
   rw [f] at b
   refine ⟨(.obj B (.deferred (some [])):: abh d (q++(aG s i)) e bq 41 1:: .blk l #[abg d (q++(aG s i)) e] 117:: .blk k s.cells 50::fr),b.pt (fs':=(.obj p (.loop (g .busy none)):: .obj B (.deferred (some [])):: abh d (q++(aG s i)) e bq 41 1:: .blk l #[abg d (q++(aG s i)) e] 117:: .blk k s.cells 50::fr)) 6 [0,2,3,4,5],λI b=>?_⟩
   exact ⟨(.obj p (.loop (g .ready none)):: .obj B (.deferred (some [])):: abh d (q++(aG s i)) e bq 41 1:: .blk l #[abg d (q++(aG s i)) e] 117:: .blk k s.cells 50:: []),b,rfl,⟨(q++(aG s i)),d,e,by rw [t,q5],m,rfl⟩⟩
  refine (q0k w E K gp p s u C D hc o _ _ L ⟨[],none,0,rfl,abo _,rfl⟩ (b.pk [2,3,0,1,4,5,6])).mono ?_
  rintro r T ⟨v,rfl,U,A,⟨q,c,co,t,j,rfl⟩⟩
  exact ⟨v,rfl,.inl ⟨_,⟨q,c,co,t,j,rfl⟩,A⟩⟩
 clear Z b;rintro B a V _ ⟨q,c,co,t,j,rfl⟩ Z b
 refine Jb Z b ((JG∘JP∘Jc O2∘Jp 2∘Jj∘JZ) λa Z b=>?_)
 refine EO Z b (i:=0) rfl λa W Z b=>?_
 exact rz rfl Z rfl rfl (qy7 (sH:=0) n.symm (by rw [zZ n,t];rfl) (b.own (i:=1) rfl) j b.below)
def MB:EI abl 298 435 (.agg #[.string (ByteArray.mk #[]),vI 0,vI 0]) 3 32:=⟨by kernel_rfl,by kernel_rfl,rfl,by omega⟩
theorem q0l (s:cO) (f:s.st.av.Ok) (r:bP s.st) (hc:fq s.st) (B:Nat) (w:World) (v:aM B w) (t:B≤w.heap.size) (x:eD w s.st):
    Calls abl 46 #[.agg s.cells] w (zf w (bJ s) (dh s)):=by
 refine (dY Tryz.func46 22) ?_
 refine (JP∘JE) λO P=>(Jp 2∘Jr∘eF zp O0∘JK (h:=by exact λc=>qr6 s f r hc _ (x.old c))) λy z Q A=>(Jp 1∘Jx∘Jx∘Jp 2∘Jj∘JQ∘JP∘Jp 2∘aK∘Jj) (Jh (λg=>?_) λg=>?_)
 ·
  exact (JT∘JP∘Jp 3∘Jj∘JZ∘bH) λc=>qy9 _ rfl (Yq om) c.below
 have d:bJ s=0:=by omega
 have j:=BP d
 have k:=P5 j
 rw [←zZ d] at k
 have C:=q9n j
 have l:=q9m s
 rw [←zZ d] at l
 have D:=zm (iR s)
 refine (JF∘aD∘JP∘JU aX #[vB 113,vB 115,vB 1]) λE F=>λa Z c=>?_
 refine fo Z 1 rfl rfl ?_
 refine X9 Z c 0 (e:=5) rfl rfl rfl kr kr rfl de ?_
 clear Z c;intro a G Z c
 refine Jb Z c ((Jp 1∘JK (h:=by exact λc=>KF y (abk (iR s)) z (iR s) _ (c.rd (i:=1) rfl) (by rw [zZ d];exact Ld f r) (by have:=k;omega))) λH I J u=>λa Z c=>?_)
 refine fo Z 4 rfl rfl ?_
 refine ND Z c (xs:=([113,115,1]:List Nat).map B8) (news:=((iR s).flatMap au).map B8) rfl aX rfl rfl (c.uW (i:=1) (size:=1) (n:=3) rfl rfl) (c.rd (i:=0) rfl) om om (λh=>by cases h) om om rfl de ?_
 clear Z c;intro a K m o Z c p
 have b:3+abk ((iR s).flatMap au)=abk (dA s):=zjf d
 rw [b] at p
 replace c:=c.aT (i:=0) (ys:=(dA s).map B8) rfl b (qza d)
 replace Z:=Z.sp 18 (vS m (abk (dA s)) o) rfl (gF b)
 exact Jb Z c ((JK (h:=by exact λc=>Ot (some ⟨m,0,none⟩) (abk (dA s)) o (dA s) B _ (v.mem c t) (c.le t) (c.rd (i:=0) rfl) rfl om (Yo s))) λL M N q=>(Jx∘Jx∘Jp 2∘Jj∘JZ∘bH) λc=>qzb (sH:=0) d.symm (DF d).symm (c.own (i:=0) rfl) q c.below)
theorem q7c (x:Sb) (s:x.Ok) (A:Option Addr) (c:Nat) (w:World) (hr:Rd w w.heap.size 11 A (abk x.l) (x.l.flatMap rC)) (hc:abk x.l≤c) (P:abk x.l≤9223372036854775807):
    Calls abl 43 #[.agg (x.cells A c)] w (Xz w x.made):=by
 refine (dY Tryz.func43 42) ?_
 refine (JP∘JE) λQ G=>(JA #[vB 0,vB 0,vI 0,vI 0,vN]) λR H=>(Jq) ?_
 have E:=s.lost
 have I:=s.cpu
 obtain ⟨es,q⟩:∃es,es=x.es:=⟨_,rfl⟩
 refine (JG∘JQ∘JP∘Jg 0 O1∘Jj) (Ju (λr=>?_) λr=>?_)
 ·
  refine (JT∘JP∘Jf 3∘Jg 0 O1∘JL (h:=by exact λe=>OQ x.b.seq 281474976710657 s.b.seq (by unfold aQ;omega) _)) ?_
  rintro e _ S ⟨rfl,rfl⟩
  refine ⟨_,rfl,_,e,?_⟩
  refine (Jp 1∘Jo (vI (1+dZ x.b.seq 281474976710657)) (by have h:=XA x.b.seq;rw [IntWalk.i64_in _ om])∘eH #[vB 2,vB 0,vI 0,vI (1+dZ x.b.seq 281474976710657),vN]∘JV aL aU) λJ=>(qK∘Jj∘JZ) λa Z e=>?_
  exact iy rfl Z (.cellS (i:=0) Z e rfl rfl aL rfl) (KV (b:=x.made) (d:=⟨2,0,0,1+dZ x.b.seq 281474976710657,[]⟩) (A:=none) (c:=0) (by unfold Sb.made;rw [if_pos r]) (World.ownsRow_nil _ _ _ _) (abo _) e.below)
 refine (JF∘aD) λa Z e=>?_
 refine zb (λM N=>∃(m:Option Addr) (g:Nat) (u:Nat),Fr M 42 [] [(3,vP u 0),(5,.bool false),(2,vP H 0),(1,vP G 0)]∧Mem w N [.blk u #[vB 1,vB (x.cpu%64:Nat),vI x.lost,vI 0,abg m es g] 85,abj m es g iw 73 11,.blk H #[vB 0,vB 0,vI 0,vI 0,vN] 85,.blk G (x.cells A c) 113]∧(abk es≤g)) ?_ ?_
 ·
  refine Jb Z e ((Vs .n [20]) λO=>(Vf 0 1∘Vf 3 2∘Vf 6 1∘Vf 8 3∘Vf 10 5∘Vf 12 5∘Vc 1 O1∘Vp [2]∘Vo (vB (x.cpu%64:Nat)) (by exact q9 .u8 _ 64)∘Vc 4 O1∘Vw 5 .i64∘Vc 7 O1∘Vy 9 (v:= .agg #[vI x.b.seq,vI x.b.time]) (h:=by exact Pe rfl rfl ⟨kr,kr⟩ rfl (λ_ h=>h.sub (i:=1) rfl 3 rfl))∘Vc 11 O1∘Vc 13 O1∘Vl 14∘Vy 15 (v:=vI (if (60:Int)<(abk x.l:Int) then 60 else (abk x.l:Int))) (h:=by exact Yl.min rfl rfl rfl)∘Vo (vI (abk (x.l.take 60))) (by exact Fq _ _ rfl)∘Vy 16 (h:=by exact aaf zP (j:=abk (x.l.take 60)) rfl rfl rfl (by rw [abu];omega))) λa Z e p=>?_)
  refine zd [17,19] kr rfl ?_
  refine all_cons ?_ ?_
  ·refine qt Z (i:=17) rfl rfl ?_
   refine kQ Z [vB x.cpu,.agg #[vI x.b.seq,vI x.b.time],abg A (x.l.take 60) c] rfl rfl (Xl x.cpu s.cpu x.b s.b _ _ _ (x.l.take 60) (OY s) _ (by have h:=(e.old hr).upto (k:=abk (x.l.take 60)) (by rw [abu];omega);rw [KS rC 11 Du] at h;rwa [XD] at h) (by rw [abu];omega) (by rw [abu];omega)) ?_
   rintro _ F ⟨⟨v,rfl,y⟩,z⟩
   rw [show lu x.cpu x.b (x.l.take 60)=x.es from rfl,←q] at y
   revert p;revert e;revert a;repeat (first|clear Z|clear e|clear p)
   intro a Z e p
   obtain ⟨m,g,rfl,o⟩:=Dg y
   refine ⟨_,rfl,?_⟩
   replace e:=e.bN z y
   clear Z;intro a Z
   refine ay (e.pk [1,2]) (λp=>?_)
   refine Vb Z e p ((Vy 18 (v:= .agg #[vB 1,vB (x.cpu%64:Nat),vI x.lost,vI 0,abg m es g]) (h:=by exact Yl.build (vs:=[(0,vB 1),(1,vB (x.cpu%64:Nat)),(2,vI x.lost),(4,abg m es g)]) rfl kr kr)∘VA 19 (.f .n) #[vB 0,vB 0,vI 0,vI 0,vN]) λK u=>λa Z e p=>?_)
   refine s_on Z 20 rfl (cZ Z e 0 rfl rfl rfl rfl rfl aL rfl rfl (by simp [acf]) λB e=>?_)
   refine dM kr ?_
   refine qd kr ?_
   exact ⟨m,g,u,Z.sub kr,e.pk [0,1,2,3],o⟩
  refine all_cons ?_ all_nil
  refine qt Z (i:=19) rfl rfl ?_
  refine gT Z e #[vB 0,vB 0,vI 0,vI 0,vN] ?_
  clear Z e;intro a K u Z e
  refine ay (e.pk [1,2]) (λp=>?_)
  refine s_on Z 17 rfl ?_
  refine kQ Z [vB x.cpu,.agg #[vI x.b.seq,vI x.b.time],abg A (x.l.take 60) c] rfl rfl (Xl x.cpu s.cpu x.b s.b _ _ _ (x.l.take 60) (OY s) _ (by have h:=(e.old hr).upto (k:=abk (x.l.take 60)) (by rw [abu];omega);rw [KS rC 11 Du] at h;rwa [XD] at h) (by rw [abu];omega) (by rw [abu];omega)) ?_
  rintro _ F ⟨⟨v,rfl,y⟩,z⟩
  rw [show lu x.cpu x.b (x.l.take 60)=x.es from rfl,←q] at y
  revert p;revert e;revert a;repeat (first|clear Z|clear e|clear p)
  intro a Z e p
  obtain ⟨m,g,rfl,o⟩:=Dg y
  refine ⟨_,rfl,?_⟩
  replace e:=e.bN z y
  clear Z;intro a Z
  refine ay (e.pk [2,3]) (λp=>?_)
  refine Vb Z e p ((Vy 18 (v:= .agg #[vB 1,vB (x.cpu%64:Nat),vI x.lost,vI 0,abg m es g]) (h:=by exact Yl.build (vs:=[(0,vB 1),(1,vB (x.cpu%64:Nat)),(2,vI x.lost),(4,abg m es g)]) rfl kr kr)) λa Z e p=>?_)
  refine s_on Z 20 rfl (cZ Z e 1 rfl rfl rfl rfl rfl aL rfl rfl (by simp [acf]) λB e=>?_)
  refine dM kr ?_
  refine qd kr ?_
  exact ⟨m,g,u,Z.sub kr,e.pk [1,0,2,3],o⟩
 clear Z e;rintro a K ⟨m,g,u,Z,e,o⟩
 refine Jb Z e ((JQ∘JP∘Jg 4 O0∘Jl∘Jp 2) (Je (λC=>?_) λC=>?_))
 ·
  refine (Jg 2 O0∘Jp 2∘aF∘Jj) (Je (λD=>?_) λD=>?_)
  ·
   refine (JT∘JR∘Jf 2∘JW aU iO) λL=>(mZ∘Jr∘eF aL O0∘JV aL iO) λt=>(mZ∘Jj∘JZ) λa Z e=>?_
   exact iy rfl Z (.cellS (i:=2) Z e rfl rfl aL rfl) (KV (b:=x.made) (d:=⟨1,x.cpu%64,1,0,es⟩) (by unfold Sb.made;rw [if_neg (by rw [r];decide),←q,if_pos ⟨by omega,by omega⟩]) (e.own (i:=1) rfl) o e.below)
  refine (JF∘aD∘JP∘eF aL O0∘JV aL iO) λt=>(mZ∘Jj∘JZ) λa Z e=>?_
  exact iy rfl Z (.cellS (i:=2) Z e rfl rfl aL rfl) (KV (b:=x.made) (d:=⟨1,x.cpu%64,(x.lost:Int),0,es⟩) (by unfold Sb.made;rw [if_neg (by rw [r];decide),←q,if_neg om]) (e.own (i:=1) rfl) o e.below)
 refine (Jp 4∘aF∘Jj∘JF∘aD∘JP∘eF aL O0∘JV aL iO) λt=>(mZ∘Jj∘JZ) λa Z e=>?_
 exact iy rfl Z (.cellS (i:=2) Z e rfl rfl aL rfl) (KV (b:=x.made) (d:=⟨1,x.cpu%64,(x.lost:Int),0,es⟩) (by unfold Sb.made;rw [if_neg (by rw [r];decide),←q,if_neg om]) (e.own (i:=1) rfl) o e.below)
def z8 {v w:Nat} (h:bL v r w=true):1≤w∧w≤65536∧r<w∧(v<18446744073709551615∨r=0):=by
 unfold bL at h
 rw [decide_eq_true_eq] at h
 omega
def zji {v w:Nat} (h:1≤w∧w≤65536∧r<w∧(v<18446744073709551615∨r=0)):bL v r w=true:=by
 unfold bL
 rw [decide_eq_true_eq]
 omega
theorem Qk {z:Nat} (a:c<18446744073709551616) (hz:1≤z∧z≤65536):(⟨c,0,z⟩:En).Ok:=⟨zji ⟨hz.1,hz.2,by show 0<z;omega,.inr rfl⟩,a⟩
theorem Gg (x:En) (a:x.Ok) (w:World):Calls abl 218 #[.agg x.cells] w (Is w (.bool true)):=by
 have h1:=z8 a.1
 have h2:=PD x.v x.r x.w a.2 om om w
 rw [a.1] at h2
 exact h2
def qzi (z:Nat) (hz:1≤z∧z≤65536) (w:World):Calls abl 267 #[vI z] w (Is w (.bool true)):=by
 have h2:=Ya z w
 rw [decide_eq_true om] at h2
 exact h2
def q4e (x:En) (e:x.Ok) (d:Nat) (q:d≤4294967295) (w:World):
    Calls abl 266 #[.agg x.cells,vI d] w (Is w (.agg (x.add d).cells)):=by
 have j:=z8 e.1
 have k:=e.2
 have l:=aeD (d*1048576+x.r) x.w
 have o:=Nat.mod_lt (d*1048576+x.r) (show x.w>0 by omega)
 refine (iX Tryz.func266 42) ?_
 refine (JP∘JE) λs t=>(JA #[vQ 0,vW 0,vW 0]) λu y=>(Jr∘Jp 1∘Jw .u64∘Jp 1∘Jo (vQ (d*1048576:Nat)) (by exact wO om om)∘Jg 1 O1∘Jw .u64∘Ja∘Jp 1∘aF∘Jj) λa Z b=>?_
 refine wp_seq ?_
 refine Jb Z b ((Vs .n []) λp=>(Vp [0]∘Vf 1 2∘Vp [5]∘Vf 6 2∘Vc 2 O1∘Vw 3 .u64∘Vy 4 (v:=vQ ((d*1048576+x.r)/x.w:Nat)) (h:=by exact aaX (m:=(d*1048576+x.r)) (n:=x.w) rfl rfl rfl om (by show _≤18446744073709551615;omega))∘Vp [10]∘Vc 7 O1∘Vw 8 .u64∘Vy 9 (v:=vQ ((d*1048576+x.r)%x.w:Nat)) (h:=by exact aau (m:=(d*1048576+x.r)) (n:=x.w) rfl rfl rfl om)∘Vp [11]∘Vd∘dU∘JQ∘JP∘Jp 1∘Jg 0 O1∘Jp 1∘Jo (vQ (18446744073709551615-x.v:Nat)) (by exact wO om om)∘Jp 1∘dU∘Jj) (Ji (λc=>?_) λc=>?_))
 ·
  refine (JT∘JP∘Jg 2 O1∘eH #[vQ 18446744073709551615,vW 0,vW x.w]∘JV ql aU) λf=>(mM∘Jj∘JZ) λa Z b=>?_
  exact iy rfl Z (.cellS (i:=0) Z b rfl rfl ql rfl) (⟨by rw [show x.add d=⟨ny,0,x.w⟩ from if_pos (by show 18446744073709551615-x.v≤_;omega)];rfl,b.below⟩)
 refine (JF∘aD∘JP∘Jg 0 O1∘Jp 1∘Ja∘Jp 1∘Jv 1 [(38,vW (IntKind.u32.wrap (((d*1048576+x.r)%x.w:Nat):Int)))]∘Jo (vW ((d*1048576+x.r)%x.w:Nat)) (by exact A9 rfl om)∘Jg 2 O1∘eH #[vQ (x.v+((d*1048576+x.r)/x.w):Nat),vW ((d*1048576+x.r)%x.w:Nat),vW x.w]∘JV ql aU) λg=>(iA∘Jj∘JZ) λa Z b=>?_
 exact iy rfl Z (.cellS (i:=0) Z b rfl rfl ql rfl) (⟨by rw [show x.add d=⟨x.v+(d*1048576+x.r)/x.w,(d*1048576+x.r)%x.w,x.w⟩ from if_neg (by show ¬18446744073709551615-x.v≤_;omega)];rfl,b.below⟩)
def qzj (d:Int) (w:World):Calls abl 265 #[vI d] w (Is w (.bool (decide (0≤d∧d≤4294967295)))):=by
 refine (dY Tryz.func265 9) ?_
 refine (JP∘Jp 1∘Jr∘Jp 3) (Ji (λa=>?_) λa=>?_)
 ·
  exact (Jp 4∘aF∘Jj∘JZ∘aZ) λb=>BA om b.below
 exact (Jp 4∘aF∘Jj∘JZ∘aZ) λb=>lF om b.below
def qzk (d:Nat) (a:d≤4294967295) (w:World):Calls abl 265 #[vI d] w (Is w (.bool true)):=by
 have h2:=qzj d w
 rw [decide_eq_true om] at h2
 exact h2
def q9t (x:En) (e:x.Ok) (d:Nat) (f:d≤4294967295) (w:World):
    Calls abl 210 #[.agg x.cells,vI d] w (Is w (.tuple #[.agg (x.add d).cells,vI 0])):=by
 refine (iX Tryz.func210 18) ?_
 refine (JP∘JE) λl m=>(JA #[vQ 0,vW 0,vW 0]) λn o=>(Jp 1∘Jj∘JQ∘JP∘eF ql O1∘JI (h:=by exact λb=>Gg x e _)) λp c=>(Jp 3∘JI (h:=by exact λb=>qzk d f _)) λj c=>(Jp 2∘aF∘Jj∘JF∘aD∘JP∘eF ql O1∘Jp 1∘JI (h:=by exact λb=>q4e x e d f _)) λk c=>(JV ql aU (h1:=by exact lY (x.add d))) λg=>(Jp 1∘dU∘Jj∘JZ) λa Z b=>?_
 exact eG rfl Z (.cellS (i:=0) Z b rfl rfl ql rfl) (.tmp Z rfl) (⟨rfl,b.below⟩)
def DK (x:En) (e:x.Ok) (z:Nat) (hz:1≤z∧z≤65536) (w:World):
    Calls abl 212 #[.agg x.cells,vI z] w (Is w (.tuple #[.agg (⟨x.v,0,z⟩:En).cells,vI 0])):=by
 refine (iX Tryz.func212 20) ?_
 refine (JP∘JE) λg j=>(JA #[vQ 0,vW 0,vW 0]) λk l=>(Jp 1∘Jj∘JQ∘JP∘eF ql O1∘JI (h:=by exact λb=>Gg x e _)) λm c=>(Jp 3∘JI (h:=by exact λb=>qzi z hz _)) λf c=>(Jp 2∘aF∘Jj∘JF∘aD∘JP∘Jg 0 O1∘Jp 1∘Jv 1 [(18,vW (IntKind.u32.wrap (z:Int)))]∘Jo (vW z) (by exact A9 rfl om)∘eH #[vQ x.v,vW 0,vW z]∘JV ql aU) λd=>(Jp 1∘gG∘Jj∘JZ) λa Z b=>?_
 exact eG rfl Z (.cellS (i:=0) Z b rfl rfl ql rfl) (.tmp Z rfl) (⟨rfl,b.below⟩)
def YT (a b:Nat) (c:a<18446744073709551616) (hb:b<18446744073709551616) (w:World):
    Calls abl 264 #[vQ a,vQ b] w (Is w (vQ ((a-b:Nat):Int))):=by
 refine (iX Tryz.func264 10) ?_
 exact (JP∘Jp 1∘Jr∘Jp 3∘Jy (v:=vQ (if (b:Int)<(a:Int) then (b:Int) else (a:Int))) (h:=by exact Yl.min rfl rfl rfl)∘Jp 1∘Jo (vQ (a-b:Nat)) (by split<;>exact (wO (m:=a-b) om om))∘Jp 1∘lT∘Jj∘JZ) tH
def zfp (a b:Nat) (c:a<18446744073709551616) (hb:b<18446744073709551616) (w:World):
    Calls abl 304 #[vQ a,vQ b] w (Is w (vQ ((a+min b (18446744073709551615-a):Nat):Int))):=by
 refine (iX Tryz.func304 11) ?_
 exact (JP∘Jp 1∘Jr∘Jp 4∘Jo (vQ (18446744073709551615-a:Nat)) (by exact wO om om)∘Jy (v:=vQ (if ((18446744073709551615-a:Nat):Int)<(b:Int) then ((18446744073709551615-a:Nat):Int) else (b:Int))) (h:=by exact Yl.min rfl rfl rfl)∘Jo (vQ (min b (18446744073709551615-a):Nat)) (by rw [Nat.min_def];split<;>split<;>first|rfl|(congr 1;omega))∘Jp 1∘Jo (vQ (a+min b (18446744073709551615-a):Nat)) (by exact wO om om)∘Jp 1∘aF∘Jj∘JZ) tH
def YU (b z:Nat) (f:b<18446744073709551616) (hz:1≤z∧z≤65536) (w:World):
    Calls abl 201 #[vQ b,vI z] w (Is w (.tuple #[.agg (⟨b,0,z⟩:En).cells,vI 0])):=by
 refine (iX Tryz.func201 23) ?_
 refine (JP∘JA #[vQ 0,vW 0,vW 0]) λk l=>(Jp 1∘Jr∘Jp 2∘Jv 1 [(9,vW (IntKind.u32.wrap (z:Int)))]∘Jo (vW z) (by exact A9 rfl om)∘eH #[vQ b,vW 0,vW z]∘JA #[vQ 0,vW 0,vW 0]) λm n=>(JV ql aU) λd=>(gG∘Jj∘JQ∘JP∘Jg 2 O0∘Jw .i64∘Jp 2∘Jo (.bool false) (by simp)∘Jp 1∘eF ql O0∘JI (h:=by exact λc=>Gg (⟨b,0,z⟩:En) (Qk f hz) _)) λg j=>(Jp 2∘aF∘Jj∘JF∘aD∘JP∘eF ql O0∘JV ql fO) λe=>(Jp 1∘aK∘Jj∘JZ) λa Z c=>?_
 exact eG rfl Z (.cellS (i:=1) Z c rfl rfl ql rfl) (.tmp Z rfl) (⟨rfl,c.below⟩)
def q4f (x:En) (f:x.Ok) (b cr:Nat) (k:b<18446744073709551616) (hc:cr<18446744073709551616) (w:World):
    Calls abl 207 #[.agg x.cells,vQ b,vQ cr] w (Is w (.tuple #[.agg (x.woken b cr).cells,vI 0])):=by
 have l:=f.2
 refine (wU Tryz.func207 25) ?_
 refine (JP∘JE) λo p=>(JA #[vQ 0,vW 0,vW 0]) λq r=>(Jp 1∘Jj∘JQ∘JP∘eF ql O1∘JI (h:=by exact λc=>Gg x f _)) λm e=>(Jp 1∘bG∘Jj∘JF∘aD∘JQ∘JP∘Jp 2∘JI (h:=by exact λc=>YT b cr k hc _)) λn e=>(Jp 1∘dU∘Jr∘Jp 1∘Jg 0 O1∘Jp 1∘bG∘Jj) (Ji (λd=>?_) λd=>?_)
 ·
  refine (JT∘JP∘Jp 1∘Jg 2 O1∘eH #[vQ (b-cr:Nat),vW 0,vW x.w]∘JV ql aU) λg=>(Jp 1∘dU∘Jj∘JZ) λa Z c=>?_
  exact eG rfl Z (.cellS (i:=0) Z c rfl rfl ql rfl) (.tmp Z rfl) (⟨by rw [show x.woken b cr=⟨b-cr,0,x.w⟩ from if_pos om];rfl,c.below⟩)
 refine (JF∘aD∘JP∘eF ql O1∘JV ql aU (h1:=by exact lY x)) λj=>(Jp 1∘aK∘Jj∘JZ) λa Z c=>?_
 exact eG rfl Z (.cellS (i:=0) Z c rfl rfl ql rfl) (.tmp Z rfl) (⟨by rw [show x.woken b cr=x from if_neg om],c.below⟩)
def q4g (x:En) (l:x.Ok) (fr to:Nat) (o:fr<18446744073709551616) (f:to<18446744073709551616) (w:World):
    Calls abl 269 #[.agg x.cells,vQ fr,vQ to] w (Is w (.tuple #[.agg (x.moved fr to).cells,vI 0])):=by
 have p:=l.2
 refine (wU Tryz.func269 35) ?_
 refine (JP∘JE) λt u=>(JA #[vQ 0,vW 0,vW 0]) λy z=>(Jp 1∘Jj∘JQ∘JP∘eF ql O1∘JI (h:=by exact λb=>Gg x l _)) λA g=>(Jp 1∘bG∘Jj∘JF∘aD∘JQ∘JP∘Jg 0 O1∘Jp 2∘bG∘Jj) (Ji (λj=>?_) λj=>?_)
 ·
  have c:sJ x.v fr to=to+min (x.v-fr) (18446744073709551615-to):=if_pos om
  refine (JT∘JR∘Jp 1∘Jg 0 O1∘Jp 1∘Js∘JI (h:=by exact λb=>zfp to (x.v-fr) f om _)) λq g=>(Jf 0) λa Z b=>?_
  refine fo Z 7 rfl rfl ?_
  refine pX Z b (i:=1) rfl rfl rfl rfl kr rfl rfl (by simp [En.cells]) λm b=>?_
  refine Jb Z b ((iA∘Jj∘JQ∘JP∘Jg 0 O1∘Jp 1∘aK∘Jj) (Je (λd=>?_) λd=>?_))
  ·
   refine (JT∘JR∘Jf 1∘JW fO fO) λk=>(mZ∘Jr∘Jy (v:= .agg #[vQ (to+min (x.v-fr) (18446744073709551615-to):Nat),vW 0,vW x.w]) (h:=by exact Pe rfl rfl ql rfl (λ_ h=>qi (h.blk (i:=1) rfl)))∘JV ql aU) λe=>(Jp 1∘aK∘Jj∘JZ) λa Z b=>?_
   exact eG rfl Z (.cellS (i:=0) Z b rfl rfl ql rfl) (.tmp Z rfl) (⟨by rw [show x.moved fr to=⟨sJ x.v fr to,0,x.w⟩ from congrArg (λr=>(⟨_,r,_⟩:En)) (if_pos (by rw [c];show _=18446744073709551615;omega)),c];rfl,b.below⟩)
  refine (JF∘aD∘JP∘Jy (v:= .agg #[vQ (to+min (x.v-fr) (18446744073709551615-to):Nat),vW x.r,vW x.w]) (h:=by exact Pe rfl rfl ql rfl (λ_ h=>qi (h.blk (i:=1) rfl)))∘JV ql aU) λe=>(Jp 1∘aK∘Jj∘JZ) λa Z b=>?_
  exact eG rfl Z (.cellS (i:=0) Z b rfl rfl ql rfl) (.tmp Z rfl) (⟨by rw [show x.moved fr to=⟨sJ x.v fr to,x.r,x.w⟩ from congrArg (λr=>(⟨_,r,_⟩:En)) (if_neg (by rw [c];show ¬_=18446744073709551615;omega)),c];rfl,b.below⟩)
 have c:sJ x.v fr to=to- (fr-x.v):=(if_neg om).trans om
 refine (JF∘JR∘Jp 2∘Jg 0 O1∘Js∘JI (h:=by exact λb=>YT to (fr-x.v) f om _)) λs g=>(Jf 0) λa Z b=>?_
 refine fo Z 7 rfl rfl ?_
 refine pX Z b (i:=1) rfl rfl rfl rfl kr rfl rfl (by simp [En.cells]) λn b=>?_
 refine Jb Z b ((iA∘Jj∘JQ∘JP∘Jg 0 O1∘Jp 1∘aK∘Jj) (Je (λd=>?_) λd=>?_))
 ·
  refine (JT∘JR∘Jf 1∘JW fO fO) λk=>(mZ∘Jr∘Jy (v:= .agg #[vQ (to- (fr-x.v):Nat),vW 0,vW x.w]) (h:=by exact Pe rfl rfl ql rfl (λ_ h=>qi (h.blk (i:=1) rfl)))∘JV ql aU) λe=>(Jp 1∘aK∘Jj∘JZ) λa Z b=>?_
  exact eG rfl Z (.cellS (i:=0) Z b rfl rfl ql rfl) (.tmp Z rfl) (⟨by rw [show x.moved fr to=⟨sJ x.v fr to,0,x.w⟩ from congrArg (λr=>(⟨_,r,_⟩:En)) (if_pos (by rw [c];show _=18446744073709551615;omega)),c];rfl,b.below⟩)
 refine (JF∘aD∘JP∘Jy (v:= .agg #[vQ (to- (fr-x.v):Nat),vW x.r,vW x.w]) (h:=by exact Pe rfl rfl ql rfl (λ_ h=>qi (h.blk (i:=1) rfl)))∘JV ql aU) λe=>(Jp 1∘aK∘Jj∘JZ) λa Z b=>?_
 exact eG rfl Z (.cellS (i:=0) Z b rfl rfl ql rfl) (.tmp Z rfl) (⟨by rw [show x.moved fr to=⟨sJ x.v fr to,x.r,x.w⟩ from congrArg (λr=>(⟨_,r,_⟩:En)) (if_neg (by rw [c];show ¬_=18446744073709551615;omega)),c];rfl,b.below⟩)
theorem xq {l:List α} {t u:α} (h:l[i]?=some t):(l.set i u)[i]?=some u:=acJ (aby.1 h).1
theorem lq.split {a b:α} {l m:List α} (h:lq a b l m):∃p q,l=p++a::q∧m=p++b::q:=by
 induction h with
 |z=>exact ⟨[],_,rfl,rfl⟩
 |s _ c=>obtain ⟨p,q,rfl,rfl⟩:=c;exact ⟨_::p,q,rfl,rfl⟩
def q4h (W w:World) (g d tc i:Nat) (ts:List Tk) (t:Tk) (ht:ts[i]?=some t) (q:abk ts=d) (x:En) (k:x.Ok) (fs:List Fact) (b:Mem W w (fT (some ⟨g,0,none⟩) d tc ts::fs)):
    Calls abl 202 #[.pointer (some ⟨g,i*8,none⟩),.agg x.cells] w (λr l=>r= .returned (.tuple #[])∧Mem W l (fT (some ⟨g,0,none⟩) d tc (ts.set i (t.put x))::fs)):=by
 have m:=(aby.1 ht).1
 have o:=z8 k.1
 refine (lX b agP 20) ?_
 refine (JP∘JE) λs u=>(Jj∘Vs (.t (.f .n)) [18]) λp=>(Vp [0,1,2]∘Vf 3 0∘Vf 5 1∘Vf 7 2∘Vc 4 O0∘Vc 6 O0∘Vc 8 O0∘Vw 9 .i64∘Vn 10∘Vf 11 6) λa Z b c=>?_
 refine s_on Z 12 rfl ?_
 refine qw Z b (i:=1) rfl rfl rfl rfl kr rfl rfl (by rw [zk bI 8 qk];omega) λe b=>?_
 replace b:=b.bM (i:=1) (ys:=(ts.set i ({t with v:=x.v})).flatMap bI) rfl (ze bI 8 qk ts i t ({t with v:=x.v}) ht 6 de _ rfl)
 refine ay (b.pt 2 [0]) (λc=>?_)
 refine Vb Z b c ((Vn 13∘Vf 14 7) λa Z b c=>?_)
 refine s_on Z 15 rfl ?_
 refine qw Z b (i:=1) rfl rfl rfl rfl kr rfl rfl (by rw [zk bI 8 qk,abG];omega) λh b=>?_
 replace b:=b.bM (i:=1) (ys:=(ts.set i ({t with v:=x.v,r:=x.r})).flatMap bI) rfl ((ze bI 8 qk (ts.set i ({t with v:=x.v})) i ({t with v:=x.v}) ({t with v:=x.v,r:=x.r}) (xq ht) 7 de _ rfl).trans (by rw [ad5]))
 refine ay (b.pt 2 [0]) (λc=>?_)
 refine Vb Z b c ((Vn 16∘Vf 17 2) λa Z b c=>?_)
 refine s_on Z 18 rfl ?_
 refine qw Z b (i:=1) rfl rfl rfl rfl kr rfl rfl (by rw [zk bI 8 qk,abG];omega) λj b=>?_
 replace b:=b.bM (i:=1) (ys:=(ts.set i (t.put x)).flatMap bI) rfl ((ze bI 8 qk (ts.set i ({t with v:=x.v,r:=x.r})) i ({t with v:=x.v,r:=x.r}) (t.put x) (xq ht) 2 de _ rfl).trans (by rw [ad5]))
 refine dM kr ?_
 refine qd kr ?_
 exact gQ rfl Z ⟨rfl,b.pt 2 [1]⟩
def Ls {tc:Nat} {ts:List Tk} {L:List Fact} (t:Tk) (x:En) (O:lq (fT (some ⟨g,0,none⟩) c tc ts) (fT (some ⟨g,0,none⟩) c tc (ts.set i (t.put x))) F L) (b:Mem W w F) (ht:ts[i]?=some t) (d:abk ts=c) (e:x.Ok):
  Calls abl 202 #[.pointer (some ⟨g,i*8,none⟩),.agg x.cells] w (λr a=>r= .returned (.tuple #[])∧Mem W a L):=by
 obtain ⟨p,q,rfl,rfl⟩:=O.split
 exact (q4h W w g c tc i ts t ht d x e (p++q) (b.perm adj)).mono λr a h=>⟨h.1,h.2.perm List.perm_middle.symm⟩
def qzl (W w:World) (g:Nat) (t:Tk) (x:En) (i:x.Ok) (fs:List Fact) (b:Mem W w (.blk g t.cells 232::fs)):
    Calls abl 202 #[vP g 0,.agg x.cells] w (λr j=>r= .returned (.tuple #[])∧Mem W j (.blk g (t.put x).cells 232::fs)):=by
 have k:=z8 i.1
 replace b:Mem W w (.blk g #[vI t.id,vI t.group,vI t.weight,vI t.cpu,vQ t.mask,.bool t.ready,vQ t.v,vW t.r] 232::fs):=b
 refine (lX b agP 20) ?_
 refine (JP∘JE) λm o=>(Jj∘Vs (.t (.f .n)) [18]) λl=>(Vp [0,1,2]∘Vf 3 0∘Vf 5 1∘Vf 7 2∘Vc 4 O0∘Vc 6 O0∘Vc 8 O0∘Vw 9 .i64∘Vn 10∘Vf 11 6) λa Z b c=>?_
 refine s_on Z 12 rfl (fJ Z b 1 λd b=>?_)
 refine ay (b.pt 2 [0]) (λc=>?_)
 refine Vb Z b c ((Vn 13∘Vf 14 7) λa Z b c=>?_)
 refine s_on Z 15 rfl (fJ Z b 1 λe b=>?_)
 refine ay (b.pt 2 [0]) (λc=>?_)
 refine Vb Z b c ((Vn 16∘Vf 17 2) λa Z b c=>?_)
 refine s_on Z 18 rfl (fJ Z b 1 λh b=>?_)
 refine dM kr ?_
 refine qd kr ?_
 exact gQ rfl Z ⟨rfl,b.pt 2 [1]⟩
def zfq {L:List Fact} (t:Tk) (x:En) (O:lq (.blk g t.cells 232) (.blk g (t.put x).cells 232) F L) (b:Mem W w F) (c:x.Ok):
  Calls abl 202 #[vP g 0,.agg x.cells] w (λr a=>r= .returned (.tuple #[])∧Mem W a L):=by
 obtain ⟨p,q,rfl,rfl⟩:=O.split
 exact (qzl W w g t x c (p++q) (b.perm adj)).mono λr a h=>⟨h.1,h.2.perm List.perm_middle.symm⟩
def Lu (id:Int) (w:World):Calls abl 197 #[vI id] w (Is w (.bool (decide (1≤id∧id≤65535)))):=by
 refine (dY Tryz.func197 9) ?_
 refine (JP∘Jp 1∘Jr∘Jp 3) (Ji (λa=>?_) λa=>?_)
 ·
  exact (Jp 4∘aF∘Jj∘JZ∘aZ) λb=>BA om b.below
 exact (Jp 4∘aF∘Jj∘JZ∘aZ) λb=>lF om b.below
def zfr (d:Nat) (cp:Int) (cr:Nat) (gA:Option Addr) (e gc:Nat) (lA:Option Addr) (f lc:Nat) (uA:Option Addr) (g uc:Nat) (tA:Option Addr) (i tc:Nat) (sA:Option Addr) (j sc:Nat) (c:Int) (w:World)
    (hm:w.heap[d]?=some (.cells #[vI cp,vQ cr,.slice gA e gc,.slice lA f lc,.slice uA g uc,.slice tA i tc,.slice sA j sc,.bool true] 273 (0,0))):
    Calls abl 196 #[vP d 0,vI c] w (Is w (.bool (decide (0≤c∧c<cp)))):=by
 refine (iX Tryz.func196 17) ?_
 refine (JP∘Jp 1∘Jr∘Jp 3) (Ji (λa=>?_) λa=>?_)
 ·
  exact (Jp 2∘Jn∘Jf 0∘Jf 0∘Jf 0∘Jy (v:=vI cp) (h:=by exact Pd rfl rfl kr (λ_ h=>h.zu hm rfl))∘Jp 3∘aF∘Jj∘JZ∘aZ) λb=>BA om b.below
 exact (Jv 10 [(4,.bool false)]∘dU∘Jj∘JZ∘aZ) λb=>lF om b.below
def DL (n:Nat) (f:Mem W w F) (h:F.drop n=jq e x m g a b d++T) (_:dB x m g a b d) (c:Int):Calls abl 196 #[vP e 0,vI c] w (Is w (.bool (decide (0≤c∧c<x.ak)))):=by
 have h1:fM e x.ak x.aj x.gA m x.gc x.lA g x.lc x.uA a x.uc x.tA b x.tc x.sA d x.sc∈F:=List.mem_of_mem_drop (i:=n) (by rw [h];exact acB ..)
 exact zfr e x.ak x.aj x.gA m x.gc x.lA g x.lc x.uA a x.uc x.tA b x.tc x.sA d x.sc c w (f.holds _ h1).2
def mE (gm:Nat) (x:aC):List Fact:=jq gm x (abk x.gs) (abk x.cl) (abk x.cu) (abk x.ts) (abk x.rs)
def j5 (W:World) (gm:Nat) (T:List Fact) (out:gW) (r:Ending) (w':World):Prop:=∃y:aC,r= .returned (.tuple #[.int .i64 out.2.1,.int .i64 (out.2.2:Int)])∧y.av=out.1∧Mem W w' (mE gm y++T)
section
variable {W w w':World} {F A T fs:List Fact} {x y:aC} {ng nl nu nt ns gm g c n:Nat}
theorem Mem.iD (n:Nat) (h:Mem W w F) (a:F.drop n=A):Mem W w A:=a▸h.lS (List.drop_sublist ..)
theorem Mem.toB (h:Mem W w (jq gm y ng nl nu nt ns++T)) (a:rF y ng nl nu nt ns):Mem W w (mE gm y++T):=by
 obtain ⟨rfl,rfl,rfl,rfl,rfl⟩:=a
 exact h
theorem qq {out:gW} {got:Int} (n:Nat) (b:Mem W w F) (d:F.drop n=jq gm y ng nl nu nt ns++T) (f:rF y ng nl nu nt ns) (a:out=(y.av,got,e)):j5 W gm T out (.returned (.tuple #[.int .i64 got,.int .i64 (e:Int)])) w:=by
 subst a
 exact ⟨y,rfl,rfl,(b.iD n d).toB f⟩
structure eX (t:Tk) (cp:Int) (ns:Nat):Prop where
 id:1≤t.id∧t.id≤65535
 group:0≤t.group∧t.group<ns
 cpu:0≤t.cpu∧t.cpu<cp
 weight:1≤t.weight∧t.weight≤65536
 mask:wX t.mask cp=false
 bit:t.mask/2^t.cpu.toNat%2=1
 ent:bL t.v t.r t.weight=true
def Ql:dJ s t=true↔eX t s.ak (abk s.sp):=by
 unfold dJ lV
 simp only [abC,decide_eq_true_eq,adI]
 constructor
 ·rintro ⟨⟨h1,h2,h3,h4,h5,h6⟩,h7,h8,h9,h10⟩
  exact ⟨⟨h1,h2⟩,⟨h3,h4⟩,⟨h5,h6⟩,h7,h8,h9,h10⟩
 ·intro h
  exact ⟨⟨h.id.1,h.id.2,h.group.1,h.group.2,h.cpu.1,h.cpu.2⟩,h.weight,h.mask,h.bit,h.ent⟩
theorem dB.task (h:dB x ng nl nu nt ns) {k:Nat} {t:Tk} (ht:x.ts[k]?=some t):eX t x.ak ns∧t.Ok:=by
 obtain ⟨a,rfl⟩:=aby.1 ht
 have h1:=(Dx (h.sh.tk k a)).2
 rw [abn,abt a] at h1
 have h2:=Ql.1 h1
 rw [kU,h.ln.s] at h2
 exact ⟨h2,h.ok.ts _ (aei a)⟩
theorem Gh {id:Int} (h:¬fidx l id<0):∃(k:Nat) (t:Tk),fidx l id=(k:Int)∧l[k]?=some t∧k<abk l∧t.id=id:=by grind [Tk.zero,YB,getD_at]
theorem xu {id:Int} (h:fidx s.ts id=(k:Int)) (ht:s.ts[k]?=some t):og s id=t:=by
 unfold og
 rw [h]
 exact tN Tk.zero ht
def aaj {v r w:Nat} {f:Int} (h:bL v r f=true) (a:f=(w:Int)) (b:v<18446744073709551616):(⟨v,r,w⟩:En).Ok:=⟨by rw [a] at h;exact h,b⟩
theorem vk {w:Nat} (h:t.weight=(w:Int)):t.en=⟨t.v,t.r,w⟩:=by unfold Tk.en;rw [h];rfl
theorem DN {x:aC} {ts':List Tk} (h:rF x ng nl nu nt ns) (ht:abk ts'=nt):rF {x with ts:=ts'} ng nl nu nt ns:=⟨h.g,h.l,h.u,ht,h.s⟩
def Lv {x:aC} {a:List Rw} (h:rF x ng nl nu nt ns) (ht:abk a=ns):rF {x with rs:=a} ng nl nu nt ns:=⟨h.g,h.l,h.u,h.t,ht⟩
end
theorem nf {b:Bool} (h:b=true):¬b=false:=by rw [h];decide
theorem yB {b:Bool} (h:b=false):¬b=true:=by rw [h];decide
section
variable {x:aC} {o:bC} {k gt ct wt c d g:Nat} {t:Tk} {e:En} {z:Sp} {em:List Nat}
theorem qq9 (h1:nZ o.task=true) (h2:lV o.weight=true) (hk:fidx x.ts o.task=(k:Int)) (ht:x.ts[k]?=some t) (a:o.weight=(wt:Int)):yg x.av o=(({x with ts:=x.ts.set k (t.put ⟨t.v,0,wt⟩)}:aC).av,0,0):=by
 unfold yg
 rw [if_neg (nf h1),if_neg (nf h2),if_neg (by rw [show x.av.ts=x.ts from rfl,hk];omega),xu (s:=x.av) hk ht,show x.av.ts=x.ts from rfl,hk,abD,a]
 rfl
theorem q4i (h1:nZ o.task=true) (hk:fidx x.ts o.task=(k:Int)) (ht:x.ts[k]?=some t) (hr:t.ready=false) (b:t.group=(gt:Int)) (hc:t.cpu=(ct:Int)) (f:t.weight=(wt:Int)) (hz:x.av.spot gt ct=z) (h:(⟨t.v,t.r,wt⟩:En).woken z.floor x.aj=e) (a:kL x.av gt ct=em):
  xZ x.av o=(gD ({x with ts:=x.ts.set k {t.put e with ready:=true}}:aC).av em ct,0,0):=by
 unfold xZ
 rw [if_neg (nf h1),if_neg (by rw [show x.av.ts=x.ts from rfl,hk];omega),xu (s:=x.av) hk ht,if_neg (by rw [hr];decide)]
 show (gD (x.av.jr (fidx x.ts o.task).toNat {t.put (t.en.woken (x.av.spot t.group.toNat t.cpu.toNat).floor x.aj) with ready:=true}) (kL x.av t.group.toNat t.cpu.toNat) t.cpu.toNat,(0:Int),0)=_
 rw [hk,abD,b,hc,abD,abD,hz,vk f,h,a]
 rfl
theorem q9u (hc:o.cpu=(c:Int)) (a:x.av.eY o.cpu=true):kG x.av o=(({x with cu:=x.cu.set c (oK x.av c)}:aC).av,(oK x.av c:Int),0):=by
 unfold kG
 rw [if_neg (nf a),hc,abD]
 rfl
def DR (c d g:Nat) (s:aY):aY:=o9 c d g g s
def qra {c d g f:Nat} (b:∀i,0<i→i≤g→dS s.gs i) (h:g≤f):o9 c d f g s=o9 c d g g s:=by
 have key:∀(g f a:Nat) (s:aY),(∀i,0<i→i≤g→dS s.gs i)→g≤f→g≤a→o9 c d f g s=o9 c d a g s:=by
  intro g
  induction g using ae6 with
  | _ g j =>
   intro f a s b h1 h2
   by_cases h0:g=0
   ·subst h0
    cases f<;>cases a<;>simp [o9]
   ·obtain ⟨f,rfl⟩:∃k,f=k+1:=⟨f-1,by omega⟩
    obtain ⟨a,rfl⟩:∃k,a=k+1:=⟨a-1,by omega⟩
    have l:=b g om (abo _)
    unfold dS at l
    have e:(s.par g).toNat<g:=by show (s.gs.getD g Gr.zero).parent.toNat<g;omega
    rw [o9,o9,if_neg h0,if_neg h0]
    exact j (s.par g).toNat e f a _ (λi hi m=>b i hi om) om om
 exact key g f g s b h (abo _)
theorem qrb {s:aY} (b:∀i,0<i→i≤g→dS s.gs i) (h0:0<g) {p:Nat} (a:(s.gs.getD g Gr.zero).parent=(p:Int)):DR c d g s=DR c d p (s.uT g c ((s.j4 g c).add d)):=by
 obtain ⟨k,rfl⟩:∃k,g=k+1:=⟨g-1,by omega⟩
 have f:=b (k+1) h0 (abo _)
 unfold dS at f
 show o9 c d (k+1) (k+1) s=_
 rw [o9,if_neg om]
 have e:(s.par (k+1)).toNat=p:=by show (s.gs.getD (k+1) Gr.zero).parent.toNat=p;rw [a];rfl
 rw [e]
 exact qra (s:=s.uT (k+1) c ((s.j4 (k+1) c).add d)) (λi hi h=>b i hi om) om
theorem q4j (a:x.av.eY o.cpu=true) (h1:1≤o.ticks∧o.ticks≤4294967295) (hc:o.cpu=(c:Int)) {v:Int} (f:x.cl.getD c 0=v) (h2:¬281474976710656<v+o.ticks) (b:x.cu.getD c 0=0):jv x.av o=(({x with cl:=x.cl.set c (v+o.ticks)}:aC).av,0,0):=by
 unfold jv
 rw [if_neg (nf a),if_neg om,hc,abD,show x.av.cl=x.cl from rfl,f,if_neg h2]
 dsimp only
 rw [show x.av.cu=x.cu from rfl,if_pos b]
 rfl
theorem q9v (a:x.av.eY o.cpu=true) (h1:1≤o.ticks∧o.ticks≤4294967295) (hc:o.cpu=(c:Int)) (h:o.ticks=(d:Int)) {v id:Int} (i:x.cl.getD c 0=v) (h2:¬281474976710656<v+o.ticks) (b:x.cu.getD c 0=id) (f:id≠0)
  (hk:fidx x.ts id=(k:Int)) (ht:x.ts[k]?=some t) (j:t.group=(gt:Int)) (l:t.weight=(wt:Int)) (m:(⟨t.v,t.r,wt⟩:En).add d=e):
  jv x.av o=(DR c d gt ({x with cl:=x.cl.set c (v+d),ts:=x.ts.set k (t.put e)}:aC).av,id,0):=by
 unfold jv
 rw [if_neg (nf a),if_neg om,hc,abD,show x.av.cl=x.cl from rfl,i,if_neg h2]
 dsimp only
 rw [show x.av.cu=x.cu from rfl,b,if_neg f,xu (s:=x.av) hk ht,j,show x.av.ts=x.ts from rfl,hk,abD,abD,h,abD,vk l,m]
 rfl
def upd {α:Type} (f:α→α) (l:List α) (k:Nat):List α:=(l.take k).map f++l.drop k
theorem zfs (f:α→α) (l:List α) (k:Nat):abk (upd f l k)=abk l:=by grind [upd]
theorem q9w (f:α→α) (l:List α):upd f l 0=l:=rfl
theorem zft (f:α→α) (l:List α) {k:Nat} (h:abk l≤k):upd f l k=l.map f:=by grind [upd,acw,abI]
def zfu (f:α→α) {l:List α} {k j:Nat} (h:k≤j):(upd f l k)[j]?=l[j]?:=by grind [upd]
theorem zfv (f:α→α) {l:List α} {k:Nat} {z:α} (h:l[k]?=some z):(upd f l k).set k (f z)=upd f l (k+1):=by
 obtain ⟨a,rfl⟩:=aby.1 h
 unfold upd
 have h1:abk ((l.take k).map f)=k:=by rw [abv,abu];omega
 rw [List.set_append,if_neg (by rw [h1];omega),h1,Nat.sub_self,List.drop_eq_getElem_cons a,List.set_cons_zero,List.take_succ_eq_append_getElem a,List.map_append,abz]
 rfl
def r0 (z:Sp):Sp:={z with r:=0}
theorem qt5 (h:o.group=(g:Int)) (h1:1≤o.group∧o.group<abk x.rs) (h2:lV o.weight=true) {A:Option Addr} {m:Nat} {yl:List Sp} (hy:x.rs.getD g Rw.zero=⟨A,m,yl⟩) {f:Gr} (a:x.gs.getD g Gr.zero=f):
  yh x.av o=(({x with rs:=x.rs.set g ⟨A,m,yl.map r0⟩,gs:=x.gs.set g {f with weight:=o.weight}}:aC).av,0,0):=by
 have b:g<abk x.rs:=by omega
 unfold yh
 rw [if_neg (by rw [kU];omega),if_neg (nf h2),h,abD]
 unfold aC.av
 simp only [List.map_set]
 rw [Yt b,hy,a]
 rfl
def q9x {to:Nat} {h i:Sp} (ht:x.ts[k]?=some t) (j:t.group=(gt:Int)) (hc:t.cpu=(ct:Int)) (l:t.weight=(wt:Int)) (a:x.av.spot gt ct=h) (b:x.av.spot gt to=i) (m:(⟨t.v,t.r,wt⟩:En).moved h.floor i.floor=e) (f:kL x.av gt to=em):
  je x.av k (to:Int)=if t.ready=true then gD ({x with ts:=x.ts.set k {t.put e with cpu:=(to:Int)}}:aC).av em to else ({x with ts:=x.ts.set k {t.put e with cpu:=(to:Int)}}:aC).av:=by
 have e1:x.av.ts.getD k Tk.zero=t:=tN Tk.zero ht
 unfold je
 rw [e1]
 dsimp only
 rw [j,hc,abD,abD,abD,a,b,vk l,m,f]
 rfl
end
def Gi (W:World) (gm:Nat) (T:List Fact) (s:aY) (r:Ending) (w':World):Prop:=∃y:aC,r= .returned (.tuple #[])∧y.av=s∧Mem W w' (mE gm y++T)
section
variable {W w w':World} {F A T fs:List Fact} {x y:aC} {ng nl nu nt ns gm g c n:Nat}
def YV (n:Nat) (a:Mem W w F) (b:F.drop n=jq gm y ng nl nu nt ns++T) (d:rF y ng nl nu nt ns) (hs:y.av=s):Gi W gm T s (.returned (.tuple #[])) w:=⟨y,rfl,hs,(a.iD n b).toB d⟩
def YW {out:gW} {got:Int} (n:Nat) (b:Mem W w F) (d:F.drop n=mE gm y++T) (a:out=(y.av,got,e)):j5 W gm T out (.returned (.tuple #[.int .i64 got,.int .i64 (e:Int)])) w:=by
 subst a
 exact ⟨y,rfl,rfl,b.iD n d⟩
theorem q4l {rs a:List Rw} {E:Option Addr} {yl:List Sp} {z:Sp} (b:g<abk rs) (hz:yl[c]?=some z) (hr:a=rs.set g ⟨E,m,upd r0 yl c⟩):aN a g c (r0 z)=rs.set g ⟨E,m,upd r0 yl (c+1)⟩:=by grind [q7,r0,aN,upd,zfv,ad5]
end
def mF:Option Nat→Int
 |none=> -1
 |some b=>(b:Int)
def yC (s:aY) (o:bC) (be:Int) (t:Tk):Bool:=sK s o t&& (decide (be<0)||decide ((s.ts.getD be.toNat Tk.zero).weight<t.weight))
section
variable {s:aY} {o:bC} {n:Nat}
def YX:∀{n b:Nat},fV s o n=some b→b<n:=by intro x;induction x<;>grind [fV]
theorem YZ (hb:mF (fV s o n)=be):mF (fV s o (n+1))=if yC s o be (s.ts.getD n Tk.zero) then (n:Int) else be:=by grind [Tk.zero,fV,mF,sK,yC]
def Y0 (hb:mF (fV s o n)=be): -1≤be∧be<n:=by
 subst hb
 cases h:fV s o n with
 |none=>exact ⟨by decide,by show (-1:Int)<n;omega⟩
 |some b=>have:=YX h;exact ⟨by show (-1:Int)≤(b:Int);omega,by show (b:Int)<n;omega⟩
def qzm {cpu:Int} {M:Int} (a:∀c,aI s c≤M∧0≤aI s c) (h0:0≤M):∀n:Nat,-1≤(iE s cpu n).1∧(iE s cpu n).1<n∧ -1≤(iE s cpu n).2∧(iE s cpu n).2≤M:=by intro x;induction x<;>grind [iE,aI]
theorem Qm {cpu fr v:Int} (hb:iE s cpu n=(fr,v)):iE s cpu (n+1)=if (n:Int)≠cpu∧v<aI s n then ((n:Int),aI s n) else (fr,v):=by
 rw [iE,hb]
def qrd {o:bC} (a:x.av.eY o.cpu=true) (hb:mF (fV x.av o (abk x.ts))= -1):uU x.av o=(x.av,0,6):=by
 unfold uU
 rw [if_neg (nf a),show x.av.ts=x.ts from rfl]
 cases h:fV x.av o (abk x.ts) with
 |none=>rfl
 |some b=>rw [h] at hb;exact absurd hb (by show ((b:Nat):Int)≠ -1;omega)
def qre {o:bC} (a:x.av.eY o.cpu=true) (hb:mF (fV x.av o (abk x.ts))=(k:Int)) (ht:x.ts[k]?=some t):uU x.av o=(je x.av k o.cpu,t.id,0):=by
 unfold uU
 rw [if_neg (nf a),show x.av.ts=x.ts from rfl]
 cases h:fV x.av o (abk x.ts) with
 |none=>rw [h] at hb;exact absurd hb (by show (-1:Int)≠(k:Int);omega)
 |some b=>
  rw [h] at hb
  have e:b=k:=by have h1:(b:Int)=(k:Int):=hb;omega
  subst e
  dsimp only
  rw [tN Tk.zero ht]
def qt6 {o:bC} (h1:x.av.eY o.to=true) (h2:nZ o.task=true) (hk:fidx x.ts o.task=(k:Int)) (ht:x.ts[k]?=some t) (h3:o.task∉x.cu) (h4:t.cpu≠o.to) (h5:jd t.mask o.to=true):yj x.av o=(je x.av k o.to,0,0):=by
 unfold yj
 rw [if_neg (nf h1),if_neg (nf h2),if_neg (by rw [show x.av.ts=x.ts from rfl,hk];omega),if_neg (show ¬o.task∈x.av.cu from h3),xu (s:=x.av) hk ht,if_neg h4,if_neg (nf h5),show x.av.ts=x.ts from rfl,hk,abD]
end
theorem Qn (t:Tk):∀u∈bI t,u.oneCell'=true:=by simp [bI,acf]
def q4m (l:List Tk) (t:Tk):l.flatMap bI++bI t=(l++[t]).flatMap bI:=by simp
theorem mQ (l:List Tk):abk (l.flatMap bI)=abk l*8:=zk bI 8 qk l
def zT (m:Nat):List Value:=(abT (aeO Tk.zero.cells).cells m).toList
theorem Lx (m:Nat):abk (zT m)=m*8:=by unfold zT;rw [Array.length_toList,size_zeroCells];rfl
def zjj (m:Nat):∀v∈zT m,v.oneCell'=true:=by
 intro v a
 unfold zT abT at a
 simp only [Array.toList_map,acd] at a
 obtain ⟨k,_,rfl⟩:=a
 have hs:(aeO Tk.zero.cells).cells.size=8:=rfl
 have b:k% (aeO Tk.zero.cells).cells.size<8:=by rw [hs];exact Nat.mod_lt _ de
 generalize k% (aeO Tk.zero.cells).cells.size=j at b
 have:∀j,j<8→((aeO Tk.zero.cells).cells[j]!).oneCell'=true:=by decide
 exact this j b
theorem Mem.l9 (h:Mem W w fs) {j g n c a:Nat} {l q:List Tk} {ys:List Value} (hi:fs[j]?=some (.row (.slice (some ⟨g,0,none⟩) n c) n (l.flatMap bI++ys) 232 8)) (e:∃b,(l.drop a).take b=q) (f:a≤abk l):∀k v,(q.flatMap bI)[k]?=some v→w.cell? ((⟨g,a*8,none⟩:Addr).add k)=some v:=by
 obtain ⟨b,rfl⟩:=e
 intro k v d
 rw [acT]
 refine h.Kn hi (a*8) (ys:=((l.drop a).take b).flatMap bI) (λk v d=>?_) k v d
 have h1:l.flatMap bI=(l.take a).flatMap bI++(((l.drop a).take b).flatMap bI++((l.drop a).drop b).flatMap bI):=by
  rw [←abO,ab5,←abO,ab5]
 have h2:abk ((l.take a).flatMap bI)=a*8:=by rw [mQ,abu];omega
 have h3:=(aby.1 d).1
 rw [h1,abz,←h2,List.getElem?_append_right (Nat.le_add_right _ _),Nat.add_sub_cancel_left,abz,List.getElem?_append_left h3]
 exact d
def vo (l:List Tk) (id:Int):Nat:=abk (l.takeWhile λt=>decide (t.id≤id))
def Y1 (l:List Tk) (id:Int):vo l id≤abk l:=(aem _).length_le
theorem Y2 (l:List Tk) (id:Int):l.take (vo l id)=(l.takeWhile λt=>decide (t.id≤id))∧l.drop (vo l id)=(l.dropWhile λt=>decide (t.id≤id)):=by
 have h1:=adP (l₁:=l.takeWhile λt=>decide (t.id≤id)) (l₂:=l.dropWhile λt=>decide (t.id≤id))
 have h2:=List.drop_left (l₁:=l.takeWhile λt=>decide (t.id≤id)) (l₂:=l.dropWhile λt=>decide (t.id≤id))
 rw [aeP] at h1 h2
 exact ⟨h1,h2⟩
theorem Y3 {id:Int} {k:Nat} (hk:k≤abk l) (h:∀j,j<k→(l.getD j Tk.zero).id≤id) (hs:k=abk l∨id<(l.getD k Tk.zero).id):vo l id=k:=by
 induction l generalizing k with
 |nil=>simp at hk;subst hk;rfl
 | cons t r a =>
  unfold vo at*
  cases k with
  | zero =>
   rcases hs with h1|h1
   ·simp at h1
   ·have h2:¬t.id≤id:=by have h3:id<t.id:=h1;omega
    rw [aez,if_neg (by rw [decide_eq_true_eq];exact h2)]
    rfl
  | succ k =>
   have h0:t.id≤id:=h 0 om
   rw [aez,if_pos (by rw [decide_eq_true_eq];exact h0),abX]
   rw [a (k:=k) (by simpa using hk) (λj b=>h (j+1) om) (by
    rcases hs with h1|h1
    ·exact .inl (by simpa using h1)
    ·exact .inr h1)]
def rH (w:World) (l:List Tk) (id:Int) (r:Ending) (a:World):Prop:=(∃i:Int,r= .returned (.int .i64 i)∧(if i<0 then abk l else i.toNat)=vo l id∧ -1≤i∧i≤abk l)∧Below w.heap.size w a
def qzn {id:Int} (hk:k<abk l) (h:∀j,j<k→(l.getD j Tk.zero).id≤id) (hs:id<(l.getD k Tk.zero).id) (hb:Below w.heap.size w W):rH w l id (.returned (.int .i64 (k:Int))) W:=
 ⟨⟨k,rfl,by rw [if_neg om,Y3 om h (.inr hs)];rfl,by omega,by omega⟩,hb⟩
def qzo {id:Int} (h:∀j,j<abk l→(l.getD j Tk.zero).id≤id) (hb:Below w.heap.size w W):rH w l id (.returned (.int .i64 (-1))) W:=
 ⟨⟨-1,rfl,by rw [if_pos de,Y3 (abo _) h (.inl rfl)],by omega,by omega⟩,hb⟩
theorem qzp {id:Int} (h:∀j,j<k→(l.getD j Tk.zero).id≤id) (hk:(l.getD k Tk.zero).id≤id):∀j,j<k+1→(l.getD j Tk.zero).id≤id:=by grind
def iK (l:List Tk) (i:Nat) (t:Tk):List Tk:=l.take i++t::l.drop i
theorem Y4 (l:List Tk) (i:Nat) (t:Tk):(iK l i t).flatMap bI=(l.take i).flatMap bI++(bI t++(l.drop i).flatMap bI):=by
 unfold iK
 rw [abO,abL]
theorem LA (h:i≤abk l):abk (iK l i t)=abk l+1:=by grind [iK]
theorem q9y (h:i=abk l):l++[t]=iK l i t:=by
 subst h
 unfold iK
 rw [List.take_length,List.drop_length]
theorem q9z (h:i≤abk l):putAt (putAt ((l.take i).flatMap bI++zT (abk l+1-i)) (i*8) (bI t)) ((i+1)*8) ((l.drop i).flatMap bI)=(iK l i t).flatMap bI:=by
 have h1:abk ((l.take i).flatMap bI)=i*8:=by rw [mQ,abu];omega
 have h2:abk ((l.take i).flatMap bI++bI t)=(i+1)*8:=by rw [abm,h1,qk];omega
 have e:((zT (abk l+1-i)).drop (abk (bI t))).drop (abk ((l.drop i).flatMap bI))=[]:=acw (by rw [abH,Lx,qk,mQ,abH];omega)
 rw [←h1,KX,←h2,KX,Y4,e,abN,abz]
def q4n {ys:List Value} (h:i≤abk l) (hy:abk ys=8):putAt (putAt (l.flatMap bI++ys) ((i+1)*8) ((l.drop i).flatMap bI)) (i*8) (bI t)=(iK l i t).flatMap bI:=by
 have h1:abk ((l.take i).flatMap bI)=i*8:=by rw [mQ,abu];omega
 have h3:abk ((l.drop i).flatMap bI)=(abk l-i)*8:=by rw [mQ,abH]
 have h2:l.flatMap bI++ys=(l.take i).flatMap bI++((l.drop i).flatMap bI++ys):=by
  rw [←abz,←abO,ab5]
 rw [h2,show (i+1)*8=abk ((l.take i).flatMap bI)+8 by rw [h1];omega,qyw,←h1,KX,Y4,abz]
 congr 2
 rw [qk]
 unfold putAt
 have e:((l.drop i).flatMap bI++ys).drop (8+abk ((l.drop i).flatMap bI))=[]:=acw (by rw [abm,h3,hy];omega)
 rw [abz,List.drop_left' (by rw [abu,abm,h3,hy];omega),e,abN]
def q90 (h:i<abk l):(l.take i).flatMap bI++(l.drop (i+1)).flatMap bI=(l.eraseIdx i).flatMap bI:=by
 rw [←abO,List.eraseIdx_eq_take_drop_succ]
section
variable {x:aC} {o:bC} {k g c z:Nat} {t t1:Tk} {em:List Nat} {id:Int}
theorem qzq (a:x.av.eY o.cpu=true) (hc:o.cpu=(c:Int)) (b:x.cu.getD c 0=id) (d:id≠0) (hk:fidx x.ts id=(k:Int)) (ht:x.ts[k]?=some t) (e:o.kind≠4):rD x.av o=(({x with cu:=x.cu.set c 0,ts:=x.ts.set k {t with ready:=false}}:aC).av,id,0):=by
 unfold rD
 rw [if_neg (nf a),hc,abD,show x.av.cu=x.cu from rfl,b,if_neg d]
 dsimp only
 rw [show x.av.ts=x.ts from rfl,hk,abD,tN Tk.zero ht,if_neg e]
 rfl
theorem q91 (a:x.av.eY o.cpu=true) (hc:o.cpu=(c:Int)) (b:x.cu.getD c 0=id) (d:id≠0) (hk:fidx x.ts id=(k:Int)) (ht:x.ts[k]?=some t) (e:o.kind=4):rD x.av o=(({x with cu:=x.cu.set c 0,ts:=(x.ts.set k {t with ready:=false}).eraseIdx k}:aC).av,id,0):=by
 unfold rD
 rw [if_neg (nf a),hc,abD,show x.av.cu=x.cu from rfl,b,if_neg d]
 dsimp only
 rw [show x.av.ts=x.ts from rfl,hk,abD,tN Tk.zero ht,if_pos e]
 rfl
theorem Y5 (a:x.av.eY o.cpu=true) (h1:nZ o.task=true) (h2:0≤o.group∧o.group<abk x.rs) (h3:¬(lV o.weight=false∨o.mask=0∨wX o.mask x.ak=true)) (h4:fidx x.ts o.task<0) (h5:jd o.mask o.cpu=true) (d:o.group=(g:Int)) (hc:o.cpu=(c:Int)) {m:Nat} (hz:(x.av.spot g c).floor=m)
  (ht:(⟨o.task,o.group,o.weight,o.cpu,o.mask,true,m,0⟩:Tk)=t1) (b:kL x.av g c=em):xY x.av o=(gD ({x with ts:=iK x.ts (vo x.ts o.task) t1}:aC).av em c,0,0):=by
 unfold xY
 rw [if_neg (nf a),if_neg (nf h1),if_neg (by rw [kU];omega),if_neg (show ¬(lV o.weight=false∨o.mask=0∨wX o.mask x.av.ak=true) from h3),if_neg (by rw [show x.av.ts=x.ts from rfl];omega),if_neg (nf h5),d,hc,abD,abD,b,hz]
 rw [d,hc] at ht
 rw [show x.av.ts=x.ts from rfl,ht]
 unfold iK
 rw [(Y2 x.ts o.task).1,(Y2 x.ts o.task).2]
 rfl
end
structure iL (s:aY):Prop where
 ok:s.Ok
 ak:1≤s.ak∧s.ak≤64
 aj:s.aj≤1099511627776
 gs:bV s.gs=true
 cl:(abk s.cl:Int)=s.ak
 cu:(abk s.cu:Int)=s.ak
 sp:abk s.sp=abk s.gs
 cls:∀c,c<abk s.cl→gU (s.cl.getD c 0)=true
 rows:∀g,g<abk s.sp→(abk (s.sp.getD g []):Int)=s.ak
 spots:∀(g c:Nat),g<abk s.sp→(c:Int)<s.ak→dK s g (s.spot g c)=true
 sort:d9 s.ts
 tasks:∀t∈s.ts,eX t s.ak (abk s.sp)
def jy (s:aY):Prop:=∀c,c<abk s.cu→s.cu.getD c 0=0∨∃t∈s.ts,t.id=s.cu.getD c 0∧t.ready=true∧t.cpu=(c:Int)
structure GoodS (s:aY):Prop where
 sh:iL s
 cur:jy s
theorem Y6:(∀i,i<abk s.ts→(i=0∨(s.ts.getD (i-1) Tk.zero).id<(s.ts.getD i Tk.zero).id))↔d9 s.ts:=by
 constructor
 ·intro h i j a
  induction j with
  |zero=>omega
  |succ j b=>
   grind
 ·intro h i hi
  rcases acn i with h0|h0
  ·exact .inl h0
  ·exact .inr (h (i-1) i om hi)
def qbv {l:List α} {x:α} (d:α) (h:x∈l):∃i,i<abk l∧l.getD i d=x:=by
 obtain ⟨i,hi,rfl⟩:=acz h
 exact ⟨i,hi,by rw [abn,abt hi];rfl⟩
theorem LB (b:s.Ok):nk s=true↔iL s:=by
 unfold nk fF KZ
 simp only [abC,decide_eq_true_eq]
 constructor
 ·rintro ⟨⟨⟨⟨h1,h2,h3⟩,h4⟩,h5,h6,h7⟩,h8,h9,h10⟩
  have d:∀g,g<abk s.sp→(abk (s.sp.getD g []):Int)=s.ak∧∀c,c<abk (s.sp.getD g [])→dK s g (s.spot g c)=true:=λg a=>by
   grind [uM,rowOk]
  have ht:∀i,i<abk s.ts→(i=0∨(s.ts.getD (i-1) Tk.zero).id<(s.ts.getD i Tk.zero).id)∧dJ s (s.ts.getD i Tk.zero)=true:=λi hi=>by
   grind [uM,iP]
  refine ⟨b,⟨h1,h2⟩,h3,h4,h5,h6,h7,λc hc=>uM h8 hc,λg a=>(d g a).1,λg c a hc=>(d g a).2 c (by have:=(d g a).1;omega),Y6.1 λi hi=>(ht i hi).1,λt e=>?_⟩
  obtain ⟨i,hi,rfl⟩:=qbv Tk.zero e
  exact Ql.1 (ht i hi).2
 ·intro h
  refine ⟨⟨⟨⟨h.ak.1,h.ak.2,h.aj⟩,h.gs⟩,h.cl,h.cu,h.sp⟩,uL h.cls,uL λg a=>?_,uL λi hi=>?_⟩
  ·unfold rowOk
   rw [abC,decide_eq_true_eq]
   exact ⟨h.rows g a,uL λc hc=>h.spots g c a (by have:=h.rows g a;omega)⟩
  ·unfold iP
   rw [abC,adE,beq_iff_eq,decide_eq_true_eq]
   exact ⟨Y6.2 h.sort i hi,Ql.2 (h.tasks _ (qe Tk.zero hi))⟩
def Y7 (hs:d9 l) (h1:∀t∈l,1≤t.id):∀i:Nat,i<abk l→((i:Nat):Int)+1≤(l.getD i Tk.zero).id
 |0,h=>by have:=h1 _ (qe Tk.zero h);omega
 |i+1,h=>by
  have:=Y7 hs h1 i om
  have:=hs i (i+1) om h
  omega
theorem iL.few (h:iL s):abk s.ts≤65535:=by
 rcases acn (abk s.ts) with h0|h0
 ·omega
 ·have h1:=Y7 h.sort (λt ht=>(h.tasks t ht).id.1) (abk s.ts-1) om
  have h2:=(h.tasks _ (qe Tk.zero (show abk s.ts-1<abk s.ts by omega))).id.2
  omega
def zfw (hs:d9 l) {t u:Tk} (ht:t∈l) (a:u∈l) (h:t.id=u.id):t=u:=by
 obtain ⟨i,hi,rfl⟩:=qbv Tk.zero ht
 obtain ⟨j,b,rfl⟩:=qbv Tk.zero a
 rcases acj i j with h1|h1
 ·have:=hs i j h1 b;omega
 ·rcases acj j i with h2|h2
  ·have:=hs j i h2 hi;omega
  ·rw [show i=j by omega]
def Y8 (hs:d9 l) {i:Nat} (hi:i<abk l):fidx l (l.getD i Tk.zero).id=(i:Int):=by
 unfold fidx
 rw [Pp hi rfl (λk a=>by have:=hs k i a hi;omega)]
theorem LC (hs:d9 s.ts):(∀c,c<abk s.cu→dV s c=true)↔jy s:=by
 have key:∀c,dV s c=true↔(s.cu.getD c 0=0∨∃t∈s.ts,t.id=s.cu.getD c 0∧t.ready=true∧t.cpu=(c:Int)):=by
  intro c
  unfold dV
  rw [adE,decide_eq_true_eq]
  refine or_congr Iff.rfl ?_
  constructor
  ·grind [Tk.zero,Pq,qe]
  ·rintro ⟨t,ht,h1,h2,h3⟩
   obtain ⟨i,hi,rfl⟩:=qbv Tk.zero ht
   rw [←h1,Pp hi rfl (λk a=>by have:=hs k i a hi;omega)]
   grind
 exact ⟨λh c hc=>(key c).1 (h c hc),λh c hc=>(key c).2 (h c hc)⟩
def LD {y:aC} (h:iL y.av):dB y (abk y.gs) (abk y.cl) (abk y.cu) (abk y.ts) (abk y.rs):=by
 have h1:=(qp h.gs).2.1
 have a:abk y.gs≤256:=h1
 have h2:abk y.rs=abk y.gs:=by rw [←kU];exact h.sp
 have h3:(abk y.cl:Int)=y.ak:=h.cl
 have h4:(abk y.cu:Int)=y.ak:=h.cu
 have h5:1≤y.ak∧y.ak≤64:=h.ak
 have h6:abk y.ts≤65535:=h.few
 refine ⟨h.ok,⟨by omega,by omega,by omega,by omega,by omega,λr b=>?_⟩,uQ ((LB h.ok).2 h),⟨rfl,rfl,rfl,rfl,rfl⟩⟩
 obtain ⟨g,a,rfl⟩:=qbv Rw.zero b
 have h7:=h.rows g (by rw [kU];exact a)
 rw [jT a] at h7
 have h8:((y.rs.getD g Rw.zero).l.length:Int)=y.ak:=h7
 omega
section
variable {s:aY} {g c i:Nat} {z:Sp} {t t':Tk}
def q92 (d:g<abk s.sp) (hc:c<abk (s.sp.getD g [])):∀a b,(s.uS g c z).spot a b=if a=g∧b=c then z else s.spot a b:=by grind [aY.uS,aY.spot,getD_set_ne,q7]
theorem DT:(s.uS g c z).sp.length=abk s.sp:=abG ..
theorem Y9 (a:Nat):abk ((s.uS g c z).sp.getD a [])=abk (s.sp.getD a []):=by grind [aY.uS,getD_set_ne,q7]
theorem iL.spot (h:iL s) (b:g<abk s.sp) (hc:(c:Int)<s.ak) (hz:z.Ok) (hs:dK s g z=true):iL (s.uS g c z):=by
 have k:=h.rows g b
 have d:=q92 (z:=z) b (show c<abk (s.sp.getD g []) by omega)
 refine ⟨⟨h.ok.ak,h.ok.aj,h.ok.gs,h.ok.cl,h.ok.cu,h.ok.ts,λl n y m=>?_⟩,h.ak,h.aj,h.gs,h.cl,h.cu,DT.trans h.sp,h.cls,λf a=>?_,λf o a j=>?_,h.sort,λu p=>?_⟩
 ·rcases abW (show l∈s.sp.set g ((s.sp.getD g []).set c z) from n) with h1|rfl
  ·exact h.ok.sp l h1 y m
  ·rcases abW m with h2|rfl
   ·exact h.ok.sp _ (qe [] b) y h2
   ·exact hz
 ·rw [Y9];exact h.rows f (by rwa [DT] at a)
 ·rw [d]
  rw [DT] at a
  split
  ·rename_i e;rw [e.1];exact hs
  ·exact h.spots f o a j
 ·rw [DT];exact h.tasks u p
def q93 (hs:d9 l) (ht:l[i]?=some t) (f:t'.id=t.id):d9 (l.set i t'):=by
 have key:∀k,((l.set i t').getD k Tk.zero).id=(l.getD k Tk.zero).id:=by
  grind
 intro a b d e
 rw [abG] at e
 rw [key,key]
 exact hs a b d e
theorem iL.task (h:iL s) (ht:s.ts[i]?=some t) (a:t'.id=t.id) (d:t'.Ok) (e:eX t' s.ak (abk s.sp)):iL (s.jr i t'):=by
 refine ⟨⟨h.ok.ak,h.ok.aj,h.ok.gs,h.ok.cl,h.ok.cu,λu b=>?_,h.ok.sp⟩,h.ak,h.aj,h.gs,h.cl,h.cu,h.sp,h.cls,h.rows,h.spots,q93 h.sort ht a,λu b=>?_⟩
 ·rcases abW b with h1|rfl
  ·exact h.ok.ts u h1
  ·exact d
 ·rcases abW b with h1|rfl
  ·exact h.tasks u h1
  ·exact e
theorem jy.task (h:jy s) (hs:d9 s.ts) (ht:s.ts[i]?=some t) (a:t'.id=t.id) (hr:t.ready=true→(∃c,c<abk s.cu∧s.cu.getD c 0=t.id∧t.cpu=(c:Int))→t'.ready=true∧t'.cpu=t.cpu):jy (s.jr i t'):=by
 intro c hc
 rcases h c hc with h1|⟨u,f,h1,h2,h3⟩
 ·exact .inl h1
 ·refine .inr ?_
  have hi:=(aby.1 ht).1
  have b:t∈s.ts:=abF ht
  by_cases e:u.id=t.id
  ·have e2:=zfw hs f b e
   subst e2
   obtain ⟨h4,h5⟩:=hr h2 ⟨c,hc,h1.symm,h3⟩
   exact ⟨t',abF (acJ hi),a.trans h1,h4,h5.trans h3⟩
  ·obtain ⟨j,k,rfl⟩:=qbv Tk.zero f
   have d:i≠j:=λe2=>e (by subst e2;rw [tN Tk.zero ht])
   refine ⟨s.ts.getD j Tk.zero,?_,h1,h2,h3⟩
   have h6:(s.ts.set i t')[j]?=some (s.ts.getD j Tk.zero):=by rw [aex d];exact getD_at Tk.zero k
   exact abF h6
theorem jy.spot (h:jy s):jy (s.uS g c z):=h
end
section
variable {s:aY} {g c i d:Nat} {z:Sp} {t t':Tk} {e:En} {o:bC}
def q4q (h:iL s) (a:g<abk s.gs):∃w:Nat,(s.gs.getD g Gr.zero).weight=(w:Int)∧1≤w∧w≤65536:=DJ h.gs a
def q94 (h0:0<g) (h:bL z.v z.r (s.gs.getD g Gr.zero).weight=true):dK s g z=true:=by grind [dK]
def q95 (h:iL s) (a:g<abk s.sp) (hc:(c:Int)<s.ak):bL (s.spot g c).v (s.spot g c).r (s.gs.getD g Gr.zero).weight=true:=by
 have:=h.spots g c a hc
 unfold dK at this
 rw [abC] at this
 exact this.1
def Za (h:iL s) (b:g<abk s.sp) (hc:(c:Int)<s.ak):(s.j4 g c).Ok∧((s.j4 g c).w:Int)=(s.gs.getD g Gr.zero).weight:=by
 obtain ⟨w,a,_⟩:=q4q h (g:=g) (by rw [←h.sp];exact b)
 have h1:=q95 h b hc
 have e:s.j4 g c=⟨(s.spot g c).v,(s.spot g c).r,w⟩:=by unfold aY.j4;rw [a];rfl
 rw [e]
 exact ⟨aaj h1 a (yx h.ok g c).v,a.symm⟩
def Gj {v w:Nat} (h:bL v r w=true):r<65536:=by
 unfold bL at h
 rw [decide_eq_true_eq] at h
 omega
theorem iL.run (h:iL s) (h0:0<g) (b:g<abk s.sp) (hc:(c:Int)<s.ak) (a:e.Ok) (f:(e.w:Int)=(s.gs.getD g Gr.zero).weight):iL (s.uT g c e):=by
 refine h.spot b hc ⟨a.2,?_,(yx h.ok g c).floor⟩ (q94 h0 ?_)
 ·show e.r<_
  have:=Gj a.1
  omega
 ·show bL e.v e.r _=true
  rw [←f];exact a.1
theorem Zb:(s.uT g c e).sp.length=abk s.sp:=DT
def iL.wake (h:iL s) (hc:(c:Int)<s.ak):∀(l:List Nat),(∀g∈l,0<g∧g<abk s.sp)→iL (gD s l c):=by
 intro l
 induction l generalizing s with
 |nil=>intro _;exact h
 |cons g r k=>
  intro b
  have f:=b g (acB ..)
  have h1:=Za h f.2 hc
  have h2:=aaw h1.1 (s.spot (s.par g).toNat c).floor s.aj (yx h.ok _ _).floor
  have h3:iL (lG c s g):=h.run f.1 f.2 hc h2.1 (by rw [h2.2];exact h1.2)
  exact k (s:=lG c s g) h3 hc λj a=>⟨(b j (ab2 _ a)).1,by rw [show (lG c s g).sp.length=abk s.sp from Zb];exact (b j (ab2 _ a)).2⟩
structure dw (s s':aY):Prop where
 ak:s'.ak=s.ak
 aj:s'.aj=s.aj
 gs:s'.gs=s.gs
 cl:s'.cl=s.cl
 cu:s'.cu=s.cu
 ts:s'.ts=s.ts
 len:abk s'.sp=abk s.sp
 row:∀g,abk (s'.sp.getD g [])=abk (s.sp.getD g [])
theorem dw.refl (s:aY):dw s s:=⟨rfl,rfl,rfl,rfl,rfl,rfl,rfl,λ_=>rfl⟩
theorem dw.trans {a b c:aY} (h:dw a b) (k:dw b c):dw a c:=⟨k.ak.trans h.ak,k.aj.trans h.aj,k.gs.trans h.gs,k.cl.trans h.cl,k.cu.trans h.cu,k.ts.trans h.ts,k.len.trans h.len,λg=>(k.row g).trans (h.row g)⟩
theorem dw.spot:dw s (s.uS g c z):=⟨rfl,rfl,rfl,rfl,rfl,rfl,DT,Y9⟩
theorem qc3 (c:Nat):∀(l:List Nat) (s:aY),dw s (gD s l c)
 |[],s=>dw.refl s
 |g::r,s=>(dw.spot (s:=s)).trans (qc3 c r (lG c s g))
theorem Qo (c d:Nat):∀(f g:Nat) (s:aY),dw s (o9 c d f g s)
 |0,_,s=>dw.refl s
 |f+1,g,s=>by
  rw [o9]
  split
  ·exact dw.refl s
  ·exact (dw.spot (s:=s)).trans (Qo c d f _ _)
def iL.BS (h:iL s) (hc:(c:Int)<s.ak) (d:Nat):∀(f g:Nat),g<abk s.sp→iL (o9 c d f g s):=by
 intro f
 induction f generalizing s with
 |zero=>intro g _;exact h
 | succ f b =>
  intro g a
  rw [o9]
  split
  ·exact h
  ·rename_i h0
   have h1:=Za h a hc
   have h2:=aas h1.1 d
   have h3:iL (s.uT g c ((s.j4 g c).add d)):=h.run om a hc h2.1 (by rw [h2.2];exact h1.2)
   have j:=uO h.gs (g:=g) (by rw [←h.sp];exact a) g om (abo _)
   unfold dS at j
   exact b (s:=s.uT g c ((s.j4 g c).add d)) h3 hc _ (by rw [Zb];show (s.gs.getD g Gr.zero).parent.toNat<_;omega)
theorem Qp (a:g<abk s.sp):(fA s).sp.getD g []=(s.sp.getD g []).mapIdx λc x=>gV s g c x:=by grind [fA]
theorem yD:(fA s).sp.length=abk s.sp:=by unfold fA;dsimp only;rw [List.length_mapIdx]
theorem Zc (g:Nat):abk ((fA s).sp.getD g [])=abk (s.sp.getD g []):=by grind [Qp,yD]
theorem Zd (a:g<abk s.sp) (hc:c<abk (s.sp.getD g [])):(fA s).spot g c=gV s g c (s.spot g c):=by grind [aY.spot,Qp]
theorem Qq (g c:Nat):((fA s).spot g c).v=(s.spot g c).v∧((fA s).spot g c).r=(s.spot g c).r:=by grind [aY.spot,YR,fA,yD,Zc,Zd]
theorem q96 (g c:Nat):aO (fA s) g c=aO s g c:=by grind [YQ,fA,yD,Qq]
def zjk (a:s.Ok) (b:aO s g c≠[]):(aJ bB (aO s g c)).v<18446744073709551616:=by
 rcases Lj (Qi a b) with ⟨t,ht,_,h2⟩|⟨h,_,_,_,_,h5⟩
 ·rw [h2];exact (a.ts t ht).v
 ·rw [h5];exact (yx a h c).v
def q97 (a:s.Ok) (hz:z.Ok):(gV s g c z).Ok:=by
 unfold gV
 split
 ·exact hz
 ·rename_i b
  have:=zjk a (show aO s g c≠[] by simpa using b)
  refine ⟨hz.v,hz.r,?_⟩
  show max z.floor (aJ bB (aO s g c)).v<_
  have:=hz.floor
  rw [af3]
  split<;>omega
def zfx {s s':aY} (a:s'.gs=s.gs) {z b:Sp} (f:b.v=z.v) (hr:b.r=z.r):dK s' g b=dK s g z:=by
 unfold dK
 rw [a,f,hr]
theorem iL.rise (h:iL s):iL (fA s):=by
 refine ⟨⟨h.ok.ak,h.ok.aj,h.ok.gs,h.ok.cl,h.ok.cu,h.ok.ts,λl f y b=>?_⟩,h.ak,h.aj,h.gs,h.cl,h.cu,yD.trans h.sp,h.cls,λg a=>?_,λg c a hc=>?_,h.sort,λu j=>?_⟩
 ·obtain ⟨g,a,rfl⟩:=qbv [] f
  rw [yD] at a
  rw [Qp a] at b
  obtain ⟨c,hc,rfl⟩:=acz b
  rw [List.getElem_mapIdx]
  exact q97 h.ok (h.ok.sp _ (qe [] a) _ (aei _))
 ·rw [Zc];exact h.rows g (by rwa [yD] at a)
 ·rw [yD] at a
  have e:=zfx (s:=s) (s':=fA s) (g:=g) rfl (Qq (s:=s) g c).1 (Qq (s:=s) g c).2
  rw [e]
  exact h.spots g c a hc
 ·rw [yD];exact h.tasks u j
theorem GoodS.rise (h:GoodS s):GoodS (fA s):=⟨h.sh.rise,h.cur⟩
theorem qzr (h:GoodS s):kD (fA s)=true:=by
 have a:=h.rise
 unfold kD
 rw [(LB a.sh.ok).2 a.sh,acF]
 refine uL λc hc=>?_
 rw [(LC a.sh.sort).2 a.cur c hc,acF]
 refine uL λg b=>?_
 rw [yD] at b
 have f:(c:Int)<s.ak:=by have h1:=h.sh.cu;have h2:c<abk s.cu:=hc;omega
 have j:c<abk (s.sp.getD g []):=by have:=h.sh.rows g b;omega
 grind [kF,aO,gV,q96,Zd]
def Qr (a:s.Ok) (h:kD s=true):GoodS s:=by
 unfold kD at h
 rw [abC] at h
 have h1:=(LB a).1 h.1
 refine ⟨h1,(LC h1.sort).1 λc hc=>?_⟩
 grind [uM]
def Gl (h:iL s) (ht:s.ts[i]?=some t):eX t s.ak (abk s.sp)∧t.Ok:=⟨h.tasks t (abF ht),h.ok.ts t (abF ht)⟩
def LG (a:eX t s.ak (abk s.sp)) (b:t.Ok) (f:e.Ok):eX (t.put e) s.ak (abk s.sp)∧(t.put e).Ok:=by
 have h1:=f.1
 unfold bL at h1
 rw [decide_eq_true_eq] at h1
 refine ⟨⟨a.id,a.group,a.cpu,⟨h1.1,h1.2.1⟩,a.mask,a.bit,f.1⟩,⟨b.id,b.group,?_,b.cpu,b.mask,f.2,?_⟩⟩
 ·show aQ ((e.w:Nat):Int);unfold aQ;omega
 ·show e.r<_;omega
def Ze (a:eX t s.ak (abk s.sp)) (f:t.Ok) (b:Bool):eX {t with ready:=b} s.ak (abk s.sp)∧({t with ready:=b}:Tk).Ok:=⟨⟨a.id,a.group,a.cpu,a.weight,a.mask,a.bit,a.ent⟩,⟨f.id,f.group,f.weight,f.cpu,f.mask,f.v,f.r⟩⟩
def Qs (a:eX t s.ak (abk s.sp)) (b:t.Ok):t.en.Ok∧(t.en.w:Int)=t.weight:=by
 have h1:=a.weight
 have e:t.en=⟨t.v,t.r,t.weight.toNat⟩:=rfl
 rw [e]
 exact ⟨aaj a.ent om b.v,by show ((t.weight.toNat:Nat):Int)=t.weight;omega⟩
def Qt {id:Int} (h:¬fidx s.ts id<0):∃(k:Nat) (t:Tk),fidx s.ts id=(k:Int)∧s.ts[k]?=some t∧t.id=id∧og s id=t:=by grind [Gh,xu]
theorem Qu (h:iL s) (a:g<abk s.sp):∀k∈kL s g c,0<k∧k<abk s.sp:=λk b=>by
 have:=YI (s:=s) (c:=c) (g:=g) (uO h.gs (by rw [←h.sp];exact a)) k b
 exact ⟨this.1,by omega⟩
theorem jy.but {s s':aY} (h:jy s) (hb:dw s s'):jy s':=by
 unfold jy
 rw [hb.cu,hb.ts]
 exact h
theorem qzs (h:GoodS s) (a:(xZ s o).2.2=0):GoodS (xZ s o).1:=by
 unfold xZ at a⊢
 split at a
 ·cases a
 ·split at a
  ·cases a
  ·rename_i h1 h2
   rw [if_neg h1,if_neg h2]
   split at a
   ·cases a
   ·rename_i h3
    rw [if_neg h3]
    obtain ⟨k,t,u,ht,v,b⟩:=Qt h2
    rw [b] at h3
    simp only [b,u,abD]
    obtain ⟨f,p⟩:=Gl h.sh ht
    have j:t.group.toNat<abk s.sp:=by have:=f.group;omega
    have l:=Qs f p
    have w:=aaw l.1 (s.spot t.group.toNat t.cpu.toNat).floor s.aj (yx h.sh.ok _ _).floor
    have q:=LG f p w.1
    have r:=Ze q.1 q.2 true
    have m:iL (s.jr k {t.put (t.en.woken (s.spot t.group.toNat t.cpu.toNat).floor s.aj) with ready:=true}):=h.sh.task ht rfl r.2 r.1
    have n:jy (s.jr k {t.put (t.en.woken (s.spot t.group.toNat t.cpu.toNat).floor s.aj) with ready:=true}):=h.cur.task h.sh.sort ht rfl λx _=>absurd x h3
    exact ⟨m.wake (by show ((t.cpu.toNat:Nat):Int)<s.ak;have:=f.cpu;omega) _ (Qu h.sh j),n.but (qc3 ..)⟩
theorem qon (h:GoodS s) (a:(yg s o).2.2=0):GoodS (yg s o).1:=by
 unfold yg at a⊢
 split at a
 ·cases a
 ·split at a
  ·cases a
  ·rename_i h1 h2
   rw [if_neg h1,if_neg h2]
   split at a
   ·cases a
   ·rename_i h3
    rw [if_neg h3]
    obtain ⟨k,t,l,ht,m,b⟩:=Qt h3
    simp only [b,l,abD]
    obtain ⟨n,f⟩:=Gl h.sh ht
    have q:1≤o.weight∧o.weight≤65536:=by simpa [lV] using h2
    obtain ⟨z,hz⟩:∃z:Nat,o.weight=(z:Int):=⟨o.weight.toNat,by omega⟩
    have j:=LG n f (e:=⟨t.v,0,z⟩) ⟨by unfold bL;rw [decide_eq_true_eq];exact ⟨by show (1:Int)≤(z:Int);omega,by show (z:Int)≤_;omega,by show ((0:Nat):Int)<(z:Int);omega,.inr rfl⟩,f.v⟩
    have e:({t with r:=0,weight:=o.weight}:Tk)=t.put ⟨t.v,0,z⟩:=by rw [hz];rfl
    rw [e]
    exact ⟨h.sh.task ht rfl j.2 j.1,h.cur.task h.sh.sort ht rfl λp _=>⟨p,rfl⟩⟩
def zfy (h:iL s) {v:Int} (f:0≤v∧v≤281474976710656):iL {s with cl:=s.cl.set c v}:=by
 refine ⟨⟨h.ok.ak,h.ok.aj,h.ok.gs,λz hz=>?_,h.ok.cu,h.ok.ts,h.ok.sp⟩,h.ak,h.aj,h.gs,by show (abk (s.cl.set c v):Int)=_;rw [abG];exact h.cl,h.cu,h.sp,λd b=>?_,h.rows,h.spots,h.sort,h.tasks⟩
 ·rcases abW hz with h1|rfl
  ·exact h.ok.cl z h1
  ·unfold aQ;omega
 ·have a:d<abk (s.cl.set c v):=b
  show gU ((s.cl.set c v).getD d 0)=true
  rw [abG] at a
  by_cases e:c=d
  ·grind [gU,q7]
  ·rw [getD_set_ne _ _ e]
   exact h.cls d a
def Zf (h:iL s) {v:Int} (a:aQ v):iL {s with cu:=s.cu.set c v}:=by
 refine ⟨⟨h.ok.ak,h.ok.aj,h.ok.gs,h.ok.cl,λz hz=>?_,h.ok.ts,h.ok.sp⟩,h.ak,h.aj,h.gs,h.cl,by show (abk (s.cu.set c v):Int)=_;rw [abG];exact h.cu,h.sp,h.cls,h.rows,h.spots,h.sort,h.tasks⟩
 rcases abW hz with h1|rfl
 ·exact h.ok.cu z h1
 ·exact a
def DU {x:Int} (h:¬s.eY x=false):0≤x∧x<s.ak:=by
 unfold aY.eY at h
 simpa using h
theorem q4u (h:GoodS s) (a:(jv s o).2.2=0):GoodS (jv s o).1:=by
 unfold jv at a⊢
 split at a
 ·cases a
 ·split at a
  ·cases a
  ·rename_i h1 h2
   rw [if_neg h1,if_neg h2]
   split at a
   ·cases a
   ·rename_i h3
    rw [if_neg h3]
    have hc:=DU h1
    have b:=h.sh.cls o.cpu.toNat (by have:=h.sh.cl;omega)
    have w:0≤s.cl.getD o.cpu.toNat 0∧s.cl.getD o.cpu.toNat 0≤281474976710656:=by unfold gU at b;simpa using b
    have f:iL {s with cl:=s.cl.set o.cpu.toNat (s.cl.getD o.cpu.toNat 0+o.ticks)}:=zfy h.sh ⟨by omega,by omega⟩
    dsimp only at a⊢
    by_cases h4:s.cu.getD o.cpu.toNat 0=0
    ·rw [if_pos h4];exact ⟨f,h.cur⟩
    ·rw [if_neg h4]
     rcases h.cur o.cpu.toNat (by have:=h.sh.cu;omega) with h5|⟨t,l,j,B,m⟩
     ·exact absurd h5 h4
     ·obtain ⟨k,x,rfl⟩:=qbv Tk.zero l
      have n:=Y8 h.sh.sort x
      have ht:=getD_at Tk.zero x
      obtain ⟨t,p⟩:∃t,s.ts.getD k Tk.zero=t:=⟨_,rfl⟩
      rw [p] at j B m n ht
      rw [←j,n,xu n ht,abD]
      obtain ⟨q,y⟩:=Gl h.sh ht
      have r:=Qs q y
      have C:=aas r.1 o.ticks.toNat
      have A:=LG q y C.1
      have u:iL ({s with cl:=s.cl.set o.cpu.toNat (s.cl.getD o.cpu.toNat 0+o.ticks)}.jr k (t.put (t.en.add o.ticks.toNat))):=f.task ht rfl A.2 A.1
      have v:jy ({s with cl:=s.cl.set o.cpu.toNat (s.cl.getD o.cpu.toNat 0+o.ticks)}.jr k (t.put (t.en.add o.ticks.toNat))):=jy.task (s:={s with cl:=s.cl.set o.cpu.toNat (s.cl.getD o.cpu.toNat 0+o.ticks)}) h.cur h.sh.sort ht rfl λD _=>⟨D,rfl⟩
      exact ⟨u.BS (by show ((o.cpu.toNat:Nat):Int)<s.ak;omega) _ _ _ (by show t.group.toNat<abk s.sp;have:=q.group;omega),v.but (Qo ..)⟩
def q98 (a:s.Ok):∀(n g:Nat),g<abk s.sp→abk s.sp-g≤n→vg s c g=0∨∃t∈s.ts,t.ready=true∧t.cpu=(c:Int)∧vg s c g=t.id.toNat:=by
 intro n
 induction n with
 |zero=>intro g b f;omega
 |succ n h=>
  grind [Tk.here,Ll,YM,YK,YL,aO]
theorem q4v (h:GoodS s) (a:(kG s o).2.2=0):GoodS (kG s o).1:=by
 unfold kG at a⊢
 split at a
 ·cases a
 ·rename_i h1
  rw [if_neg h1]
  have hc:=DU h1
  have j:=(qp h.sh.gs).1
  have f:=q98 (c:=o.cpu.toNat) h.sh.ok (abk s.sp) 0 (by rw [h.sh.sp];omega) om
  rw [←q37] at f
  have k:aQ ((oK s o.cpu.toNat:Nat):Int):=by
   unfold aQ
   rcases f with h2|⟨t,ht,_,_,h2⟩
   ·omega
   ·have:=(h.sh.tasks t ht).id;omega
  refine ⟨Zf h.sh k,λd l=>?_⟩
  have b:d<abk s.cu:=by have h3:d<abk (s.cu.set o.cpu.toNat (oK s o.cpu.toNat:Int)):=l;rwa [abG] at h3
  show (s.cu.set o.cpu.toNat (oK s o.cpu.toNat:Int)).getD d 0=0∨_
  by_cases e:o.cpu.toNat=d
  ·grind
  ·show (s.cu.set o.cpu.toNat (oK s o.cpu.toNat:Int)).getD d 0=0∨∃t∈s.ts,t.id=(s.cu.set o.cpu.toNat (oK s o.cpu.toNat:Int)).getD d 0∧_
   rw [getD_set_ne _ _ e]
   exact h.cur d b
end
theorem qsa:∀{l m:List Nat},(∀x∈l,x<18446744073709551616)→(∀x∈m,x<18446744073709551616)→l.flatMap au=m.flatMap au→l=m
 |[],[],_,_,_=>rfl
 |[],y::m,_,_,h=>by
  have h1:=congrArg adw h
  grind [Fh]
 |x::l,[],_,_,h=>by
  have h1:=congrArg adw h
  grind [Fh]
 |x::l,y::m,h1,h2,h=>by
  rw [abL,abL] at h
  have a:=KM (l.flatMap au) (h1 x (acB ..))
  have b:=KM (m.flatMap au) (h2 y (acB ..))
  rw [h,b] at a
  injection a with c d
  subst c
  rw [qsa (λz hz=>h1 z (ab2 _ hz)) (λz hz=>h2 z (ab2 _ hz)) (List.append_cancel_left h)]
def IK {l m:List α} (d:α) (a:abk l=abk m) (h:∀i,i<abk l→l.getD i d=m.getD i d):l=m:=by grind [List.ext_getElem,abt]
def MS {f g:Nat→List α}:∀k,(∀i,i<k→abk (f i)=abk (g i))→dW k f=dW k g→∀i,i<k→f i=g i:=by intro x;induction x<;>grind [q5,List.append_inj',acj]
def yY {x y:Int} (a:0≤x∧x<9223372036854775808) (hy:0≤y∧y<9223372036854775808) (h:aH x=aH y):x=y:=by unfold aH at h;omega
def qlm {l m:List Int} (a:abk l=abk m) (h1:∀i,i<abk l→0≤l.getD i 0∧l.getD i 0<9223372036854775808) (h2:∀i,i<abk m→0≤m.getD i 0∧m.getD i 0<9223372036854775808) (h:l.map aH=m.map aH):l=m:=by
 refine IK 0 a λi hi=>yY (h1 i hi) (h2 i om) ?_
 have h3:(l.map aH)[i]?=(m.map aH)[i]?:=by rw [h]
 grind
def zkd {p:Int} {u:Tk} {c d:Int} (ht:eX t c n) (a:eX u d m) (b:0≤p∧p<t.id∧p<u.id) (e:n≤1000000∧m≤1000000∧c≤64∧d≤64) (h:l8 p t=l8 p u):t=u:=by
 unfold l8 at h
 simp only [List.cons.injEq,and_true] at h
 obtain ⟨h1,h2,h3,h4,h5,h6,h7,h8⟩:=h
 have f:=yY (by have:=ht.id;omega) (by have:=a.id;omega) h1
 have g:=yY (by have:=ht.group;omega) (by have:=a.group;omega) h2
 have i:=yY (by have:=ht.weight;omega) (by have:=a.weight;omega) h3
 have j:=yY (by have:=ht.cpu;omega) (by have:=a.cpu;omega) h4
 have k:t.ready=u.ready:=by
  grind
 cases t;cases u
 grind
def zke {s':aY} {x y:Sp} (a:dK s g x=true) (hy:dK s' g y=true) (h:mO g x=mO g y):x=y:=by
 unfold dK at a hy
 rw [abC,adE,decide_eq_true_eq,bne_iff_ne] at a hy
 cases x;cases y
 grind [Pz,La]
def zkf {x y:Gr} (h1:x.parent=y.parent) (h2:x.weight=y.weight):x=y:=by
 cases x;cases y
 rw [Gr.mk.injEq]
 exact ⟨h1,h2⟩
def q61 (hs:d9 l) {i:Nat} (hi:i<abk l) (h1:∀t∈l,1≤t.id):0≤qo l i∧qo l i<(l.getD i Tk.zero).id:=by
 unfold qo
 split
 ·have:=h1 _ (qe Tk.zero hi);omega
 ·have:=h1 _ (qe Tk.zero (show i-1<abk l by omega))
  have:=hs (i-1) i om hi
  omega
def zdt (h:GoodS s) {c:Nat} (hc:c<abk s.cu):0≤s.cu.getD c 0∧s.cu.getD c 0<9223372036854775808:=by
 rcases h.cur c hc with h1|⟨t,ht,h1,_⟩
 ·rw [h1];decide
 ·have:=(h.sh.tasks t ht).id;omega
theorem qxq (g:Nat) (z a:Sp):abk (mO g z)=abk (mO g a):=by
 unfold mO
 split<;>rfl
def zbp (g:Nat) {l m:List Sp} (h:abk l=abk m):abk (nA g l)=abk (nA g m):=by
 unfold nA
 rw [h]
 have key:∀k,abk (dW k λc=>mO g (l.getD c Sp.zero))=abk (dW k λc=>mO g (m.getD c Sp.zero)):=λk=>by
  induction k with
  |zero=>rfl
  |succ k a=>rw [q5,q5,abm,abm,a,qxq]
 exact key _
def zbq {a b:cO} (P:bJ a=0) (hb:bJ b=0) (Q:a.st.av.Ok) (R:b.st.av.Ok) (h:dX a=dX b):eU a b:=by
 obtain ⟨na,S⟩:=xg P
 obtain ⟨nb,T⟩:=xg hb
 have G:=Qr Q S
 have H:=Qr R T
 have e:=G.sh
 have j:=H.sh
 have x:=e.ak;have y:=j.ak
 have la:(abk a.st.cl:Int)=a.st.ak:=e.cl
 have lb:(abk b.st.cl:Int)=b.st.ak:=j.cl
 have ua:(abk a.st.cu:Int)=a.st.ak:=e.cu
 have ub:(abk b.st.cu:Int)=b.st.ak:=j.cu
 have ea:abk a.st.rs=abk a.st.gs:=by rw [←uX];exact e.sp
 have eb:abk b.st.rs=abk b.st.gs:=by rw [←uX];exact j.sp
 replace x:1≤a.st.ak∧a.st.ak≤64:=x
 replace y:1≤b.st.ak∧b.st.ak≤64:=y
 rw [DC,DC] at h
 simp only [abz] at h
 obtain ⟨h0,h⟩:=adr h rfl
 obtain ⟨h1,h⟩:=adr h rfl
 simp only [aG,List.cons.injEq,and_true] at h0 h1
 have U:a.next=b.next:=yY om om h0
 obtain ⟨z,e2,e3⟩:=h1
 have e1:a.st.ak=b.st.ak:=yY om om z
 obtain ⟨h2,h⟩:=adr h (by show abk (dW _ _)=abk (dW _ _);rw [F5 (m:=2) (λi=>rfl),F5 (m:=2) (λi=>rfl),e3])
 obtain ⟨h3,h⟩:=adr h (by show abk (afI _ _)=abk (afI _ _);rw [abv,abv];omega)
 obtain ⟨h4,h⟩:=adr h (by show abk (afI _ _)=abk (afI _ _);rw [abv,abv];omega)
 have e7:abk a.st.ts=abk b.st.ts:=by
  have h5:(abk a.st.ts::_)=(abk b.st.ts::_):=h
  injection h5
 obtain ⟨h5,h6⟩:=adr h (by show abk (_::dW _ _)=abk (_::dW _ _);rw [abX,abX,F5 (m:=8) (λi=>rfl),F5 (m:=8) (λi=>rfl),e7])
 have A:bV a.st.gs=true:=e.gs
 have B:bV b.st.gs=true:=j.gs
 have V:=qp A;have W:=qp B
 have X:a.st.gs=b.st.gs:=by
  refine IK Gr.zero e3 λi hi=>?_
  rcases acn i with rfl|k
  ·exact V.2.2.1.trans W.2.2.1.symm
  ·have h8:=MS (f:=tK a.st.gs) (g:=tK b.st.gs) (abk a.st.gs-1) (λi hi=>rfl) (h2.trans (by show dW _ _=_;rw [e3])) (i-1) om
   unfold tK at h8
   rw [Nat.sub_add_cancel k] at h8
   simp only [List.cons.injEq,and_true] at h8
   have C:=uO A (g:=i) hi i k (abo _)
   have D:=uO B (g:=i) om i k (abo _)
   unfold dS at C D
   obtain ⟨wa,Y,I,J⟩:=DJ A (g:=i) hi
   obtain ⟨wb,Z,K,L⟩:=DJ B (g:=i) om
   exact zkf (yY om om h8.1) (yY om om h8.2)
 have E:a.st.cl=b.st.cl:=qlm om
  (λi hi=>by have h9:0≤a.st.cl.getD i 0∧a.st.cl.getD i 0≤281474976710656:=of_decide_eq_true (e.cls i hi);omega)
  (λi hi=>by have h9:0≤b.st.cl.getD i 0∧b.st.cl.getD i 0≤281474976710656:=of_decide_eq_true (j.cls i hi);omega) h3
 have F:a.st.cu=b.st.cu:=qlm om (λi hi=>zdt G hi) (λi hi=>zdt H hi) h4
 have q:abk a.st.av.sp=abk a.st.rs:=uX _
 have r:abk b.st.av.sp=abk b.st.rs:=uX _
 have et:a.st.ts=b.st.ts:=by
  have n:(abk a.st.ts::dW (abk a.st.ts) λi=>l8 (qo a.st.ts i) (a.st.ts.getD i Tk.zero))=(abk b.st.ts::dW (abk b.st.ts) λi=>l8 (qo b.st.ts i) (b.st.ts.getD i Tk.zero)):=h5
  injection n with _ n
  rw [←e7] at n
  have h8:∀i,i<abk a.st.ts→l8 (qo a.st.ts i) (a.st.ts.getD i Tk.zero)=l8 (qo b.st.ts i) (b.st.ts.getD i Tk.zero):=MS (f:=λi=>l8 (qo a.st.ts i) (a.st.ts.getD i Tk.zero)) (g:=λi=>l8 (qo b.st.ts i) (b.st.ts.getD i Tk.zero)) (abk a.st.ts) (λi _=>rfl) n
  refine IK Tk.zero e7 λi hi=>?_
  induction i using ae6 with
  | _ i ih =>
   have M:qo b.st.ts i=qo a.st.ts i:=by
    grind [qo]
   have h9:=h8 i hi
   rw [M] at h9
   have p:=q61 e.sort hi λt ht=>(e.tasks t ht).id.1
   have s:=q61 j.sort (show i<abk b.st.av.ts by show i<abk b.st.ts;omega) λt ht=>(j.tasks t ht).id.1
   have u:qo b.st.ts i<(b.st.ts.getD i Tk.zero).id:=s.2
   rw [M] at u
   exact zkd (e.tasks _ (qe Tk.zero hi)) (j.tasks _ (qe Tk.zero (show i<abk b.st.av.ts by show i<abk b.st.ts;omega))) ⟨p.1,p.2,u⟩ ⟨by omega,by omega,x.2,y.2⟩ h9
 have er:jf a.st=jf b.st:=by
  refine IK [] (by rw [uX,uX];omega) λg hg=>?_
  have d:g<abk a.st.rs:=by rwa [uX] at hg
  have o:g<abk b.st.rs:=by omega
  have N:∀g,g<abk a.st.rs→((a.st.rs.getD g Rw.zero).l.length:Int)=a.st.ak:=λg h=>by rw [←yt h];exact e.rows g (by rw [q];exact h)
  have O:∀g,g<abk b.st.rs→((b.st.rs.getD g Rw.zero).l.length:Int)=b.st.ak:=λg h=>by rw [←yt h];exact j.rows g (by rw [r];exact h)
  have w:∀g,g<abk a.st.rs→(a.st.rs.getD g Rw.zero).l.length=(b.st.rs.getD g Rw.zero).l.length:=λg h=>by have:=N g h;have:=O g om;omega
  have v:dW (abk a.st.rs) (λg=>nA g (a.st.rs.getD g Rw.zero).l)=dW (abk b.st.rs) (λg=>nA g (b.st.rs.getD g Rw.zero).l):=h6
  rw [show abk b.st.rs=abk a.st.rs by omega] at v
  have h8:nA g (a.st.rs.getD g Rw.zero).l=nA g (b.st.rs.getD g Rw.zero).l:=MS (f:=λg=>nA g (a.st.rs.getD g Rw.zero).l) (g:=λg=>nA g (b.st.rs.getD g Rw.zero).l) (abk a.st.rs) (λi hi=>zbp i (w i hi)) v g d
  rw [yt d,yt o]
  refine IK Sp.zero (w g d) λc hc=>?_
  unfold nA at h8
  rw [←w g d] at h8
  have h9:mO g ((a.st.rs.getD g Rw.zero).l.getD c Sp.zero)=mO g ((b.st.rs.getD g Rw.zero).l.getD c Sp.zero):=MS (f:=λc=>mO g ((a.st.rs.getD g Rw.zero).l.getD c Sp.zero)) (g:=λc=>mO g ((b.st.rs.getD g Rw.zero).l.getD c Sp.zero)) _ (λc _=>qxq g _ _) h8 c hc
  have p:=e.spots g c (by rw [q];exact d) (by have:=N g d;show (c:Int)<a.st.ak;omega)
  have s:=j.spots g c (by rw [r];exact o) (by have:=O g o;have:=w g d;show (c:Int)<b.st.ak;omega)
  unfold aY.spot at p s
  rw [show a.st.av.sp.getD g []=_ from yt d] at p
  rw [show b.st.av.sp.getD g []=_ from yt o] at s
  exact zke p s h9
 exact ⟨U,e1,e2,X,E,F,et,er⟩
section
variable {s:aY} {g c i d:Nat} {t t':Tk} {o:bC}
theorem Zg {l a:List Gr} (h:∀g,(l.getD g Gr.zero).parent=(a.getD g Gr.zero).parent):∀f g,jl l f g=jl a f g
 |0,_=>rfl
 |f+1,g=>by rw [jl,jl,h g,Zg h f]
def q99 {l:List Gr} {w:Int} (h:bV l=true) (h0:0<g) (a:g<abk l) (b:lV w=true):bV (l.set g {l.getD g Gr.zero with weight:=w})=true:=by grind [Gr.zero,uL,Zg,iJ,o7,getD_set_ne,q7,bV,qp]
theorem qrl (h:GoodS s) (b:(yh s o).2.2=0):GoodS (yh s o).1:=by
 unfold yh at b⊢
 split at b
 ·cases b
 ·split at b
  ·cases b
  ·rename_i h1 h2
   rw [if_neg h1,if_neg h2]
   obtain ⟨g,B⟩:∃g:Nat,o.group=(g:Int):=⟨o.group.toNat,by omega⟩
   rw [B,abD]
   have C:lV o.weight=true:=by simpa using h2
   have p:1≤o.weight∧o.weight≤65536:=by simpa [lV] using h2
   have f:g<abk s.sp:=by omega
   have j:g<abk s.gs:=by rw [←h.sh.sp];exact f
   have q:=h.sh.ok.gs _ (qe Gr.zero j)
   have a:abk (s.sp.set g ((s.sp.getD g []).map λx=>{x with r:=0}))=abk s.sp:=abG ..
   have w:∀k e:Nat,((s.sp.set g ((s.sp.getD g []).map λx=>{x with r:=0})).getD k []).getD e Sp.zero=if k=g then r0 (s.spot k e) else s.spot k e:=λk e=>by
    by_cases m:g=k
    ·subst m
     rw [q7 _ _ f,if_pos rfl]
     show _=r0 ((s.sp.getD g []).getD e Sp.zero)
     rw [abn,List.getElem?_map,abn (l:=s.sp.getD g [])]
     cases (s.sp.getD g [])[e]?<;>rfl
    ·rw [getD_set_ne _ _ m,if_neg (λh=>m h.symm)];rfl
   refine ⟨⟨⟨h.sh.ok.ak,h.sh.ok.aj,λx D=>?_,h.sh.ok.cl,h.sh.ok.cu,h.sh.ok.ts,λl E y A=>?_⟩,h.sh.ak,h.sh.aj,q99 h.sh.gs om j C,h.sh.cl,h.sh.cu,?_,h.sh.cls,λk m=>?_,λk e m b=>?_,h.sh.sort,λu F=>?_⟩,h.cur⟩
   ·rcases abW D with h3|rfl
    ·exact h.sh.ok.gs x h3
    ·exact ⟨q.parent,by show aQ o.weight;unfold aQ;omega⟩
   ·rcases abW E with h3|rfl
    ·exact h.sh.ok.sp l h3 y A
    ·obtain ⟨z,hz,rfl⟩:=acd.1 A
     have:=h.sh.ok.sp _ (qe [] f) z hz
     exact ⟨this.v,by show 0<_;omega,this.floor⟩
   ·rw [a,abG];exact h.sh.sp
   ·have n:k<abk s.sp:=by rw [←a];exact m
    have:=h.sh.rows k n
    grind
   ·have n:k<abk s.sp:=by rw [←a];exact m
    have h3:=h.sh.spots k e n b
    unfold dK at h3⊢
    have e1:=w k e
    unfold aY.spot at h3⊢e1
    dsimp only at h3⊢e1
    rw [e1]
    by_cases e2:g=k
    ·subst e2
     rw [if_pos rfl,q7 _ _ j]
     rw [abC] at h3⊢
     have h4:=h3.1
     unfold bL at h4⊢
     rw [decide_eq_true_eq] at h4⊢
     refine ⟨⟨p.1,p.2,by show ((0:Nat):Int)<o.weight;omega,.inr rfl⟩,?_⟩
     grind
    ·grind
   ·show eX u s.ak (abk (s.sp.set g _))
    rw [a]
    exact h.sh.tasks u F
theorem Zh (h:GoodS s) (ht:s.ts[i]?=some t) {to:Nat} (b:(to:Int)<s.ak) (hb:t.mask/2^to%2=1) (n:∀d,d<abk s.cu→s.cu.getD d 0=t.id→t.cpu=(d:Int)→False):GoodS (je s i (to:Int)):=by
 unfold je
 rw [tN Tk.zero ht]
 dsimp only
 rw [abD]
 obtain ⟨j,m⟩:=Gl h.sh ht
 have k:=Qs j m
 have hm:=aaO k.1 (s.spot t.group.toNat t.cpu.toNat).floor (s.spot t.group.toNat to).floor (yx h.sh.ok _ _).floor
 have a:=LG j m hm.1
 have p:aQ (to:Int):=by have:=h.sh.ak;unfold aQ;omega
 have e:iL (s.jr i {t.put (t.en.moved (s.spot t.group.toNat t.cpu.toNat).floor (s.spot t.group.toNat to).floor) with cpu:=(to:Int)}):=
  h.sh.task ht rfl ⟨a.2.id,a.2.group,a.2.weight,p,a.2.mask,a.2.v,a.2.r⟩ ⟨a.1.id,a.1.group,⟨by show (0:Int)≤(to:Int);omega,b⟩,a.1.weight,a.1.mask,by show t.mask/2^ ((to:Int)).toNat%2=1;rw [abD];exact hb,a.1.ent⟩
 have f:jy (s.jr i {t.put (t.en.moved (s.spot t.group.toNat t.cpu.toNat).floor (s.spot t.group.toNat to).floor) with cpu:=(to:Int)}):=
  h.cur.task h.sh.sort ht rfl λ_ ⟨d,h1,h2,h3⟩=>(n d h1 h2 h3).elim
 have l:t.group.toNat<abk s.sp:=by have:=j.group;omega
 split
 ·exact ⟨e.wake b _ (Qu h.sh l),f.but (qc3 ..)⟩
 ·exact ⟨e,f⟩
theorem Qv {x:Int} (h:jd m x=true):m/2^x.toNat%2=1:=of_decide_eq_true h
theorem qrn (h:GoodS s) (a:(yj s o).2.2=0):GoodS (yj s o).1:=by
 unfold yj at a⊢
 split at a
 ·cases a
 ·split at a
  ·cases a
  ·split at a
   ·cases a
   ·split at a
    ·cases a
    ·split at a
     ·cases a
     ·split at a
      ·cases a
      ·rename_i h1 h2 h3 h4 h5 h6
       rw [if_neg h1,if_neg h2,if_neg h3,if_neg h4,if_neg h5,if_neg h6]
       obtain ⟨k,t,j,ht,b,e⟩:=Qt h3
       have f:=DU h1
       grind [jd,Qv,qe,Zh]
def zaa:∀{n b:Nat},fV s o n=some b→sK s o (s.ts.getD b Tk.zero)=true:=by intro x;induction x<;>grind [fV]
theorem qro (h:GoodS s) (a:(uU s o).2.2=0):GoodS (uU s o).1:=by
 unfold uU at a⊢
 split at a
 ·cases a
 ·rename_i h1
  rw [if_neg h1]
  cases hb:fV s o (abk s.ts) with
  |none=>rw [hb] at a;cases a
  |some b=>
   dsimp only
   have e:=YX hb
   have hm:=zaa hb
   have ht:=getD_at Tk.zero e
   have f:=DU h1
   grind [Qv,Zh,sK]
theorem Qw:d9 l↔l.Pairwise λa b=>a.id<b.id:=by
 rw [List.pairwise_iff_getElem]
 constructor
 ·intro h i j hi f e
  have:=h i j e f
  grind
 ·intro h i j e f
  grind
theorem iL.ts (h:iL s) {l:List Tk} (hs:d9 l) (b:∀u∈l,eX u s.ak (abk s.sp)∧u.Ok):iL {s with ts:=l}:=
 ⟨⟨h.ok.ak,h.ok.aj,h.ok.gs,h.ok.cl,h.ok.cu,λu a=>(b u a).2,h.ok.sp⟩,h.ak,h.aj,h.gs,h.cl,h.cu,h.sp,h.cls,h.rows,h.spots,hs,λu a=>(b u a).1⟩
def q4x {id:Int} (h:¬0≤fidx l id):∀t∈l,t.id≠id:=by grind [Tk.zero,Pt,fQ,qe]
def Zi {p:α→Bool}:∀{l:List α} {u:α},u∈l.takeWhile p→p u=true
 |[],u,h=>by cases h
 | a :: r, u, h => by
  rw [aez] at h
  split at h
  ·rename_i b
   rcases abQ.1 h with rfl|h
   ·exact b
   ·exact Zi h
  ·cases h
def Zj {p:α→Bool}:∀{l:List α} {a:α} {r:List α},l.dropWhile p=a::r→p a=false
 |[],_,_,h=>by cases h
 |b::q,a,r,h=>by
  rw [List.dropWhile_cons] at h
  split at h
  ·exact Zj h
  ·grind
def zab {id:Int} (hs:d9 l) (k:∀t∈l,t.id≠id) (ht:t.id=id):d9 ((l.takeWhile λt=>decide (t.id≤id))++t::(l.dropWhile λt=>decide (t.id≤id))):=by
 rw [Qw] at hs⊢
 have j:∀u∈l.takeWhile (λt=>decide (t.id≤id)),u.id<id:=λu e=>by
  have h1:=Zi e
  rw [decide_eq_true_eq] at h1
  have:=k u ((aem _).subset e)
  omega
 have f:=hs.sublist (List.dropWhile_sublist λt=>decide (t.id≤id))
 have h:∀u∈l.dropWhile (λt=>decide (t.id≤id)),id<u.id:=λu e=>by
  cases hdr:l.dropWhile (λt=>decide (t.id≤id)) with
  |nil=>rw [hdr] at e;cases e
  | cons a r =>
   have h1:¬decide (a.id≤id)=true:=by
    have:=Zj hdr
    rw [this];decide
   rw [decide_eq_true_eq] at h1
   rw [hdr] at e f
   rcases abQ.1 e with rfl|e
   ·omega
   ·have:=(aeb.1 f).1 u e;omega
 rw [List.pairwise_append]
 refine ⟨hs.sublist (aem _),aeb.2 ⟨λu e=>?_,f⟩,λa m b n=>?_⟩
 ·have:=h u e;omega
 ·grind
def Zk {p:Tk→Bool} {u:Tk}:u∈l.takeWhile p++t::l.dropWhile p↔u=t∨u∈l:=by grind [aeP]
theorem qzt (e : o.Ok) (h : GoodS s) (a : (xY s o).2.2 = 0) : GoodS (xY s o).1 := by
 unfold xY at a⊢
 split at a
 ·cases a
 ·split at a
  ·cases a
  ·split at a
   ·cases a
   ·split at a
    ·cases a
    ·split at a
     ·cases a
     ·split at a
      ·cases a
      ·rename_i h1 h2 h3 h4 h5 h6
       rw [if_neg h1,if_neg h2,if_neg h3,if_neg h4,if_neg h5,if_neg h6]
       have hc:=DU h1
       have f:o.group.toNat<abk s.sp:=by omega
       have j:1≤o.task∧o.task≤65535:=by simpa [nZ] using h2
       have k:0≤o.group∧o.group<abk s.sp:=Classical.not_not.1 h3
       have l:1≤o.weight∧o.weight≤65536:=by have:=λh=>h4 (.inl h);simpa [lV] using this
       have hm:wX o.mask s.ak=false:=by have:=λh=>h4 (.inr (.inr h));simpa using this
       have r:o.mask/2^o.cpu.toNat%2=1:=Qv (by simpa using h6)
       have v:=(yx h.sh.ok o.group.toNat o.cpu.toNat).floor
       have m:eX (⟨o.task,o.group,o.weight,o.cpu,o.mask,true,(s.spot o.group.toNat o.cpu.toNat).floor,0⟩:Tk) s.ak (abk s.sp):=⟨j,k,hc,l,hm,r,by unfold bL;rw [decide_eq_true_eq];exact ⟨l.1,l.2,by show ((0:Nat):Int)<o.weight;omega,.inr rfl⟩⟩
       have n:(⟨o.task,o.group,o.weight,o.cpu,o.mask,true,(s.spot o.group.toNat o.cpu.toNat).floor,0⟩:Tk).Ok:=⟨e.task,e.group,e.weight,e.cpu,e.mask,v,by show 0<_;omega⟩
       have p:=h.sh.ts (zab h.sh.sort (q4x h5) (t:=⟨o.task,o.group,o.weight,o.cpu,o.mask,true,(s.spot o.group.toNat o.cpu.toNat).floor,0⟩) rfl) (λu b=>by
        rcases Zk.1 b with rfl|b
        ·exact ⟨m,n⟩
        ·exact ⟨h.sh.tasks u b,h.sh.ok.ts u b⟩)
       have q:jy {s with ts:=(s.ts.takeWhile λt=>decide (t.id≤o.task))++(⟨o.task,o.group,o.weight,o.cpu,o.mask,true,(s.spot o.group.toNat o.cpu.toNat).floor,0⟩::(s.ts.dropWhile λt=>decide (t.id≤o.task)))}:=λd w=>by
        rcases h.cur d w with h7|⟨u,b,h7⟩
        ·exact .inl h7
        ·exact .inr ⟨u,Zk.2 (.inr b),h7⟩
       exact ⟨p.wake (by show ((o.cpu.toNat:Nat):Int)<s.ak;omega) _ (Qu h.sh f),q.but (qc3 ..)⟩
theorem qzu (h:GoodS s) (n:(rD s o).2.2=0):GoodS (rD s o).1:=by
 unfold rD at n⊢
 split at n
 ·cases n
 ·split at n
  ·cases n
  ·rename_i h1 h2
   rw [if_neg h1,if_neg h2]
   have hc:=DU h1
   dsimp only
   rcases h.cur o.cpu.toNat (by have:=h.sh.cu;omega) with h5|⟨t,x,p,E,y⟩
   ·exact absurd h5 h2
   ·obtain ⟨k,C,rfl⟩:=qbv Tk.zero x
    have D:=Y8 h.sh.sort C
    have ht:=getD_at Tk.zero C
    obtain ⟨t,q⟩:∃t,s.ts.getD k Tk.zero=t:=⟨_,rfl⟩
    rw [q] at p E y D ht
    rw [←p,D,abD,q]
    obtain ⟨F,z⟩:=Gl h.sh ht
    have r:=Ze F z false
    have A:iL {s with cu:=s.cu.set o.cpu.toNat 0}:=Zf h.sh (by unfold aQ;omega)
    have a:iL {s with cu:=s.cu.set o.cpu.toNat 0,ts:=s.ts.set k {t with ready:=false}}:=A.task (s:={s with cu:=s.cu.set o.cpu.toNat 0}) ht rfl r.2 r.1
    have f:∀d,d<abk (s.cu.set o.cpu.toNat 0)→(s.cu.set o.cpu.toNat 0).getD d 0=0∨∃j u,s.ts[j]?=some u∧j≠k∧u.id=(s.cu.set o.cpu.toNat 0).getD d 0∧u.ready=true∧u.cpu=(d:Int):=λd m=>by
     rw [abG] at m
     by_cases e:o.cpu.toNat=d
     ·grind
     ·rw [getD_set_ne _ _ e]
      rcases h.cur d m with h6|⟨u,B,h6,h7,h8⟩
      ·exact .inl h6
      ·obtain ⟨j,w,rfl⟩:=qbv Tk.zero B
       grind
    split
    ·refine ⟨a.ts (s:={s with cu:=s.cu.set o.cpu.toNat 0,ts:=s.ts.set k {t with ready:=false}}) (l:=(s.ts.set k {t with ready:=false}).eraseIdx k) (Qw.2 ((Qw.1 a.sort).sublist (afP ..))) (λu B=>?_),λd m=>?_⟩
     ·have v:=(afP ..).subset B
      exact ⟨a.tasks u v,a.ok.ts u v⟩
     ·rcases f d m with h6|⟨j,u,w,b,h6⟩
      ·exact .inl h6
      ·refine .inr ⟨u,?_,h6⟩
       have h7:(s.ts.set k {t with ready:=false})[j]?=some u:=by rw [aex (λe=>b e.symm)];exact w
       exact List.mem_eraseIdx_iff_getElem?.2 ⟨j,b,h7⟩
    ·refine ⟨a,λd m=>?_⟩
     rcases f d m with h6|⟨j,u,w,b,h6⟩
     ·exact .inl h6
     ·refine .inr ⟨u,?_,h6⟩
      have h7:(s.ts.set k {t with ready:=false})[j]?=some u:=by rw [aex (λe=>b e.symm)];exact w
      exact abF h7
theorem Qx (a:o.Ok) (h:GoodS s) (b:(bY s o).2.2=0):GoodS (bY s o).1:=by grind [qro,qzu,qrn,q4v,qrl,qon,qzs,qzt,q4u,bY]
end
def LH (w:World) (R:List Nat) (r:Ending) (a:World):Prop:=
 (∃A c,r= .returned (.slice A (abk R) c)∧a.ownsRow w.heap.size 3 1 (.slice A (abk R) c) (abk R) (R.map dG)∧abk R≤c)∧Below w.heap.size w a
def Zl {q R:List Nat} (a:q=R) (b:W.ownsRow w.heap.size 3 1 (.slice A (abk q) c) (abk q) (q.map dG)) (hc:abk q≤c) (hb:Below w.heap.size w W):LH w R (.returned (.slice A (abk q) c)) W:=by
 subst a
 exact ⟨⟨A,c,rfl,b,hc⟩,hb⟩
def zfz (b:x.av.Ok) (a:ShAt x) (e:aO x.av g c≠[]):(aJ bB (aO x.av g c)).id≤1000000:=by
 rcases Ll b e with ⟨_,t,ht,_,h2⟩|⟨_,h,h3,_,h5,_⟩
 ·obtain ⟨i,hi,rfl⟩:=acz ht
  have h4:=pq (a.tk i hi)
  rw [abn,abt (l:=x.ts) hi] at h4
  have h5:1≤(x.av.ts[i]).id∧(x.av.ts[i]).id≤65535:=h4
  rw [h2]
  show (x.av.ts[i]).id.toNat≤1000000
  omega
 ·rw [h3]
  rw [kU,a.rs] at h5
  obtain ⟨_,_,_,d⟩:=lW a.cfg
  have:=(qp d).2.1
  omega
def Zm (a:ShAt x):∀t∈x.ts,1≤t.weight∧t.weight≤65536:=by
 intro t ht
 obtain ⟨i,hi,rfl⟩:=acz ht
 have h1:=(Dx (a.tk i hi)).2
 rw [abn,abt hi] at h1
 unfold dJ lV at h1
 simp only [abC,decide_eq_true_eq,Option.getD_some] at h1
 exact h1.2.1
def q4z (x:aC) (E g c:Nat) (w:World) (H:x.av.Ok) (F:bP x) (o:ShAt x) (I:eD w x) (hm:w.heap[E]?=some (.cells #[vI x.ak,vQ x.aj,abg x.gA x.gs x.gc,abg x.lA x.cl x.lc,abg x.uA x.cu x.uc,abg x.tA x.ts x.tc,abg x.sA x.rs x.sc,.bool true] 273 (0,0))) (hc:(c:Int)<x.ak) (hg:g<abk x.rs):
    Calls abl 200 #[vP E 0,vI g,vI c] w (LH w (kL x.av g c)):=by
 have P:=F.s;have Q:=F.t;have R:=F.g;have V:=o.rs
 obtain ⟨W,Y,_,r⟩:=lW o.cfg
 refine (wU Tryz.func200 35) ?_
 refine (JP∘Jp 1∘Jq∘JC (h:=by exact λb=>b.nil 3 1)∘JG∘JP∘Jp 1∘Jj∘JQ∘JB) λa Z b=>?_
 refine qg (λS aS wS=>∃(k:Nat) (q:List Nat) (X:Option Addr) (G:Nat),(k≤g)∧(q++kL x.av k c=kL x.av g c)∧(abk q≤g-k)∧(abk q≤G)∧S=0+k∧Fr aS 35 [] [(7,abg X q G),(6,vN),(0,vP E 0),(1,vI k),(2,vI c)]∧Mem w wS [abh X q G dG 3 1]) (m:=0+g) ⟨g,[],none,0,abo _,rfl,abx _,abo _,rfl,Z.sub kr,b.pk [0]⟩ ?_
 clear Z b;rintro S a w_ ⟨k,q,X,G,hk,J,Zn,u,rfl,Z,b⟩
 refine Jb Z b ((JQ∘JP∘Jp 2∘aK∘Jj) (Ji (λz=>?_) λz=>?_))
 ·
  have A:0<k:=by omega
  have K:=uO r (g:=k) om k A (abo _)
  intro a Z b
  unfold dS at K
  obtain ⟨y,T⟩:∃y:Nat,(x.gs.getD k Gr.zero).parent=(y:Int):=⟨(x.gs.getD k Gr.zero).parent.toNat,by omega⟩
  refine Jb Z b ((JT∘aD∘JQ∘JB∘JQ∘JP∘Jp 3∘JL (h:=by exact λb=>Lc x H F o E c om _ k (abo _) om _ (I.old b) (b.kR hm))) ?_)
  rintro b _ LJ ⟨rfl,L⟩
  refine ⟨_,rfl,_,b.call L,?_⟩
  refine (Jp 1∘Jx∘Jx∘JA #[vQ 0,vQ 0,vQ 0]) λw8 g8=>(JV sM aU (h1:=by exact BG (aJ bB (aO x.av k c)))) λU=>(Jp 1∘aF∘Jr∘Jp 1∘Jj) (Ju (λe=>?_) λe=>?_)
  ·
   have p:q=kL x.av g c:=by rw [←J,YH (by simpa using e),abN]
   exact (JT∘JX∘JG∘JP∘Jp 2∘aK∘Jj∘JZ∘aZ) λb=>Zl p (b.own (i:=1) rfl) u b.below
  have M:aO x.av k c=[]:=by simpa using e
  have f:=YG (s:=x.av) (c:=c) (g:=k) (uO r om) A M
  replace f:kL x.av k c=k::kL x.av (x.gs.getD k Gr.zero).parent.toNat c:=f
  rw [T,abD] at f
  refine (JF∘aD∘JR∘Jp 2∘JU zy #[vI k]) λw32 g32=>(JD ([k].map dG) 2 (λ_ _=>iO) zy (hr:=by exact λb=>b.aW (i:=0) (n:=1) (size:=1) rfl rfl) (h1:=by simp [acf,dG])) λKL B C j=>(Jp 1∘gG∘Jq) ?_
  have d:abk q+1=abk (q++[k]):=Qh rfl
  rw [d] at j
  refine (JC (h:=by exact λb=>b.aT (i:=2) (ys:=(q++[k]).map dG) rfl d (List.map_append.symm))∘Jk 7 (.slice B (abk (q++[k])) C) (h:=by exact gF d)∘JG∘JR∘Jp 1∘Jn∘Jf 0∘Jf 0∘Jf 2∘Jy (v:= .slice x.gA (abk x.gs) x.gc) (h:=by exact Pd rfl rfl kr (λ_ h=>h.zu hm rfl))∘Jp 1) ?_
  obtain ⟨N,O,D,_⟩:=Rd.sat I.g k
  have l:=I.g;rw [D] at l
  refine (Jk 17 (.slice (some ⟨N,O,none⟩) (abk x.gs) x.gc) (h:=by rw [D];try rfl)∘gZ k 2∘Jf 0∘Dl pY l k Gr.zero∘Jo (vI y) (by rw [T])∘Jp 1∘aF∘Jq) λa Z b=>?_
  exact ⟨_,om,y,(q++[k]),B,C,by omega,by rw [←J,f,abz];rfl,by rw [abm];show abk q+1≤g-y;omega,j,rfl,Z.sub kr,b.pk [2]⟩
 have p:q=kL x.av g c:=by rw [←J,show k=0 by omega,qt0,abN]
 exact (JF∘JX∘JG∘JP∘Jp 2∘aK∘Jj∘JZ∘aZ) λb=>Zl p (b.own (i:=0) rfl) u b.below
def q40 (x:aC) (o c:Nat) (w:World) (i:x.av.Ok) (p:bP x) (f:ShAt x) (H:eD w x) (hm:w.heap[o]?=some (.cells #[vI x.ak,vQ x.aj,abg x.gA x.gs x.gc,abg x.lA x.cl x.lc,abg x.uA x.cu x.uc,abg x.tA x.ts x.tc,abg x.sA x.rs x.sc,.bool true] 273 (0,0))) (hc:(c:Int)<x.ak):
    Calls abl 211 #[vP o 0,vI c] w (Is w (vI (oK x.av c:Int))):=by
 have B:=p.s;have C:=p.t;have D:=p.g;have I:=f.rs
 obtain ⟨J,K,_,q⟩:=lW f.cfg
 have E:0<abk x.rs:=by have h1:=(qp q).1;omega
 refine (iX Tryz.func211 28) ?_
 refine (JP∘Jp 1∘Jr∘Jp 1∘Jj∘JB) λa Z b=>?_
 refine qg (λF L M=>∃(g:Nat),(g<abk x.rs)∧(vg x.av c g=oK x.av c)∧F=abk x.rs-g∧Fr L 28 [] [(5,vI g),(4,vI 0),(0,vP o 0),(1,vI c)]∧Mem w M []) (m:=abk x.rs-0) ⟨0,by omega,rfl,rfl,Z.sub kr,b.pk []⟩ ?_
 clear Z b;rintro F a S ⟨g,T,r,rfl,Z,b⟩
 refine Jb Z b ((JB∘JP∘Jp 3∘JL (h:=by exact λb=>Lc x i p f o c om _ g (abo _) om _ (H.old b) (b.kR hm))) ?_)
 rintro b _ N ⟨rfl,u⟩
 refine ⟨_,rfl,_,b.call u,?_⟩
 refine (Jp 1∘Jx∘Jx∘JA #[vQ 0,vQ 0,vQ 0]) λU l=>(JV sM aU (h1:=by exact BG (aJ bB (aO x.av g c)))) λG=>(Jp 1∘Jj∘JQ∘JB∘JP∘Jp 3∘bG∘Jj) (Ju (λd=>?_) λd=>?_)
 ·
  have e:aO x.av g c=[]:=by simpa using d
  exact (JT∘JP∘Jp 1∘Jj∘JZ∘aZ) λb=>by exact ⟨by rw [←r,YK (by rw [kU];omega) e];rfl,b.below⟩
 have e:aO x.av g c≠[]:=by simpa using d
 have O:abk x.av.sp=abk x.rs:=kU
 refine (JF∘JP∘Jy (v:=vP l 1) (h:=by exact Yl.uh (ad:=⟨l,0,none⟩) (m:=3) (y:=1) (sz:=1) rfl rfl rfl kr de)∘Jc O0∘Jp 2∘dU∘Jj) (Je (λn=>?_) λn=>?_)
 ·
  have j:(aJ bB (aO x.av g c)).k=0:=by omega
  have P:=zfz i f e
  have z:=YL (s:=x.av) (c:=c) (g:=g) om e j
  exact (JT∘JP∘Jy (v:=vP l 2) (h:=by exact Yl.uh (ad:=⟨l,0,none⟩) (m:=3) (y:=2) (sz:=1) rfl rfl rfl kr de)∘Jc O0∘Jv 1 [(24,vI (IntKind.i64.wrap ((aJ bB (aO x.av g c)).id:Int)))]∘Jo (vI ((aJ bB (aO x.av g c)).id)) (by exact q8 rfl om)∘Jp 1∘dU∘Jj∘JZ∘aZ) λb=>by exact ⟨by rw [←r,z],b.below⟩
 have j:(aJ bB (aO x.av g c)).k≠0:=by omega
 obtain ⟨A,Q,R⟩:=YM (s:=x.av) (c:=c) (g:=g) i om e j
 refine (JF∘aD∘JR∘Jy (v:=vP l 2) (h:=by exact Yl.uh (ad:=⟨l,0,none⟩) (m:=3) (y:=2) (sz:=1) rfl rfl rfl kr de)∘Jc O0∘Jv 1 [(27,vI (IntKind.i64.wrap ((aJ bB (aO x.av g c)).id:Int)))]∘Jo (vI ((aJ bB (aO x.av g c)).id)) (by exact q8 rfl om)∘Jp 1∘dU∘Jq) λa Z b=>?_
 exact ⟨_,om,(aJ bB (aO x.av g c)).id,by omega,by rw [←A];exact r,rfl,Z.sub kr,b.pk []⟩
def qzv (x:aC) (C c:Nat) (w:World) (K:x.av.Ok) (y:bP x) (l:ShAt x) (D:eD w x) (hm:w.heap[C]?=some (.cells #[vI x.ak,vQ x.aj,abg x.gA x.gs x.gc,abg x.lA x.cl x.lc,abg x.uA x.cu x.uc,abg x.tA x.ts x.tc,abg x.sA x.rs x.sc,.bool true] 273 (0,0))):
    Calls abl 215 #[vP C 0,vI c] w (Is w (vI (aI x.av c))):=by
 have E:=y.s;have F:=y.t;have G:=y.g;have L:=l.rs
 obtain ⟨M,N,_,O⟩:=lW l.cfg
 have n:=Zm l
 refine (iX Tryz.func215 32) ?_
 refine (JP∘Jp 1∘Jr∘Jp 1∘Jj∘JQ∘JP∘Jp 1∘Jn∘Jf 0∘Jf 5∘Jy (v:= .slice x.tA (abk x.ts) x.tc) (h:=by exact Pd rfl rfl kr (λ_ h=>h.zu hm rfl))∘Jl∘Jp 1∘Jj∘JB) λa Z b=>?_
 refine qg (λH A B=>∃(i:Nat),(i≤abk x.ts)∧H=abk x.ts-i∧Fr A 32 [] [(14,vI i),(13,vI (abk x.ts)),(12,abg x.tA x.ts x.tc),(5,vI (gL (x.ts.take i) c)),(4,vI 0),(1,vI c)]∧Mem w B []) (m:=abk x.ts-0) ⟨0,abx _,rfl,Z.sub kr,b.pk []⟩ ?_
 clear Z b;rintro H a R ⟨i,hi,rfl,Z,b⟩
 refine Jb Z b ((JP∘Jp 1∘Jj∘JQ) (Ji (λo=>?_) λo=>?_))
 ·
  have p:i<abk x.ts:=by omega
  obtain ⟨t,ht⟩:∃z,(x.ts.getD i Tk.zero)=z:=⟨_,rfl⟩
  have d:=qzd (c:=c) p
  rw [ht] at d
  have P:=YO (c:=c) n i;have Q:=YO (c:=c) n (i+1)
  refine (JT∘aD∘JQ∘JB∘JP) ?_
  obtain ⟨q,r,j,_⟩:=Rd.sat D.t i
  have k:=D.t;rw [j] at k
  refine (Jk 12 (.slice (some ⟨q,r,none⟩) (abk x.ts) x.tc) (h:=by rw [j];try rfl)∘gZ i 8∘oQ Tk.cells qk k fu i Tk.zero∘Jo (.agg t.cells) (by rw [ht])∘JA #[vI 0,vI 0,vI 0,vI 0,vQ 0,.bool false,vQ 0,vW 0]) λS I=>(JV fu aU (h1:=by exact FB t)) λJ=>(bG∘Jj) λa Z b=>?_
  refine zb (λA B=>Fr A 32 [] [(25,.bool (t.ready&&decide (t.cpu=(c:Int)))),(7,vP I 0),(12,abg (some ⟨q,r,none⟩) x.ts x.tc),(15,.bool true),(14,vI i),(13,vI (abk x.ts)),(5,vI (gL (x.ts.take i) c)),(4,vI 0),(1,vI c)]∧Mem w B [.blk I t.cells 232]) ?_ ?_
  ·
   refine zx ?_
   refine Jb Z b ((Jg 5 O0∘Jp 1) (Ju (λe=>?_) λe=>?_))
   ·
    refine (Jg 3 O0∘Jp 3∘lT∘Jq) λa Z b=>?_
    have Z:=Z.sp 25 (.bool (t.ready&&decide (t.cpu=(c:Int)))) rfl (congrArg abS (by rw [e,acF,acg,beq_iff_eq,decide_eq_true_eq]))
    exact ⟨Z.sub kr,b.pk [0]⟩
   refine (Jp 5∘aF∘Jq) λa Z b=>?_
   have Z:=Z.sp 25 (.bool (t.ready&&decide (t.cpu=(c:Int)))) rfl (congrArg abS (by rw [e];try rfl))
   exact ⟨Z.sub kr,b.pk [0]⟩
  clear Z b;rintro a T ⟨Z,b⟩
  refine Jb Z b (Ju (λf=>?_) λf=>?_)
  ·
   rw [if_pos f] at d
   refine (JT∘JR∘Jp 1∘Jg 2 O0∘Jp 1∘Jo (vI (gL (x.ts.take (i+1)) c)) (by rw [d];exact oH ⟨by omega,by omega⟩)∘Jp 1∘dU∘Jj∘JR∘cK 1∘Jp 1∘aK∘Jq) λa Z b=>?_
   replace Z:=Z.sp 12 (abg x.tA x.ts x.tc) rfl (by rw [j])
   exact ⟨_,om,i+1,by omega,rfl,Z.sub kr,b.pk []⟩
  rw [if_neg (by rw [f];decide),Int.add_zero] at d
  refine (Jk 5 (vI (gL (x.ts.take (i+1)) c)) (h:=by rw [d])∘JF∘aD∘JR∘cK 1∘Jp 1∘aK∘Jq) λa Z b=>?_
  replace Z:=Z.sp 12 (abg x.tA x.ts x.tc) rfl (by rw [j])
  exact ⟨_,om,i+1,by omega,rfl,Z.sub kr,b.pk []⟩
 have u:gL (x.ts.take i) c=aI x.av c:=by rw [abI om];rfl
 exact (JF∘JX∘JG∘JP∘Jp 2∘aK∘Jj∘JZ∘aZ) λb=>by exact ⟨by rw [u],b.below⟩
def zac (n:Nat) (i:Mem W w F) (j:F.drop n=jq d x m e f h b++T) (a:dB x m e f h b) (hc:(c:Int)<x.ak) (k:g<b):Calls abl 200 #[vP d 0,vI g,vI c] w (LH w (kL x.av g c)):=
 q4z x d g c w a.ok a.few a.sh (i.sN n j a.ln) (i.nO n j a.ln) hc (by rw [a.ln.s];exact k)
theorem zad (n:Nat) (h:Mem W w F) (i:F.drop n=jq b x m g d e f++T) (a:dB x m g d e f) (hc:(c:Int)<x.ak):Calls abl 211 #[vP b 0,vI c] w (Is w (vI (oK x.av c:Int))):=
 q40 x b c w a.ok a.few a.sh (h.sN n i a.ln) (h.nO n i a.ln) hc
def q41 (n:Nat) (h:Mem W w F) (i:F.drop n=jq b x m g d e f++T) (a:dB x m g d e f):Calls abl 215 #[vP b 0,vI c] w (Is w (vI (aI x.av c))):=
 qzv x b c w a.ok a.few a.sh (h.sN n i a.ln) (h.nO n i a.ln)
def Qy (W:World) (c:Nat) (x:aC) (d e f g b:Nat) (T:List Fact) (s:aY) (r:Ending) (h:World):Prop:=∃a,r= .returned (.tuple #[])∧abk a=b∧eu x.gs x.ak a∧({x with rs:=a}:aC).av=s∧Mem W h (jq c {x with rs:=a} d e f g b++T)
def Zo {a:List Rw} (e:a.length=b) (hs:eu x.gs x.ak a) (f:({x with rs:=a}:aC).av=s) (hm:Mem W w (jq c {x with rs:=a} m g n d b++T)):Qy W c x m g n d b T s (.returned (.tuple #[])) w:=⟨a,rfl,e,hs,f,hm⟩
def DV (x e:En) (b:x.Ok) (a cr:Nat) (c:a<18446744073709551616) (hc:cr<18446744073709551616) (d:x.woken a cr=e) (w:World):
  Calls abl 207 #[.agg x.cells,vQ a,vQ cr] w (Is w (.tuple #[.agg e.cells,vI 0])):=d▸q4f x b a cr c hc w
def qzw (W w:World) (x:aC) (K c:Nat) (u B C D t:Nat) (hx:rF x u B C D t) (T:List Fact) (E:Option Addr) (ec:Nat) (l:List Nat) (hT: abh E l ec dG 3 1∈T) (hlm:∀g∈l,0<g∧g<t) (hln:abk l≤1000000)
    (L:bV x.gs=true) (hrg:abk x.rs=abk x.gs) (hsp:eu x.gs x.ak x.rs) (M:x.aj<18446744073709551616) (hcp:x.ak≤64) (hc:(c:Int)<x.ak) (b:Mem W w (jq K x u B C D t++T)):
    Calls abl 206 #[vP K 0,abg E l ec,vI c] w (Qy W K x u B C D t T (gD x.av l c)):=by
 obtain ⟨cp,cr,gA,gc,gs,lA,lc,cl,uA,uc,cu,tA,tc,ts,sA,sc,rs⟩:=x
 replace b:Mem W w (fM K cp cr gA u gc lA B lc uA C uc tA D tc sA t sc::fG gA u gc gs::fI lA B lc cl::fI uA C uc cu::fT tA D tc ts::fS sA t sc rs::(fR rs++(T))):=b
 obtain ⟨mg,hll,nD,hlt,hls⟩:=hx;replace mg:abk gs=u:=mg;replace hls:abk rs=t:=hls
 have hrE:Rd w w.heap.size 1 E (abk l) (l.map dG):=b.YE 6 rfl hT
 replace L:bV gs=true:=L;replace hrg:abk rs=abk gs:=hrg;replace M:cr<18446744073709551616:=M;replace hcp:cp≤64:=hcp;replace hc:(c:Int)<cp:=hc;replace hsp:eu gs cp rs:=hsp
 have hgl:=qp L
 have nE:=hgl.1;have nG:=hgl.2.1
 obtain ⟨qA,rfl⟩:=zl (b.own (i:=1) rfl) om
 obtain ⟨qB,rfl⟩:=zl (b.own (i:=5) rfl) om
 refine (yw b Tryz.func206 82) ?_
 refine (JP∘Jp 1∘Jl∘Jp 1∘Jj∘JB) λa Z b=>?_
 refine qg (λmS aS wS=>∃(i:Nat) (d:List Rw),(i≤abk l)∧(abk d=t)∧(eu gs cp d)∧((⟨cp,cr,some ⟨qA,0,none⟩,gc,gs,lA,lc,cl,uA,uc,cu,tA,tc,ts,some ⟨qB,0,none⟩,sc,d⟩:aC).av=gD (⟨cp,cr,some ⟨qA,0,none⟩,gc,gs,lA,lc,cl,uA,uc,cu,tA,tc,ts,some ⟨qB,0,none⟩,sc,rs⟩:aC).av (l.take i) c)∧mS=abk l-i∧Fr aS 82 [] [(14,vI i),(13,vI (abk l)),(12,abg E l ec),(0,vP K 0),(2,vI c)]∧Mem W wS (fM K cp cr (some ⟨qA,0,none⟩) u gc lA B lc uA C uc tA D tc (some ⟨qB,0,none⟩) t sc::fG (some ⟨qA,0,none⟩) u gc gs::fI lA B lc cl::fI uA C uc cu::fT tA D tc ts::fS (some ⟨qB,0,none⟩) t sc d::(fR d++(T)))) (m:=abk l-0) ⟨0,rs,abx _,hls,hsp,rfl,rfl,Z.sub kr,b.pt 6 [0,1,2,3,4,5]⟩ ?_
 clear Z b;rintro mS a w_ ⟨i,d,hi,hl2,G,V,rfl,Z,b⟩
 refine Jb Z b ((JP∘Jp 1∘Jj∘JQ) (Ji (λBp=>?_) λBp=>?_))
 ·
  have X:i<abk l:=by omega
  obtain ⟨g,hge⟩:∃z,(l.getD i 0)=z:=⟨_,rfl⟩
  have hg0:=hlm g (by rw [←hge];exact qe 0 X)
  obtain ⟨⟨yA,yc,yl⟩,Y⟩:∃y,d.getD g Rw.zero=y:=⟨_,rfl⟩
  have hys:=G g om;rw [Y] at hys
  have hyl:(abk yl:Int)=cp:=hys.1
  repeat (first|clear Z|clear b)
  intro a Z b
  obtain ⟨gy,rfl⟩:=b.jw 6 rfl om Y om
  obtain ⟨o,H⟩:∃z,yl[c]?=some z:=⟨_,abt om⟩
  have I:=hys.2 o (abF H)
  have hyv:=I.1.v;have p9:=I.1.r;have rJ:=I.1.floor
  have hpb:=uO L (g:=g) om g hg0.1 (abo _)
  unfold dS at hpb
  obtain ⟨p,hpp⟩:∃p:Nat,(gs.getD g Gr.zero).parent=(p:Int):=⟨(gs.getD g Gr.zero).parent.toNat,by omega⟩
  have hpg:p<g:=by omega
  obtain ⟨⟨pA,pc,pl⟩,hp⟩:∃y,d.getD p Rw.zero=y:=⟨_,rfl⟩
  have hps:=G p om;rw [hp] at hps
  have hpl:(abk pl:Int)=cp:=hps.1
  revert b;revert a;repeat (first|clear Z|clear b)
  intro a Z b
  obtain ⟨gp,rfl⟩:=b.jw 6 rfl om hp om
  obtain ⟨pz,hpz⟩:∃z,pl[c]?=some z:=⟨_,abt om⟩
  have hpo:=hps.2 pz (abF hpz)
  have hpv:=hpo.1.v;have hpr:=hpo.1.r;have P:=hpo.1.floor
  obtain ⟨J,Q,ake,akf⟩:=DJ L (g:=g) om
  have R:(⟨o.v,o.r,J⟩:En).Ok:=⟨by have:=I.2;rw [Q] at this;exact this,I.1.v⟩
  obtain ⟨e,N⟩:∃e,(⟨o.v,o.r,J⟩:En).woken pz.floor cr=e:=⟨_,rfl⟩
  have S:e.Ok∧e.w=J:=by rw [←N];exact aaw R _ _ P
  have hev:=S.1.2;have her:e.r<4294967296:=by have:=z8 S.1.1;omega
  refine Jb Z b ((JT∘aD∘JQ∘JB∘JP) ?_)
  obtain ⟨gE,oE,rfl,_⟩:=hrE.sat i
  refine (gZ i 1∘Jy (v:=vI (l.getD i 0)) (h:=by exact Pd rfl rfl kr (λ_ h=>(h.YE 6 rfl hT).EJ (k:=i) (xI (F:=dG) (k:=i) (x:=(l.getD i 0)) ((getD_at 0 om)))))∘Jo (vI g) (by rw [hge])∘Jp 1∘bG∘Jr∘Jp 1∘Jn∘Jf 0∘Jg 6 O0∘Jp 1∘lU g 1∘Jy (v:= .slice ((d.getD g Rw.zero).A) ((d.getD g Rw.zero).l.length) ((d.getD g Rw.zero).c)) (h:=by exact aae 5 g Rw.zero om rfl rfl rfl)∘Jo (vS gy (abk yl) yc) (by rw [Y])∘Jp 1∘lU c 3∘Jp 1∘aF∘Jr∘Jp 1∘Jn∘Jf 0∘Jf 0∘Jg 2 O0∘Jp 1∘lU g 2∘Jy (v:= .agg ((gs.getD g Gr.zero).cells)) (h:=by exact Pe rfl rfl lC rfl (λ_ h=>h.EK pY (i:=1) rfl ((getD_at Gr.zero om))))∘JA #[vI 0,vI 0]) λw9 g9=>(JV lC aU (h1:=by exact XK (gs.getD g Gr.zero))) λZp=>(aF∘Jj) λa Z b=>?_
  refine zb (λaS wS=>∃(q:Nat),Fr aS 82 [] [(10,vP q 0),(9,vP g9 0),(8,vP gy (c*3)),(7,vI g),(15,.bool true),(14,vI i),(13,vI (abk l)),(12,abg (some ⟨gE,oE,none⟩) l ec),(0,vP K 0),(2,vI c)]∧Mem W wS (.blk q e.cells 333:: .blk g9 ((gs.getD g Gr.zero).cells) 198::fM K cp cr (some ⟨qA,0,none⟩) u gc lA B lc uA C uc tA D tc (some ⟨qB,0,none⟩) t sc::fG (some ⟨qA,0,none⟩) u gc gs::fI lA B lc cl::fI uA C uc cu::fT tA D tc ts::fS (some ⟨qB,0,none⟩) t sc d::(fR d++(T)))) ?_ ?_
  ·
   refine Jb Z b ((Vs .n [35]) λwd5=>(Vp [0,4]∘Vf 8 1∘Vp [11]∘Vf 16 0∘Vp [20,24]∘Vn 1∘Vf 2 0∘Vy 3 (v:=vQ o.v) (h:=by exact Pd rfl rfl kr (λ_ h=>h.tL 7 (j:=0) rfl om Y (H) rfl))∘Vn 5∘Vf 6 1∘Vy 7 (v:=vW o.r) (h:=by exact Pd rfl rfl kr (λ_ h=>h.tL 7 (j:=1) rfl om Y (H) rfl))∘Vc 9 O0∘Vo (vI J) (by rw [Q])∘Vn 12∘Vf 13 0∘Vf 14 6∘Vc 15 O1∘Vc 17 O0∘Vo (vI p) (by rw [hpp])∘Vy 18 (h:=by exact Yl.iH qB p 1 rfl rfl rfl)∘Vy 19 (v:= .slice ((d.getD p Rw.zero).A) ((d.getD p Rw.zero).l.length) ((d.getD p Rw.zero).c)) (h:=by exact aae 6 p Rw.zero om rfl rfl rfl)∘Vo (vS gp (abk pl) pc) (by rw [hp])∘Vy 21 (h:=by exact Yl.iH gp c 3 rfl rfl rfl)∘Vf 22 2∘Vy 23 (v:=vQ pz.floor) (h:=by exact Pd rfl rfl kr (λ_ h=>h.tL 7 (j:=2) rfl om hp (hpz) rfl))∘Vn 25∘Vf 26 0∘Vf 27 0∘Vf 28 1∘Vc 29 O1) λa Z b s=>?_)
   refine zd [10,34] kr rfl ?_
   refine all_cons ?_ ?_
   ·refine qt Z (i:=10) rfl rfl ?_
    refine iV Z b [vQ o.v,vW o.r,vI J] (.agg #[vQ o.v,vW o.r,vW J]) rfl rfl (za o.v o.r (J:Int) om _) λDr U b a Z=>?_
    refine ay (b.pt 7 [0,1,2,3,4,5,6]) (λs=>?_)
    refine zd [30,34] kr rfl ?_
    refine all_cons ?_ ?_
    ·refine qt Z (i:=30) rfl rfl ?_
     refine iV Z b [.agg #[vQ o.v,vW o.r,vW J],vQ pz.floor,vQ cr] (.tuple #[.agg e.cells,vI 0]) rfl rfl (DV (⟨o.v,o.r,J⟩:En) e R pz.floor cr P M N _) λLK U b a Z=>?_
     refine ay (b.pt 7 [0,1,2,3,4,5,6]) (λs=>?_)
     refine Vb Z b s ((Vp [31]∘Vx 32∘Vx 33∘VA 34 .n #[vQ 0,vW 0,vW 0]) λuz q=>λa Z b s=>?_)
     refine s_on Z 35 rfl (cZ Z b 0 rfl rfl rfl rfl rfl ql rfl rfl (lY e) λO b=>?_)
     refine dM kr ?_
     refine ap Z (bO kr) [36] (bt 37 []) [] λa Z=>?_
     refine qd kr ?_
     exact ⟨q,Z.sub kr,b.pt 8 [0,1,2,3,4,5,6,7]⟩
    refine all_cons ?_ all_nil
    refine qt Z (i:=34) rfl rfl ?_
    refine gT Z b #[vQ 0,vW 0,vW 0] ?_
    clear Z b;intro a uz q Z b
    refine ay (b.pt 8 [1,2,3,4,5,6,7]) (λs=>?_)
    refine Vb Z b s ((VI 30 (.f .n) (h:=by exact λb=>DV (⟨o.v,o.r,J⟩:En) e R pz.floor cr P M N _)) λLK U=>(Vp [31]∘Vx 32∘Vx 33) λa Z b s=>?_)
    refine s_on Z 35 rfl (cZ Z b 0 rfl rfl rfl rfl rfl ql rfl rfl (lY e) λO b=>?_)
    refine dM kr ?_
    refine ap Z (bO kr) [36] (bt 37 []) [] λa Z=>?_
    refine qd kr ?_
    exact ⟨q,Z.sub kr,b.pt 8 [0,1,2,3,4,5,6,7]⟩
   refine all_cons ?_ all_nil
   refine qt Z (i:=34) rfl rfl ?_
   refine gT Z b #[vQ 0,vW 0,vW 0] ?_
   clear Z b;intro a uz q Z b
   refine ay (b.pt 8 [1,2,3,4,5,6,7]) (λs=>?_)
   refine Vb Z b s ((VI 10 (.f .n) (h:=by exact λb=>za o.v o.r (J:Int) om _)) λDr U=>(VI 30 (.f .n) (h:=by exact λb=>DV (⟨o.v,o.r,J⟩:En) e R pz.floor cr P M N _)) λLK U=>(Vp [31]∘Vx 32∘Vx 33) λa Z b s=>?_)
   refine s_on Z 35 rfl (cZ Z b 0 rfl rfl rfl rfl rfl ql rfl rfl (lY e) λO b=>?_)
   refine dM kr ?_
   refine ap Z (bO kr) [36] (bt 37 []) [] λa Z=>?_
   refine qd kr ?_
   exact ⟨q,Z.sub kr,b.pt 8 [0,1,2,3,4,5,6,7]⟩
  clear Z b;rintro a w5 ⟨q,Z,b⟩
  refine EF b [.blk q e.cells 333,.blk g9 ((gs.getD g Gr.zero).cells) 198,fM K cp cr (some ⟨qA,0,none⟩) u gc lA B lc uA C uc tA D tc (some ⟨qB,0,none⟩) t sc,fG (some ⟨qA,0,none⟩) u gc gs,fI lA B lc cl,fI uA C uc cu,fT tA D tc ts] [0,1,2,3,4,5,6] [11] λb s=>?_
  refine ap Z (λ_=>s) [0,1,2,4] (bf 12 [0,1,2,4]) [(75,vP q 1),(73,vP q 0),(72,vP gy (c*3)),(71,vP gy (c*3))] λa Z=>?_
  refine dR Z s 3 0 (v:=vQ e.v) λa Z=>?_
  refine dR Z s 5 0 (v:=vW e.r) λa Z=>?_
  refine nV Z s 6 λa Z=>?_
  refine ap Z (λ_=>s) [7] (bt 12 [8,9,10,11]) [(78,vP gy (c*3))] λa Z=>?_
  refine s_on Z 8 rfl ?_
  refine qc2 Z b 7 (c:=c) 0 ({o with v:=e.v}) rfl rfl rfl rfl kr rfl rfl om (Y) (H) rfl de rfl λBU b=>?_
  replace b:Mem W BU (.blk q e.cells 333:: .blk g9 ((gs.getD g Gr.zero).cells) 198::fM K cp cr (some ⟨qA,0,none⟩) u gc lA B lc uA C uc tA D tc (some ⟨qB,0,none⟩) t sc::fG (some ⟨qA,0,none⟩) u gc gs::fI lA B lc cl::fI uA C uc cu::fT tA D tc ts::fS (some ⟨qB,0,none⟩) t sc (aN d g c ({o with v:=e.v}))::(fR (aN d g c ({o with v:=e.v}))++(T))):=b
  refine ay (b.pk [0,1,2,3,4,5,6]) (λs=>?_)
  refine Bc Z (λ_=>s) 9 λa Z=>?_
  refine ap Z (λ_=>s) [10] (bt 12 [11]) [(80,vP gy (c*3+1))] λa Z=>?_
  refine s_on Z 11 rfl ?_
  refine qc2 Z b 7 (c:=c) 1 ({o with v:=e.v,r:=e.r}) rfl rfl rfl rfl kr rfl rfl (by first|omega|(rw [zi];omega)) (Lm om Y) (xq H) rfl de rfl λGm b=>?_
  replace b:Mem W Gm (.blk q e.cells 333:: .blk g9 ((gs.getD g Gr.zero).cells) 198::fM K cp cr (some ⟨qA,0,none⟩) u gc lA B lc uA C uc tA D tc (some ⟨qB,0,none⟩) t sc::fG (some ⟨qA,0,none⟩) u gc gs::fI lA B lc cl::fI uA C uc cu::fT tA D tc ts::fS (some ⟨qB,0,none⟩) t sc (aN (aN d g c ({o with v:=e.v})) g c ({o with v:=e.v,r:=e.r}))::(fR (aN (aN d g c ({o with v:=e.v})) g c ({o with v:=e.v,r:=e.r}))++(T))):=b
  rw [Qe (by first|omega|(rw [zi];omega))] at b
  refine dM kr ?_
  refine qd kr ?_
  refine Jb Z b ((JG∘JR∘cK 1∘Jp 1∘aF∘Jq) λa Z b=>?_)
  exact ⟨_,om,i+1,(aN d g c {o with v:=e.v,r:=e.r}),by omega,by rw [zi];exact hl2,G.put {o with v:=e.v,r:=e.r} ⟨hev,her,I.1.floor⟩ (by rw [Q];have:=S.1.1;rw [S.2] at this;exact this),by rw [qze X,←V,hge];exact q38 (x:=(⟨cp,cr,some ⟨qA,0,none⟩,gc,gs,lA,lc,cl,uA,uc,cu,tA,tc,ts,some ⟨qB,0,none⟩,sc,d⟩:aC)) (by show g<abk d;omega) Y H hpp (by show p<abk d;omega) hp hpz Q N,rfl,Z.sub kr,b.pt 8 [2,3,4,5,6,7]⟩
 refine (JF∘JX) λa Z b=>?_
 exact gQ rfl Z (Zo (x:=(⟨cp,cr,some ⟨qA,0,none⟩,gc,gs,lA,lc,cl,uA,uc,cu,tA,tc,ts,some ⟨qB,0,none⟩,sc,rs⟩:aC)) hl2 G (by rw [show ({(⟨cp,cr,some ⟨qA,0,none⟩,gc,gs,lA,lc,cl,uA,uc,cu,tA,tc,ts,some ⟨qB,0,none⟩,sc,rs⟩:aC) with rs:=d}:aC)=(⟨cp,cr,some ⟨qA,0,none⟩,gc,gs,lA,lc,cl,uA,uc,cu,tA,tc,ts,some ⟨qB,0,none⟩,sc,d⟩:aC) from rfl,V,abI om]) b)
def zae {b:List Mb} (n:Nat) (i:Mem W w F) (j:F.drop n=jq h x m d e f a++T) (k:dB x m d e f a) (hc:(c:Int)<x.ak) (l:g<a) (hm:aO x.av g c=b):Calls abl 162 #[vP h 0,vI g,vI c] w (Is w (.tuple #[.agg (aJ bB b).cells,.bool (!b.isEmpty)])):=hm▸q9q n i j k hc l
def zaf (a:x.av.Ok) {g c:Nat} (b:aO x.av g c≠[]):(aJ bB (aO x.av g c)).v<18446744073709551616:=by
 rcases Lj (Qi a b) with ⟨t,ht,_,h2⟩|⟨h,_,_,_,_,h5⟩
 ·rw [h2];exact (a.ts t ht).v
 ·rw [h5];exact (yx a h c).v
def qzx (W w:World) (x:aC) (I:Nat) (s t u B k:Nat) (hx:dB x s t u B k) (T:List Fact) (e:Mem W w (jq I x s t u B k++T)):
    Calls abl 157 #[vP I 0] w (Qy W I x s t u B k T (fA x.av)):=by
 obtain ⟨cp,cr,gA,gc,gs,lA,lc,cl,uA,uc,cu,tA,tc,ts,sA,sc,rs⟩:=x
 replace e:Mem W w (fM I cp cr gA s gc lA t lc uA u uc tA B tc sA k sc::fG gA s gc gs::fI lA t lc cl::fI uA u uc cu::fT tA B tc ts::fS sA k sc rs::(fR rs++(T))):=e
 obtain ⟨mg,hll,nD,hlt,Q⟩:=hx.ln
 replace mg:abk gs=s:=mg;replace hll:abk cl=t:=hll;replace nD:abk cu=u:=nD;replace hlt:abk ts=B:=hlt;replace Q:abk rs=k:=Q
 have hrg:=hx.sh.rs;replace hrg:abk rs=abk gs:=hrg
 obtain ⟨N,O,_,J⟩:=lW hx.sh.cfg
 replace N:1≤cp:=N;replace O:cp≤64:=O;replace J:bV gs=true:=J
 have nE:=(qp J).1;have nG:=(qp J).2.1
 obtain ⟨d,rfl⟩:=zl (e.own (i:=5) rfl) om
 refine (Qg e Tryz.func157 45) ?_
 refine (JP∘Jp 1∘Jn∘Jf 0∘Jg 6 O0∘Jl∘Jp 1∘Jj∘JB) λa Z e=>?_
 refine qg (λmS aS wS=>∃(g:Nat) (f:List Rw),(g≤k)∧(abk f=k)∧(dB (⟨cp,cr,gA,gc,gs,lA,lc,cl,uA,uc,cu,tA,tc,ts,some ⟨d,0,none⟩,sc,f⟩:aC) s t u B k)∧(jg (⟨cp,cr,gA,gc,gs,lA,lc,cl,uA,uc,cu,tA,tc,ts,some ⟨d,0,none⟩,sc,rs⟩:aC) f g 0)∧mS=k-g∧Fr aS 45 [] [(13,vI g),(12,vI k),(11,vS d k sc),(0,vP I 0)]∧Mem W wS (fM I cp cr gA s gc lA t lc uA u uc tA B tc (some ⟨d,0,none⟩) k sc::fG gA s gc gs::fI lA t lc cl::fI uA u uc cu::fT tA B tc ts::fS (some ⟨d,0,none⟩) k sc f::(fR f++(T)))) (m:=k-0) ⟨0,rs,abx _,Q,hx,qzf,rfl,Z.sub kr,e.pt 6 [0,1,2,3,4,5]⟩ ?_
 clear Z e;rintro mS a w_ ⟨g,f,hg,hl2,R,hR,rfl,Z,e⟩
 refine Jb Z e ((JP∘Jp 1∘Jj∘JQ) (Ji (λyE=>?_) λyE=>?_))
 ·
  have akj:g<k:=by omega
  obtain ⟨⟨yA,yc,yl⟩,hy⟩:∃y,f.getD g Rw.zero=y:=⟨_,rfl⟩
  have K:=R.spots g (by show g<abk f;omega)
  replace K:((f.getD g Rw.zero).l.length:Int)=cp∧_:=K
  rw [hy] at K
  have hyl:(abk yl:Int)=cp:=K.1
  repeat (first|clear Z|clear e)
  intro a Z e
  obtain ⟨Y,rfl⟩:=e.jw 6 rfl om hy om
  have S:=hR.2.1 g
  rw [hy] at S
  replace S:abk yl=(rs.getD g Rw.zero).l.length:=S
  refine Jb Z e ((JT∘aD∘JQ∘JB∘JP∘Jp 1∘lU g 1∘Jy (v:= .slice ((f.getD g Rw.zero).A) ((f.getD g Rw.zero).l.length) ((f.getD g Rw.zero).c)) (h:=by exact aae 5 g Rw.zero om rfl rfl rfl)∘Jo (vS Y (abk yl) yc) (by rw [hy])∘Jp 2∘Jr∘Jp 1∘Jl∘Jp 1∘Jj∘JB) λa Z e=>?_)
  refine qg (λmS aS wS=>∃(c:Nat) (b:List Rw) (p:List Sp),(abk b=k)∧(dB (⟨cp,cr,gA,gc,gs,lA,lc,cl,uA,uc,cu,tA,tc,ts,some ⟨d,0,none⟩,sc,b⟩:aC) s t u B k)∧(jg (⟨cp,cr,gA,gc,gs,lA,lc,cl,uA,uc,cu,tA,tc,ts,some ⟨d,0,none⟩,sc,rs⟩:aC) b g c)∧(b.getD g Rw.zero=⟨some ⟨Y,0,none⟩,yc,p⟩)∧(abk p=abk yl)∧mS=abk yl-c∧Fr aS 45 [] [(20,vI c),(19,vI (abk yl)),(3,vS Y (abk yl) yc),(2,vI g),(14,.bool true),(13,vI g),(12,vI k),(11,vS d k sc),(0,vP I 0)]∧Mem W wS (fM I cp cr gA s gc lA t lc uA u uc tA B tc (some ⟨d,0,none⟩) k sc::fG gA s gc gs::fI lA t lc cl::fI uA u uc cu::fT tA B tc ts::fS (some ⟨d,0,none⟩) k sc b::(fR b++(T)))) (m:=abk yl-0) ⟨0,f,yl,hl2,R,hR,hy,rfl,rfl,Z.sub kr,e.pt 6 [0,1,2,3,4,5]⟩ ?_
  clear Z e;rintro mS a w_ ⟨c,b,p,U,E,L,q,P,rfl,Z,e⟩
  refine Jb Z e ((JP∘Jp 1∘Jj∘JQ) (Ji (λQz=>?_) λQz=>?_))
  ·
   have hc21:c<abk yl:=by omega
   obtain ⟨o,F⟩:∃z,p[c]?=some z:=⟨_,abt om⟩
   obtain ⟨C,G⟩:∃z,aO (⟨cp,cr,gA,gc,gs,lA,lc,cl,uA,uc,cu,tA,tc,ts,some ⟨d,0,none⟩,sc,rs⟩:aC).av g c=z:=⟨_,rfl⟩
   have D:=E.spots g (by show g<abk b;omega)
   replace D:((b.getD g Rw.zero).l.length:Int)=cp∧∀z∈(b.getD g Rw.zero).l,z.Ok∧_:=D
   rw [q] at D
   have V:=(D.2 o (abF F)).1
   have hzf:=V.floor
   have M:=(BF (x:=(⟨cp,cr,gA,gc,gs,lA,lc,cl,uA,uc,cu,tA,tc,ts,some ⟨d,0,none⟩,sc,b⟩:aC)) (by show g<abk b;omega) (E.sh.row g (by show g<abk b;omega))).2 c (by show c<(b.getD g Rw.zero).l.length;rw [q];show c<abk p;omega)
   replace M:dK _ g ((b.getD g Rw.zero).l.getD c Sp.zero)=true:=M
   rw [q,show (⟨some ⟨Y,0,none⟩,yc,p⟩:Rw).l.getD c Sp.zero=o from tN Sp.zero F] at M
   refine (JT∘aD∘JQ∘JB∘JP∘Jp 2∘aK∘Jr∘Jp 3∘JI (h:=by exact λe=>zae 0 e rfl E (by show (c:Int)<cp;omega) om ((q4a L g c).trans G))) λGc hbw=>(Jp 1∘Jx∘Jx∘JA #[vQ 0,vQ 0,vQ 0]) λw5 g5=>(JV sM aU (h1:=by exact BG (aJ bB C))) λBU=>(Jp 1∘Jr∘Jp 1∘Jj) (Ju (λH=>?_) λH=>?_)
   ·
    have hne:C≠[]:=by simpa using H
    have hbv:=zaf (x:=(⟨cp,cr,gA,gc,gs,lA,lc,cl,uA,uc,cu,tA,tc,ts,some ⟨d,0,none⟩,sc,rs⟩:aC)) hx.ok (g:=g) (c:=c) (by rw [G];exact hne)
    rw [G] at hbv
    have hr1:gV (⟨cp,cr,gA,gc,gs,lA,lc,cl,uA,uc,cu,tA,tc,ts,some ⟨d,0,none⟩,sc,rs⟩:aC).av g c o={o with floor:=max o.floor (aJ bB C).v}:=by unfold gV;rw [G,if_neg (by simpa using hne)]
    refine (JT∘Vs .n [12]) λLM=>(Vp [0,1,2,3]∘Vy 4 (h:=by exact Yl.iH Y c 3 rfl rfl rfl)∘Vf 5 2∘Vy 6 (v:=vQ o.floor) (h:=by exact Pd rfl rfl kr (λ_ h=>h.tL 7 (j:=2) rfl om q (F) rfl))∘qL 7 sM O0∘VI 8 .n (h:=by exact λe=>Yg (aJ bB C) _)) λLP hbw=>(Vy 9 (v:=vQ (if ((aJ bB C).v:Int)>(o.floor:Int) then ((aJ bB C).v:Int) else (o.floor:Int))) (h:=by exact Yl.max rfl rfl rfl)∘Vo (vQ (max o.floor (aJ bB C).v:Nat)) (by rw [af3];split<;>split<;>first|rfl|(congr 1;omega))∘Vu 10 (h:=by exact λ_=>Yl.iH Y c 3 rfl rfl rfl)∘Vf 11 2) λa Z e HS=>?_
    refine s_on Z 12 rfl ?_
    refine qc2 Z e 6 (c:=c) 2 ({o with floor:=max o.floor (aJ bB C).v}) rfl rfl rfl rfl kr rfl rfl om (q) (F) rfl de rfl λX e=>?_
    replace e:Mem W X (.blk g5 ((aJ bB C).cells) 283::fM I cp cr gA s gc lA t lc uA u uc tA B tc (some ⟨d,0,none⟩) k sc::fG gA s gc gs::fI lA t lc cl::fI uA u uc cu::fT tA B tc ts::fS (some ⟨d,0,none⟩) k sc (aN b g c ({o with floor:=max o.floor (aJ bB C).v}))::(fR (aN b g c ({o with floor:=max o.floor (aJ bB C).v}))++(T))):=e
    refine dM kr ?_
    refine qd kr ?_
    refine Jb Z e ((JG∘JR∘cK 1∘Jp 1∘aF∘Jq) λa Z e=>?_)
    exact ⟨_,om,c+1,(aN b g c {o with floor:=max o.floor (aJ bB C).v}),(p.set c {o with floor:=max o.floor (aJ bB C).v}),by rw [zi];exact U,E.put (by show g<abk b;omega) {o with floor:=max o.floor (aJ bB C).v} ⟨V.v,V.r,by show max _ _<_;rw [af3];split<;>omega⟩ M,qzg L (by show g<abk rs;omega) (by show c<(rs.getD g Rw.zero).l.length;omega) (by rw [q];exact F) hr1,Lm om q,by rw [abG];exact P,rfl,Z.sub kr,e.pt 7 [1,2,3,4,5,6]⟩
   have hem:aO (⟨cp,cr,gA,gc,gs,lA,lc,cl,uA,uc,cu,tA,tc,ts,some ⟨d,0,none⟩,sc,rs⟩:aC).av g c=[]:=by rw [G];simpa using H
   refine (JF∘aD∘JR∘cK 1∘Jp 1∘aK∘Jq) λa Z e=>?_
   exact ⟨_,om,c+1,b,p,U,E,qzh L hem,q,P,rfl,Z.sub kr,e.pt 7 [1,2,3,4,5,6]⟩
  refine (JF∘JX∘JG∘JR∘cK 1∘Jp 1∘aK∘Jq) λa Z e=>?_
  exact ⟨_,om,g+1,b,by omega,U,E,q4b L (by show (rs.getD g Rw.zero).l.length≤c;omega),rfl,Z.sub kr,e.pt 6 [0,1,2,3,4,5]⟩
 refine (JF∘JX) λa Z e=>?_
 exact gQ rfl Z (Zo (x:=(⟨cp,cr,gA,gc,gs,lA,lc,cl,uA,uc,cu,tA,tc,ts,some ⟨d,0,none⟩,sc,rs⟩:aC)) hl2 R.spots (q4c hR (by show abk rs≤g;omega)) e)
theorem QA {l:List Nat} (n:Nat) (h:Mem W w F) (i:F.drop n=jq f x m b d e a++T) (j:dB x m b d e a) (hc:(c:Int)<x.ak) (k:g<a) (o:kL x.av g c=l):Calls abl 200 #[vP f 0,vI g,vI c] w (LH w l):=o▸zac n h i j hc k
def QB {m n e f a g c:Nat} {l:List Nat} (b:dB x m n e f a) (k:g<a) (i:kL x.av g c=l):∀h∈l,0<h∧h<a:=by
 subst i
 intro h j
 obtain ⟨_,_,_,d⟩:=lW b.sh.cfg
 have h1:=b.sh.rs
 have h2:=b.ln.s
 have h3:=YI (s:=x.av) (c:=c) (g:=g) (uO d om) h j
 exact ⟨h3.1,by omega⟩
theorem Zq {s:aY} {c:Nat}:∀(f g:Nat),abk (qQ s c f g)≤f
 |0,g=>abo _
 | f + 1, g => by
  rw [qQ]
  split
  ·exact abx _
  ·split
   ·rw [abX];have:=Zq (s:=s) (c:=c) f (s.par g).toNat;omega
   ·exact abx _
def QC {m n d e a g c:Nat} {l:List Nat} (b:dB x m n d e a) (h:g<a) (f:kL x.av g c=l):abk l≤1000000:=by
 subst f
 have h1:abk (kL x.av g c)≤g:=Zq (s:=x.av) (c:=c) g g
 have h2:=b.few.s
 have h3:=b.ln.s
 omega
theorem LQ {E:Option Addr} {l:List Nat} (n:Nat) (y:Mem W w F) (z:F.drop n=jq h x m d e f b++T) {j:Nat} (A:F[j]?=some (.row (.slice E (abk l) i) (abk l) (l.map dG) 3 1)) (B:j<n) (C:rF x m d e f b) (k:∀g∈l,0<g∧g<b) (o:abk l≤1000000)
  (p:bV x.gs=true) (q:abk x.rs=abk x.gs) (s:eu x.gs x.ak x.rs) (t:x.aj<18446744073709551616) (u:x.ak≤64) (hc:(c:Int)<x.ak):
  Calls abl 206 #[vP h 0,.slice E (abk l) i,vI c] w (λr v=>∃a,r= .returned (.tuple #[])∧abk a=b∧eu x.gs x.ak a∧({x with rs:=a}:aC).av=gD x.av l c∧Mem W v (F.take n++(jq h {x with rs:=a} m d e f b++T))):=
 (qzw W w x h c m d e f b C (F.take n++T) E i l (List.mem_append_left _ (abF (by rw [List.getElem?_take_of_lt B];exact A))) k o p q s t u hc (y.front n z)).mono λr v ⟨a,h1,h2,h3,h4,h5⟩=>⟨a,h1,h2,h3,h4,h5.back⟩
def ql2 (W w:World) (x:aC) (N:Nat) (H I J D K:Nat) (l:dB x H I J D K) (o:bC) (E:o.Ok) (T:List Fact) (b:Mem W w (jq N x H I J D K++T)):
    Calls abl 153 #[vP N 0,.agg o.cells] w (j5 W N T (yg x.av o)):=by
 obtain ⟨cp,cr,gA,gc,gs,lA,lc,cl,uA,uc,cu,tA,tc,ts,sA,sc,rs⟩:=x
 replace b:Mem W w (fM N cp cr gA H gc lA I lc uA J uc tA D tc sA K sc::fG gA H gc gs::fI lA I lc cl::fI uA J uc cu::fT tA D tc ts::fS sA K sc rs::(fR rs++(T))):=b
 obtain ⟨O,P,Q,A,R⟩:=l.ln
 replace O:abk gs=H:=O;replace P:abk cl=I:=P;replace Q:abk cu=J:=Q;replace A:abk ts=D:=A;replace R:abk rs=K:=R
 have e:=l.ln
 have hsp:eu gs cp rs:=l.spots
 have hrg:abk rs=abk gs:=l.sh.rs
 have hcr:cr<18446744073709551616:=l.ok.aj
 obtain ⟨F,G,_,B⟩:=lW l.sh.cfg
 replace F:1≤cp:=F;replace G:cp≤64:=G;replace B:bV gs=true:=B
 have nE:=(qp B).1;have nG:=(qp B).2.1
 have pF:(abk cl:Int)=cp:=l.sh.cl;have oh:(abk cu:Int)=cp:=l.sh.cu
 have nH:abk ts≤1000000:=l.few.t
 have hoc:=E.cpu;have hot:=E.task;have hog:=E.group;have how:=E.weight;have S:=E.to;have U:=E.ticks;have yF:=E.mask;have pG:=E.kind;unfold aQ at hoc hot hog how S U
 refine (lX b Tryz.func153 55) ?_
 refine (JP∘JE) λw3 g3=>(Jp 2∘Jr∘Jp 1∘Jj∘JQ∘JB∘JP∘Jg 2 O0∘JI (h:=by exact λb=>Lu o.task _)) λuJ c=>(Jp 2∘dU∘Jj) (oJ (λd=>?_) λd=>?_)
 ·
  exact (JT∘JP∘Jp 2∘Jj∘JZ∘bH) λb=>by exact qq (y:=(⟨cp,cr,gA,gc,gs,lA,lc,cl,uA,uc,cu,tA,tc,ts,sA,sc,rs⟩:aC)) 1 b rfl e (if_pos (decide_eq_false d))
 refine (JF∘JP∘Jg 4 O0∘JL (h:=by exact λb=>Lb o.weight _)) ?_
 rintro b _ Dn ⟨rfl,c⟩
 refine ⟨_,rfl,_,b.call c,?_⟩
 refine (Jp 2∘dU∘Jj) (oJ (λg=>?_) λg=>?_)
 ·
  exact (JT∘JP∘Jp 2∘Jj∘JZ∘bH) λb=>by exact qq (y:=(⟨cp,cr,gA,gc,gs,lA,lc,cl,uA,uc,cu,tA,tc,ts,sA,sc,rs⟩:aC)) 1 b rfl e ((if_neg (nf (decide_eq_true d))).trans (if_pos (decide_eq_false g)))
 refine (JF∘aD∘JQ∘JP∘Jp 1∘Jg 2 O0∘JI (h:=by exact λb=>Gf 1 b rfl l o.task)) λKI c=>(Jp 1∘dU∘Jr∘Jp 2∘aK∘Jj) (Ji (λm=>?_) λm=>?_)
 ·
  exact (JT∘JP∘Jp 2∘Jj∘JZ∘bH) λb=>by exact qq (y:=(⟨cp,cr,gA,gc,gs,lA,lc,cl,uA,uc,cu,tA,tc,ts,sA,sc,rs⟩:aC)) 1 b rfl e ((if_neg (nf (decide_eq_true d))).trans ((if_neg (nf (decide_eq_true g))).trans (if_pos (m))))
 obtain ⟨k,t,hk,ht,V,yG⟩:=Gh m
 replace hk:fidx ts o.task=(k:Int):=hk;replace ht:ts[k]?=some t:=ht;replace V:k<abk ts:=V
 obtain ⟨p,L⟩:=l.task ht
 have hti:=p.id;have vv:=p.group;have X:=p.cpu;have Gn:=p.weight;have Y:=L.v;have htr:=L.r;have Gp:=L.mask
 replace X:0≤t.cpu∧t.cpu<cp:=X
 obtain ⟨gt,hgt⟩:∃n:Nat,t.group=(n:Int):=⟨t.group.toNat,by omega⟩
 obtain ⟨ct,hct⟩:∃n:Nat,t.cpu=(n:Int):=⟨t.cpu.toNat,by omega⟩
 obtain ⟨s,hwt⟩:∃n:Nat,t.weight=(n:Int):=⟨t.weight.toNat,by omega⟩
 have M:(⟨t.v,t.r,s⟩:En).Ok:=aaj p.ent hwt Y
 obtain ⟨z,xA⟩:∃n:Nat,o.weight=(n:Int):=⟨o.weight.toNat,by omega⟩
 have hz:1≤z∧z≤65536:=by omega
 repeat (first|clear Z|clear b)
 intro a Z b
 obtain ⟨q,rfl⟩:=b.rat 5 k (hk:=(by omega:k<D))
 refine Jb Z b ((JF∘aD∘JP∘Jp 1∘Jn∘Jf 0∘Jg 5 O1∘Jp 1∘Jo (vI k) (by rw [hk])∘lU k 8∘Jp 1∘aF∘Jj) λa Z b=>?_)
 refine zb (λaS wS=>∃(C:Nat),Fr aS 55 [] [(8,vP C 0),(7,vP q (k*8)),(25,.bool false),(6,vI (fidx ts o.task)),(15,.bool false),(10,.bool false),(5,vI 0),(4,vI 0),(3,vP g3 0),(0,vP N 0)]∧Mem W wS (.blk C ((⟨t.v,0,z⟩:En).cells) 333:: .blk g3 o.cells 214::fM N cp cr gA H gc lA I lc uA J uc (some ⟨q,0,none⟩) D tc sA K sc::fG gA H gc gs::fI lA I lc cl::fI uA J uc cu::fT (some ⟨q,0,none⟩) D tc ts::fS sA K sc rs::(fR rs++(T)))) ?_ ?_
 ·
  refine Jb Z b ((Vs .n [20]) λqO=>(Vp [0,4,8]∘Vf 13 4∘Vn 1∘Vf 2 6∘Vy 3 (v:=vQ t.v) (h:=by exact Pd rfl rfl kr (λ_ h=>h.qu qk (i:=5) rfl (k:=k) (off:=6) (x:=t) (ht) rfl))∘Vn 5∘Vf 6 7∘Vy 7 (v:=vW t.r) (h:=by exact Pd rfl rfl kr (λ_ h=>h.qu qk (i:=5) rfl (k:=k) (off:=7) (x:=t) (ht) rfl))∘Vn 9∘Vf 10 2∘Vy 11 (v:=vI t.weight) (h:=by exact Pd rfl rfl kr (λ_ h=>h.qu qk (i:=5) rfl (k:=k) (off:=2) (x:=t) (ht) rfl))∘Vo (vI s) (by rw [hwt])∘Vc 14 O0∘Vo (vI z) (by rw [xA])) λa Z b u=>?_)
  refine zd [12,19] kr rfl ?_
  refine all_cons ?_ ?_
  ·refine qt Z (i:=12) rfl rfl ?_
   refine iV Z b [vQ t.v,vW t.r,vI s] (.agg #[vQ t.v,vW t.r,vW s]) rfl rfl (za t.v t.r (s:Int) om _) λEY c b a Z=>?_
   refine ay (b.pt 7 [0,1,2,3,4,5,6]) (λu=>?_)
   refine zd [15,19] kr rfl ?_
   refine all_cons ?_ ?_
   ·refine qt Z (i:=15) rfl rfl ?_
    refine iV Z b [.agg #[vQ t.v,vW t.r,vW s],vI z] (.tuple #[.agg ((⟨t.v,0,z⟩:En).cells),vI 0]) rfl rfl (DK (⟨t.v,t.r,s⟩:En) M z hz _) λBO c b a Z=>?_
    refine ay (b.pt 7 [0,1,2,3,4,5,6]) (λu=>?_)
    refine Vb Z b u ((Vp [16]∘Vx 17∘Vx 18∘VA 19 .n #[vQ 0,vW 0,vW 0]) λw8 C=>λa Z b u=>?_)
    refine s_on Z 20 rfl (cZ Z b 0 rfl rfl rfl rfl rfl ql rfl rfl (lY (⟨t.v,0,z⟩:En)) λj b=>?_)
    refine dM kr ?_
    refine ap Z (bO kr) [21] (bt 22 []) [] λa Z=>?_
    refine qd kr ?_
    exact ⟨C,Z.sub kr,b.pt 8 [0,1,2,3,4,5,6,7]⟩
   refine all_cons ?_ all_nil
   refine qt Z (i:=19) rfl rfl ?_
   refine gT Z b #[vQ 0,vW 0,vW 0] ?_
   clear Z b;intro a w8 C Z b
   refine ay (b.pt 8 [1,2,3,4,5,6,7]) (λu=>?_)
   refine Vb Z b u ((VI 15 (.f .n) (h:=by exact λb=>DK (⟨t.v,t.r,s⟩:En) M z hz _)) λBO c=>(Vp [16]∘Vx 17∘Vx 18) λa Z b u=>?_)
   refine s_on Z 20 rfl (cZ Z b 0 rfl rfl rfl rfl rfl ql rfl rfl (lY (⟨t.v,0,z⟩:En)) λj b=>?_)
   refine dM kr ?_
   refine ap Z (bO kr) [21] (bt 22 []) [] λa Z=>?_
   refine qd kr ?_
   exact ⟨C,Z.sub kr,b.pt 8 [0,1,2,3,4,5,6,7]⟩
  refine all_cons ?_ all_nil
  refine qt Z (i:=19) rfl rfl ?_
  refine gT Z b #[vQ 0,vW 0,vW 0] ?_
  clear Z b;intro a w8 C Z b
  refine ay (b.pt 8 [1,2,3,4,5,6,7]) (λu=>?_)
  refine Vb Z b u ((VI 12 (.f .n) (h:=by exact λb=>za t.v t.r (s:Int) om _)) λEY c=>(VI 15 (.f .n) (h:=by exact λb=>DK (⟨t.v,t.r,s⟩:En) M z hz _)) λBO c=>(Vp [16]∘Vx 17∘Vx 18) λa Z b u=>?_)
  refine s_on Z 20 rfl (cZ Z b 0 rfl rfl rfl rfl rfl ql rfl rfl (lY (⟨t.v,0,z⟩:En)) λj b=>?_)
  refine dM kr ?_
  refine ap Z (bO kr) [21] (bt 22 []) [] λa Z=>?_
  refine qd kr ?_
  exact ⟨C,Z.sub kr,b.pt 8 [0,1,2,3,4,5,6,7]⟩
 clear Z b;rintro a uz ⟨C,Z,b⟩
 exact Jb Z b ((JP∘Jp 1∘eF ql O0∘JO (h:=by exact λb=>Ls t (⟨t.v,0,z⟩:En) xO b ht A (Qk Y hz))) λw54=>(oI∘Jr∘Jp 2∘Jj∘JZ∘bH) λb=>by exact qq (y:=(⟨cp,cr,gA,gc,gs,lA,lc,cl,uA,uc,cu,some ⟨q,0,none⟩,tc,(ts.set k (t.put (⟨t.v,0,z⟩:En))),sA,sc,rs⟩:aC)) 2 b rfl (DN e (by rw [abG];exact A)) (qq9 (x:=(⟨cp,cr,gA,gc,gs,lA,lc,cl,uA,uc,cu,some ⟨q,0,none⟩,tc,ts,sA,sc,rs⟩:aC)) (decide_eq_true d) (decide_eq_true g) hk ht xA))
def qt9 (W w:World) (x:aC) (O:Nat) (S U V P H:Nat) (q:dB x S U V P H) (o:bC) (ho:o.Ok) (T:List Fact) (b:Mem W w (jq O x S U V P H++T)):
    Calls abl 149 #[vP O 0,.agg o.cells] w (j5 W O T (xZ x.av o)):=by
 obtain ⟨cp,cr,gA,gc,gs,lA,lc,cl,uA,uc,cu,tA,tc,ts,sA,sc,rs⟩:=x
 replace b:Mem W w (fM O cp cr gA S gc lA U lc uA V uc tA P tc sA H sc::fG gA S gc gs::fI lA U lc cl::fI uA V uc cu::fT tA P tc ts::fS sA H sc rs::(fR rs++(T))):=b
 obtain ⟨mg,hll,nD,I,hls⟩:=q.ln
 replace mg:abk gs=S:=mg;replace hll:abk cl=U:=hll;replace nD:abk cu=V:=nD;replace I:abk ts=P:=I;replace hls:abk rs=H:=hls
 have m:=q.ln
 have hsp:eu gs cp rs:=q.spots
 have hrg:abk rs=abk gs:=q.sh.rs
 have X:cr<18446744073709551616:=q.ok.aj
 obtain ⟨hcp1,J,_,K⟩:=lW q.sh.cfg
 replace hcp1:1≤cp:=hcp1;replace J:cp≤64:=J;replace K:bV gs=true:=K
 have nE:=(qp K).1;have nG:=(qp K).2.1
 have pF:(abk cl:Int)=cp:=q.sh.cl;have oh:(abk cu:Int)=cp:=q.sh.cu
 have nH:abk ts≤1000000:=q.few.t
 have hoc:=ho.cpu;have hot:=ho.task;have hog:=ho.group;have how:=ho.weight;have oo:=ho.to;have oq:=ho.ticks;have yF:=ho.mask;have pG:=ho.kind;unfold aQ at hoc hot hog how oo oq
 obtain ⟨g,rfl⟩:=zl (b.own (i:=5) rfl) om
 refine (lX b Tryz.func149 103) ?_
 refine (JP∘JE) λw3 g3=>(Jp 2∘Jj∘JQ∘JP∘Jg 2 O0∘JI (h:=by exact λb=>Lu o.task _)) λuJ C=>(Jp 1∘bG∘Jj) (oJ (λp=>?_) λp=>?_)
 ·
  exact (JT∘JP∘Jp 2∘Jj∘JZ∘bH) λb=>by exact qq (y:=(⟨cp,cr,gA,gc,gs,lA,lc,cl,uA,uc,cu,tA,tc,ts,some ⟨g,0,none⟩,sc,rs⟩:aC)) 1 b rfl m (if_pos (decide_eq_false p))
 refine (JF∘aD∘JP∘Jp 1∘Jg 2 O0∘JI (h:=by exact λb=>Gf 1 b rfl q o.task)) λDn C=>(Jp 1∘dU∘Jj∘JQ∘JB∘JP∘Jp 3∘bG∘Jj) (Ji (λu=>?_) λu=>?_)
 ·
  exact (JT∘JP∘Jp 2∘Jj∘JZ∘bH) λb=>by exact qq (y:=(⟨cp,cr,gA,gc,gs,lA,lc,cl,uA,uc,cu,tA,tc,ts,some ⟨g,0,none⟩,sc,rs⟩:aC)) 1 b rfl m ((if_neg (nf (decide_eq_true p))).trans (if_pos (u)))
 obtain ⟨k,t,hk,ht,hkl,yG⟩:=Gh u
 replace hk:fidx ts o.task=(k:Int):=hk;replace ht:ts[k]?=some t:=ht;replace hkl:k<abk ts:=hkl
 obtain ⟨L,hto⟩:=q.task ht
 have hti:=L.id;have vv:=L.group;have htc:=L.cpu;have Gn:=L.weight;have yH:=hto.v;have htr:=hto.r;have Gp:=hto.mask
 replace htc:0≤t.cpu∧t.cpu<cp:=htc
 obtain ⟨gt,hgt⟩:∃n:Nat,t.group=(n:Int):=⟨t.group.toNat,by omega⟩
 obtain ⟨ct,Y⟩:∃n:Nat,t.cpu=(n:Int):=⟨t.cpu.toNat,by omega⟩
 obtain ⟨G,hwt⟩:∃n:Nat,t.weight=(n:Int):=⟨t.weight.toNat,by omega⟩
 have vw:(⟨t.v,t.r,G⟩:En).Ok:=aaj L.ent hwt yH
 repeat (first|clear Z|clear b)
 intro a Z b
 obtain ⟨d,rfl⟩:=b.rat 5 k (hk:=(by omega:k<P))
 refine Jb Z b ((JF∘JP∘Jp 1∘Jn∘Jf 0∘Jg 5 O1∘Jp 1∘Jo (vI k) (by rw [hk])∘lU k 8∘Jf 5∘Jy (v:= .bool t.ready) (h:=by exact Pd rfl rfl kr (λ_ h=>h.qu qk (i:=5) rfl (k:=k) (off:=5) (x:=t) (ht) rfl))∘Jp 1∘aF∘Jj) (Ju (λM=>?_) λM=>?_))
 ·
  exact (JT∘JP∘Jp 2∘Jj∘JZ∘bH) λb=>by exact qq (y:=(⟨cp,cr,gA,gc,gs,lA,lc,cl,uA,uc,cu,some ⟨d,0,none⟩,tc,ts,some ⟨g,0,none⟩,sc,rs⟩:aC)) 1 b rfl m ((if_neg (nf (decide_eq_true p))).trans ((if_neg (u)).trans (if_pos (by rw [xu (s:=aC.av (⟨cp,cr,gA,gc,gs,lA,lc,cl,uA,uc,cu,some ⟨d,0,none⟩,tc,ts,some ⟨g,0,none⟩,sc,rs⟩:aC)) hk ht];exact M))))
 have hnr:t.ready=false:=by simpa using M
 obtain ⟨Q,hem⟩:∃l,kL (⟨cp,cr,gA,gc,gs,lA,lc,cl,uA,uc,cu,some ⟨d,0,none⟩,tc,ts,some ⟨g,0,none⟩,sc,rs⟩:aC).av gt ct=l:=⟨_,rfl⟩
 have sO:=λh hh=>QB (x:=(⟨cp,cr,gA,gc,gs,lA,lc,cl,uA,uc,cu,some ⟨d,0,none⟩,tc,ts,some ⟨g,0,none⟩,sc,rs⟩:aC)) q (by omega:gt<H) hem h hh
 have sP:=QC (x:=(⟨cp,cr,gA,gc,gs,lA,lc,cl,uA,uc,cu,some ⟨d,0,none⟩,tc,ts,some ⟨g,0,none⟩,sc,rs⟩:aC)) q (by omega:gt<H) hem
 obtain ⟨⟨yA,yc,yl⟩,hy⟩:∃y,rs.getD gt Rw.zero=y:=⟨_,rfl⟩
 have hys:=hsp gt om;rw [hy] at hys
 have hyl:(abk yl:Int)=cp:=hys.1
 repeat (first|clear Z|clear b)
 intro a Z b
 obtain ⟨gy,rfl⟩:=b.jw 7 rfl om hy om
 obtain ⟨yz,hyz⟩:∃z,yl[ct]?=some z:=⟨_,abt om⟩
 have mP:=hys.2 yz (abF hyz)
 have hyv:=mP.1.v;have p9:=mP.1.r;have rJ:=mP.1.floor
 obtain ⟨e,N⟩:∃e,(⟨t.v,t.r,G⟩:En).woken yz.floor cr=e:=⟨_,rfl⟩
 have uy:e.Ok∧e.w=G:=by rw [←N];exact aaw vw _ _ rJ
 have hev:=uy.1.2;have her:=z8 uy.1.1
 refine Jb Z b ((JF∘aD∘JP∘Jp 1∘Jn∘Jf 0∘Jg 5 O1∘Jp 1∘Jo (vI k) (by rw [hk])∘lU k 8∘Jp 1∘aF∘Jj) λa Z b=>?_)
 refine wp_seq ?_
 refine Jb Z b ((Vs .n []) λOW=>(Vp [0,1,5]∘Vn 2∘Vf 3 1∘Vy 4 (v:=vI t.group) (h:=by exact Pd rfl rfl kr (λ_ h=>h.qu qk (i:=5) rfl (k:=k) (off:=1) (x:=t) (ht) rfl))∘Vo (vI gt) (by rw [hgt])∘Vn 6∘Vf 7 3∘Vy 8 (v:=vI t.cpu) (h:=by exact Pd rfl rfl kr (λ_ h=>h.qu qk (i:=5) rfl (k:=k) (off:=3) (x:=t) (ht) rfl))∘Vo (vI ct) (by rw [Y])∘VK 9 .n (h:=by exact λb=>QA 1 b rfl q (by show ((ct:Nat):Int)<cp;omega) om hem)) λD E Dr akm=>(Vp [10]∘Vd∘aF) λa Z b=>?_)
 refine zb (λaS wS=>∃(F:Nat),Fr aS 103 [] [(9,vP F 0),(8,abg D Q E),(7,vP d (k*8)),(22,.bool false),(19,.bool false),(6,vI (fidx ts o.task)),(14,.bool false),(5,vI 0),(4,vI 0),(3,vP g3 0),(0,vP O 0)]∧Mem W wS (.blk F e.cells 333:: abh D Q E dG 3 1:: .blk g3 o.cells 214::fM O cp cr gA S gc lA U lc uA V uc (some ⟨d,0,none⟩) P tc (some ⟨g,0,none⟩) H sc::fG gA S gc gs::fI lA U lc cl::fI uA V uc cu::fT (some ⟨d,0,none⟩) P tc ts::fS (some ⟨g,0,none⟩) H sc rs::(fR rs++(T)))) ?_ ?_
 ·
  refine Jb Z b ((Vs .n [42]) λqO=>(Vp [0,4,8,13,18,24,31]∘Vn 1∘Vf 2 6∘Vy 3 (v:=vQ t.v) (h:=by exact Pd rfl rfl kr (λ_ h=>h.qu qk (i:=6) rfl (k:=k) (off:=6) (x:=t) (ht) rfl))∘Vn 5∘Vf 6 7∘Vy 7 (v:=vW t.r) (h:=by exact Pd rfl rfl kr (λ_ h=>h.qu qk (i:=6) rfl (k:=k) (off:=7) (x:=t) (ht) rfl))∘Vn 9∘Vf 10 2∘Vy 11 (v:=vI t.weight) (h:=by exact Pd rfl rfl kr (λ_ h=>h.qu qk (i:=6) rfl (k:=k) (off:=2) (x:=t) (ht) rfl))∘Vo (vI G) (by rw [hwt])∘Vn 14∘Vf 15 0∘Vf 16 6∘Vc 17 O2∘Vn 19∘Vf 20 1∘Vy 21 (v:=vI t.group) (h:=by exact Pd rfl rfl kr (λ_ h=>h.qu qk (i:=6) rfl (k:=k) (off:=1) (x:=t) (ht) rfl))∘Vo (vI gt) (by rw [hgt])∘Vy 22 (h:=by exact Yl.iH g gt 1 rfl rfl rfl)∘Vy 23 (v:= .slice ((rs.getD gt Rw.zero).A) ((rs.getD gt Rw.zero).l.length) ((rs.getD gt Rw.zero).c)) (h:=by exact aae 7 gt Rw.zero om rfl rfl rfl)∘Vo (vS gy (abk yl) yc) (by rw [hy])∘Vn 25∘Vf 26 3∘Vy 27 (v:=vI t.cpu) (h:=by exact Pd rfl rfl kr (λ_ h=>h.qu qk (i:=6) rfl (k:=k) (off:=3) (x:=t) (ht) rfl))∘Vo (vI ct) (by rw [Y])∘Vy 28 (h:=by exact Yl.iH gy ct 3 rfl rfl rfl)∘Vf 29 2∘Vy 30 (v:=vQ yz.floor) (h:=by exact Pd rfl rfl kr (λ_ h=>h.tL 8 (j:=2) rfl om hy (hyz) rfl))∘Vn 32∘Vf 33 0∘Vf 34 0∘Vf 35 1∘Vc 36 O2) λa Z b R=>?_)
  refine zd [12,41] kr rfl ?_
  refine all_cons ?_ ?_
  ·refine qt Z (i:=12) rfl rfl ?_
   refine iV Z b [vQ t.v,vW t.r,vI G] (.agg #[vQ t.v,vW t.r,vW G]) rfl rfl (za t.v t.r (G:Int) om _) λw62 C b a Z=>?_
   refine ay (b.pt 8 [0,1,2,3,4,5,6,7]) (λR=>?_)
   refine zd [37,41] kr rfl ?_
   refine all_cons ?_ ?_
   ·refine qt Z (i:=37) rfl rfl ?_
    refine iV Z b [.agg #[vQ t.v,vW t.r,vW G],vQ yz.floor,vQ cr] (.tuple #[.agg e.cells,vI 0]) rfl rfl (DV (⟨t.v,t.r,G⟩:En) e vw yz.floor cr rJ X N _) λLU C b a Z=>?_
    refine ay (b.pt 8 [0,1,2,3,4,5,6,7]) (λR=>?_)
    refine Vb Z b R ((Vp [38]∘Vx 39∘Vx 40∘VA 41 .n #[vQ 0,vW 0,vW 0]) λw9 F=>λa Z b R=>?_)
    refine s_on Z 42 rfl (cZ Z b 0 rfl rfl rfl rfl rfl ql rfl rfl (lY e) λB b=>?_)
    refine dM kr ?_
    refine ap Z (bO kr) [43] (bt 44 []) [] λa Z=>?_
    refine qd kr ?_
    replace Z:=Z.to [(9,vP F 0),(8,abg D Q E),(7,vP d (k*8)),(22,.bool false),(19,.bool false),(6,vI (fidx ts o.task)),(14,.bool false),(5,vI 0),(4,vI 0),(3,vP g3 0),(0,vP O 0)]
    exact ⟨F,Z.sub kr,b.pt 9 [0,1,2,3,4,5,6,7,8]⟩
   refine all_cons ?_ all_nil
   refine qt Z (i:=41) rfl rfl ?_
   refine gT Z b #[vQ 0,vW 0,vW 0] ?_
   clear Z b;intro a w9 F Z b
   refine ay (b.pt 9 [1,2,3,4,5,6,7,8]) (λR=>?_)
   refine Vb Z b R ((VI 37 (.f .n) (h:=by exact λb=>DV (⟨t.v,t.r,G⟩:En) e vw yz.floor cr rJ X N _)) λLU C=>(Vp [38]∘Vx 39∘Vx 40) λa Z b R=>?_)
   refine s_on Z 42 rfl (cZ Z b 0 rfl rfl rfl rfl rfl ql rfl rfl (lY e) λB b=>?_)
   refine dM kr ?_
   refine ap Z (bO kr) [43] (bt 44 []) [] λa Z=>?_
   refine qd kr ?_
   replace Z:=Z.to [(9,vP F 0),(8,abg D Q E),(7,vP d (k*8)),(22,.bool false),(19,.bool false),(6,vI (fidx ts o.task)),(14,.bool false),(5,vI 0),(4,vI 0),(3,vP g3 0),(0,vP O 0)]
   exact ⟨F,Z.sub kr,b.pt 9 [0,1,2,3,4,5,6,7,8]⟩
  refine all_cons ?_ all_nil
  refine qt Z (i:=41) rfl rfl ?_
  refine gT Z b #[vQ 0,vW 0,vW 0] ?_
  clear Z b;intro a w9 F Z b
  refine ay (b.pt 9 [1,2,3,4,5,6,7,8]) (λR=>?_)
  refine Vb Z b R ((VI 12 (.f .n) (h:=by exact λb=>za t.v t.r (G:Int) om _)) λw62 C=>(VI 37 (.f .n) (h:=by exact λb=>DV (⟨t.v,t.r,G⟩:En) e vw yz.floor cr rJ X N _)) λLU C=>(Vp [38]∘Vx 39∘Vx 40) λa Z b R=>?_)
  refine s_on Z 42 rfl (cZ Z b 0 rfl rfl rfl rfl rfl ql rfl rfl (lY e) λB b=>?_)
  refine dM kr ?_
  refine ap Z (bO kr) [43] (bt 44 []) [] λa Z=>?_
  refine qd kr ?_
  replace Z:=Z.to [(9,vP F 0),(8,abg D Q E),(7,vP d (k*8)),(22,.bool false),(19,.bool false),(6,vI (fidx ts o.task)),(14,.bool false),(5,vI 0),(4,vI 0),(3,vP g3 0),(0,vP O 0)]
  exact ⟨F,Z.sub kr,b.pt 9 [0,1,2,3,4,5,6,7,8]⟩
 clear Z b;rintro a uz ⟨F,Z,b⟩
 refine Jb Z b ((JP∘Jp 1∘eF ql O0∘JO (h:=by exact λb=>Ls t e xP b ht I uy.1)) λQD=>(oI∘Jr∘Jp 1∘Jn∘Jf 5) λa Z b=>?_)
 refine fo Z 3 rfl rfl ?_
 refine qw Z b (i:=7) rfl rfl rfl rfl kr rfl rfl (by rw [zk bI 8 qk,abG];omega) λFT b=>?_
 replace b:=b.bM (i:=7) (ys:=(ts.set k {t.put e with ready:=true}).flatMap bI) rfl ((ze bI 8 qk (ts.set k (t.put e)) k (t.put e) {t.put e with ready:=true} (xq ht) 5 de _ rfl).trans (by rw [ad5]))
 refine Jb Z b ((oI∘Jr∘Jp 3∘Jn∘Jf 3∘Jy (v:=vI (({t.put e with ready:=true}:Tk).cpu)) (h:=by exact Pd rfl rfl kr (λ_ h=>h.qu qk (i:=7) rfl (k:=k) (off:=3) (x:=({t.put e with ready:=true}:Tk)) ((xq ht)) rfl))∘Jo (vI ct) (by rw [←Y];try rfl)∘JL (h:=by exact λb=>LQ 3 b rfl (j:=1) rfl de (DN (ts':=ts.set k {t.put e with ready:=true}) m (by rw [abG];exact I)) (sO) (sP) K hrg hsp X J (by show ((ct:Nat):Int)<cp;omega))) ?_)
 rintro b _ QE ⟨jG,rfl,hl2,hsp2,nI,BX⟩
 refine ⟨_,rfl,_,(show Mem W QE (.blk F e.cells 333:: abh D Q E dG 3 1:: .blk g3 o.cells 214::fM O cp cr gA S gc lA U lc uA V uc (some ⟨d,0,none⟩) P tc (some ⟨g,0,none⟩) H sc::fG gA S gc gs::fI lA U lc cl::fI uA V uc cu::fT (some ⟨d,0,none⟩) P tc (ts.set k {t.put e with ready:=true})::fS (some ⟨g,0,none⟩) H sc jG::(fR jG++(T))) from BX),?_⟩
 exact (iA∘Jr∘Jp 2∘Jj∘JZ∘bH) λb=>by exact qq (y:=(⟨cp,cr,gA,gc,gs,lA,lc,cl,uA,uc,cu,some ⟨d,0,none⟩,tc,(ts.set k {t.put e with ready:=true}),some ⟨g,0,none⟩,sc,jG⟩:aC)) 3 b rfl (Lv (DN m (by rw [abG];exact I)) hl2) ((q4i (x:=(⟨cp,cr,gA,gc,gs,lA,lc,cl,uA,uc,cu,some ⟨d,0,none⟩,tc,ts,some ⟨g,0,none⟩,sc,rs⟩:aC)) (decide_eq_true p) hk ht hnr hgt Y hwt (xk (x:=(⟨cp,cr,gA,gc,gs,lA,lc,cl,uA,uc,cu,some ⟨d,0,none⟩,tc,ts,some ⟨g,0,none⟩,sc,rs⟩:aC)) (by show gt<abk rs;omega) hy hyz) N hem).trans (by rw [←nI]))
def qzy (W w:World) (x:aC) (M:Nat) (B C A D E:Nat) (j:dB x B C A D E) (o:bC) (q:o.Ok) (T:List Fact) (d:Mem W w (jq M x B C A D E++T)):
    Calls abl 152 #[vP M 0,.agg o.cells] w (j5 W M T (kG x.av o)):=by
 obtain ⟨cp,cr,gA,gc,gs,lA,lc,cl,uA,uc,cu,tA,tc,ts,sA,sc,rs⟩:=x
 replace d:Mem W w (fM M cp cr gA B gc lA C lc uA A uc tA D tc sA E sc::fG gA B gc gs::fI lA C lc cl::fI uA A uc cu::fT tA D tc ts::fS sA E sc rs::(fR rs++(T))):=d
 obtain ⟨G,H,z,I,J⟩:=j.ln
 replace G:abk gs=B:=G;replace H:abk cl=C:=H;replace z:abk cu=A:=z;replace I:abk ts=D:=I;replace J:abk rs=E:=J
 have e:=j.ln
 have hsp:eu gs cp rs:=j.spots
 have hrg:abk rs=abk gs:=j.sh.rs
 have hcr:cr<18446744073709551616:=j.ok.aj
 obtain ⟨r,u,_,m⟩:=lW j.sh.cfg
 replace r:1≤cp:=r;replace u:cp≤64:=u;replace m:bV gs=true:=m
 have U:=(qp m).1;have V:=(qp m).2.1
 have X:(abk cl:Int)=cp:=j.sh.cl;have Y:(abk cu:Int)=cp:=j.sh.cu
 have nH:abk ts≤1000000:=j.few.t
 have N:=q.cpu;have O:=q.task;have P:=q.group;have Q:=q.weight;have K:=q.to;have L:=q.ticks;have yF:=q.mask;have pG:=q.kind;unfold aQ at N O P Q K L
 obtain ⟨b,rfl⟩:=zl (d.own (i:=3) rfl) om
 refine (lX d Tryz.func152 32) ?_
 refine (JP∘JE) λw3 g3=>(Jp 2∘Jj∘JQ∘JP∘Jp 1∘Jg 1 O0∘JI (h:=by exact λd=>DL 1 d rfl j o.cpu)) λw9 R=>(Jp 1∘dU∘Jj) (oJ (λf=>?_) λf=>?_)
 ·
  exact (JT∘JP∘Jp 2∘Jj∘JZ∘bH) λd=>by exact qq (y:=(⟨cp,cr,gA,gc,gs,lA,lc,cl,some ⟨b,0,none⟩,uc,cu,tA,tc,ts,sA,sc,rs⟩:aC)) 1 d rfl e (if_pos (decide_eq_false f))
 replace f:0≤o.cpu∧o.cpu<cp:=f
 obtain ⟨c,p⟩:∃n:Nat,o.cpu=(n:Int):=⟨o.cpu.toNat,by omega⟩
 have qR:((c:Nat):Int)<cp:=by omega
 refine (JF∘aD) λa Z d=>?_
 refine wp_seq ?_
 refine Jb Z d ((Vs .n [12]) λwd3=>(Vp [0]∘Vf 5 1∘Vp [7]∘Vf 8 1∘Vn 1∘Vf 2 0∘Vf 3 4∘Vc 4 O1∘Vc 6 O0∘Vo (vI c) (by rw [p])∘Vc 9 O0∘Vo (vI c) (by rw [p])∘VI 10 .n (h:=by exact λd=>zad 1 d rfl j (by show ((c:Nat):Int)<cp;omega))) λQF R=>(Vy 11 (h:=by exact Yl.iH b c 1 rfl rfl rfl)) λa Z d HS=>?_)
 refine s_on Z 12 rfl ?_
 refine qw Z d (i:=4) rfl rfl rfl rfl kr rfl rfl (by rw [abv];omega) λS d=>?_
 replace d:=d.bM (i:=4) (ys:=(cu.set c (oK (⟨cp,cr,gA,gc,gs,lA,lc,cl,some ⟨b,0,none⟩,uc,cu,tA,tc,ts,sA,sc,rs⟩:aC).av c:Int)).map aP) rfl (Ku aP cu c (oK (⟨cp,cr,gA,gc,gs,lA,lc,cl,some ⟨b,0,none⟩,uc,cu,tA,tc,ts,sA,sc,rs⟩:aC).av c:Int) om)
 refine dM kr ?_
 refine qd kr ?_
 refine wp_seq ?_
 exact Jb Z d ((Vs .n []) λwd4=>(Vp [0]∘Vf 5 1∘Vn 1∘Vf 2 0∘Vf 3 4∘Vc 4 O1∘Vc 6 O0∘Vo (vI c) (by rw [p])∘Vy 7 (h:=by exact Yl.iH b c 1 rfl rfl rfl)∘Vy 8 (v:=vI (oK (⟨cp,cr,gA,gc,gs,lA,lc,cl,some ⟨b,0,none⟩,uc,cu,tA,tc,ts,sA,sc,rs⟩:aC).av c)) (h:=by exact Pd rfl rfl kr (λ_ h=>h.U6 (i:=4) rfl (k:=c) (xI (F:=aP) (k:=c) (x:=(oK (⟨cp,cr,gA,gc,gs,lA,lc,cl,some ⟨b,0,none⟩,uc,cu,tA,tc,ts,sA,sc,rs⟩:aC).av c:Int)) ((acJ om)))))∘Vp [9,10]∘Vd∘JZ∘bH) λd=>by exact qq (y:=(⟨cp,cr,gA,gc,gs,lA,lc,cl,some ⟨b,0,none⟩,uc,(cu.set c (oK (⟨cp,cr,gA,gc,gs,lA,lc,cl,some ⟨b,0,none⟩,uc,cu,tA,tc,ts,sA,sc,rs⟩:aC).av c:Int)),tA,tc,ts,sA,sc,rs⟩:aC)) 1 d rfl ⟨e.g,e.l,by show abk (cu.set _ _)=A;rw [abG];exact z,e.t,e.s⟩ (q9u (x:=(⟨cp,cr,gA,gc,gs,lA,lc,cl,some ⟨b,0,none⟩,uc,cu,tA,tc,ts,sA,sc,rs⟩:aC)) p (decide_eq_true f)))
def DW (x e:En) (a:x.Ok) (d:Nat) (b:d≤4294967295) (c:x.add d=e) (w:World):Calls abl 210 #[.agg x.cells,vI d] w (Is w (.tuple #[.agg e.cells,vI 0])):=c▸q9t x a d b w
def Zr (n:Nat) (e:Mem W w F) (f:F.drop n=jq d x c m g a b++T) (h:dB x c m g a b) (id:Int) (k:Nat) (hk:fidx x.ts id=(k:Int)):Calls abl 161 #[vP d 0,vI id] w (Is w (vI k)):=hk▸Gf n e f h id
def zag (h:dB x m n b f i) (v:Int) (j:0≤v∧v≤281474976710656):dB ({x with cl:=x.cl.set c v}:aC) m n b f i:=by
 refine ⟨⟨h.ok.ak,h.ok.aj,h.ok.gs,λz hz=>?_,h.ok.cu,h.ok.ts,h.ok.sp⟩,⟨h.few.g,by show abk (x.cl.set c v)≤_;rw [abG];exact h.few.l,h.few.u,h.few.t,h.few.s,h.few.r⟩,⟨h.sh.cfg,by show (abk (x.cl.set c v):Int)=_;rw [abG];exact h.sh.cl,h.sh.cu,h.sh.rs,λd k=>?_,h.sh.row,h.sh.tk⟩,⟨h.ln.g,by show abk (x.cl.set c v)=_;rw [abG];exact h.ln.l,h.ln.u,h.ln.t,h.ln.s⟩⟩
 ·rcases abW hz with h1|rfl
  ·exact h.ok.cl z h1
  ·unfold aQ;omega
 ·have a:d<abk (x.cl.set c v):=k
  show gU ((x.cl.set c v).getD d 0)=true
  rw [abG] at a
  by_cases e:c=d
  ·subst e
   rw [q7 _ _ a]
   unfold gU
   rw [decide_eq_true j]
  ·rw [getD_set_ne _ _ e]
   exact h.sh.cls d a
def Zt (h:dV x.av c=true) (h0:x.cu.getD c 0≠0):∃(k:Nat) (t:Tk),fidx x.ts (x.cu.getD c 0)=(k:Int)∧x.ts[k]?=some t∧k<abk x.ts∧t.id=x.cu.getD c 0:=by
 refine Gh λa=>?_
 rw [X5 h0 (YA a)] at h
 cases h
def qzz (W w:World) (x:aC) (M:Nat) (R N S O Q:Nat) (U:dB x R N S O Q) (o:bC) (ho:o.Ok) (T:List Fact) (b:Mem W w (jq M x R N S O Q++T)) (hcur:∀c,c<abk x.cu→dV x.av c=true):
    Calls abl 151 #[vP M 0,.agg o.cells] w (j5 W M T (jv x.av o)):=by
 obtain ⟨cp,cr,gA,gc,gs,lA,lc,cl,uA,uc,cu,tA,tc,ts,sA,sc,rs⟩:=x
 replace b:Mem W w (fM M cp cr gA R gc lA N lc uA S uc tA O tc sA Q sc::fG gA R gc gs::fI lA N lc cl::fI uA S uc cu::fT tA O tc ts::fS sA Q sc rs::(fR rs++(T))):=b
 obtain ⟨mg,hll,nD,hlt,hls⟩:=U.ln
 replace mg:abk gs=R:=mg;replace hll:abk cl=N:=hll;replace nD:abk cu=S:=nD;replace hlt:abk ts=O:=hlt;replace hls:abk rs=Q:=hls
 have H:=U.ln
 have hsp:eu gs cp rs:=U.spots
 have hrg:abk rs=abk gs:=U.sh.rs
 have hcr:cr<18446744073709551616:=U.ok.aj
 obtain ⟨hcp1,hcp2,_,V⟩:=lW U.sh.cfg
 replace hcp1:1≤cp:=hcp1;replace hcp2:cp≤64:=hcp2;replace V:bV gs=true:=V
 have nE:=(qp V).1;have nG:=(qp V).2.1
 have pF:(abk cl:Int)=cp:=U.sh.cl;have oh:(abk cu:Int)=cp:=U.sh.cu
 have nH:abk ts≤1000000:=U.few.t
 have hoc:=ho.cpu;have hot:=ho.task;have hog:=ho.group;have how:=ho.weight;have oo:=ho.to;have oq:=ho.ticks;have yF:=ho.mask;have pG:=ho.kind;unfold aQ at hoc hot hog how oo oq
 have QG:=U.ok.cu;have akq:=U.ok.cl
 have hcls:=U.sh.cls
 obtain ⟨B,rfl⟩:=zl (b.own (i:=1) rfl) om
 obtain ⟨q,rfl⟩:=zl (b.own (i:=2) rfl) om
 obtain ⟨C,rfl⟩:=zl (b.own (i:=3) rfl) om
 obtain ⟨D,rfl⟩:=zl (b.own (i:=5) rfl) om
 refine (lX b Tryz.func151 158) ?_
 refine (JP∘JE) λw3 g3=>(Jp 2∘Jr∘Jp 1∘Jn∘Jf 0∘Jp 1∘dU∘Jj∘JQ∘JB∘JP∘Jp 1∘Jg 1 O0∘JI (h:=by exact λb=>DL 1 b rfl U o.cpu)) λOi L=>(Jp 2∘gG∘Jj) (oJ (λJ=>?_) λJ=>?_)
 ·
  exact (JT∘JP∘Jp 2∘Jj∘JZ∘bH) λb=>by exact qq (y:=(⟨cp,cr,some ⟨B,0,none⟩,gc,gs,some ⟨q,0,none⟩,lc,cl,some ⟨C,0,none⟩,uc,cu,tA,tc,ts,some ⟨D,0,none⟩,sc,rs⟩:aC)) 1 b rfl H (if_pos (decide_eq_false J))
 replace J:0≤o.cpu∧o.cpu<cp:=J
 obtain ⟨c,X⟩:∃n:Nat,o.cpu=(n:Int):=⟨o.cpu.toNat,by omega⟩
 have qR:((c:Nat):Int)<cp:=by omega
 have Y:=hcls c (by show c<abk cl;omega);replace Y:0≤(cl.getD c 0)∧(cl.getD c 0)≤281474976710656:=by unfold gU at Y;simpa using Y
 obtain ⟨v,hv⟩:∃z,(cl.getD c 0)=z:=⟨_,rfl⟩
 rw [hv] at Y
 refine (JF∘JP∘Jg 6 O0∘Jp 2) (Ji (λhd28=>?_) λhd28=>?_)
 ·
  exact (Jp 5∘aF∘Jj∘JT∘JP∘Jp 2∘Jj∘JZ∘bH) λb=>by exact qq (y:=(⟨cp,cr,some ⟨B,0,none⟩,gc,gs,some ⟨q,0,none⟩,lc,cl,some ⟨C,0,none⟩,uc,cu,tA,tc,ts,some ⟨D,0,none⟩,sc,rs⟩:aC)) 1 b rfl H ((if_neg (nf (decide_eq_true J))).trans (if_pos om))
 refine (Jg 6 O0∘Jp 3∘aF∘Jj) (Ji (λhd24=>?_) λhd24=>?_)
 ·
  exact (JT∘JP∘Jp 2∘Jj∘JZ∘bH) λb=>by exact qq (y:=(⟨cp,cr,some ⟨B,0,none⟩,gc,gs,some ⟨q,0,none⟩,lc,cl,some ⟨C,0,none⟩,uc,cu,tA,tc,ts,some ⟨D,0,none⟩,sc,rs⟩:aC)) 1 b rfl H ((if_neg (nf (decide_eq_true J))).trans (if_pos om))
 have htk:1≤o.ticks∧o.ticks≤4294967295:=by omega
 obtain ⟨d,hod⟩:∃n:Nat,o.ticks=(n:Int):=⟨o.ticks.toNat,by omega⟩
 have hd0:d≤4294967295:=by omega
 refine (JF) λa Z b=>?_
 refine wp_seq ?_
 refine Jb Z b ((Vs .n []) λLV=>(Vp [0]∘Vf 4 1∘Vf 8 6∘Vn 1∘Vf 2 3∘Vc 3 O1∘Vc 5 O0∘Vo (vI c) (by rw [X])∘Vy 6 (h:=by exact Yl.iH q c 1 rfl rfl rfl)∘Vy 7 (v:=vI (cl.getD c 0)) (h:=by exact aae 3 c 0 om rfl rfl rfl)∘Vo (vI v) (by rw [hv])∘Vc 9 O0∘Vo (vI d) (by rw [hod])∘Vp [10]∘Vo (vI (v+d)) (by exact oH ⟨by omega,by omega⟩)∘Vp [11,12]∘Vd∘aF) (Ji (λQI=>?_) λQI=>?_))
 ·
  exact (JT∘JP∘Jp 2∘Jj∘JZ∘bH) λb=>by exact qq (y:=(⟨cp,cr,some ⟨B,0,none⟩,gc,gs,some ⟨q,0,none⟩,lc,cl,some ⟨C,0,none⟩,uc,cu,tA,tc,ts,some ⟨D,0,none⟩,sc,rs⟩:aC)) 1 b rfl H ((if_neg (nf (decide_eq_true J))).trans ((if_neg om).trans (if_pos (by show 281474976710656<cl.getD o.cpu.toNat 0+o.ticks;rw [X,abD,hv];omega))))
 obtain ⟨id,hid⟩:∃z,cu.getD c 0=z:=⟨_,rfl⟩
 have hxk:=zag (x:=(⟨cp,cr,some ⟨B,0,none⟩,gc,gs,some ⟨q,0,none⟩,lc,cl,some ⟨C,0,none⟩,uc,cu,tA,tc,ts,some ⟨D,0,none⟩,sc,rs⟩:aC)) (c:=c) U (v+d) ⟨by omega,by omega⟩
 have QJ:aQ id:=by rw [←hid];exact QG _ (qe 0 (by show c<abk cu;omega))
 intro a Z b
 unfold aQ at QJ
 refine Jb Z b ((JF∘aD) λa Z b=>?_)
 refine wp_seq ?_
 refine Jb Z b ((Vs .n [12]) λLM=>(Vp [0]∘Vf 4 1∘Vf 8 6∘Vn 1∘Vf 2 3∘Vc 3 O1∘Vc 5 O0∘Vo (vI c) (by rw [X])∘Vy 6 (h:=by exact Yl.iH q c 1 rfl rfl rfl)∘Vy 7 (v:=vI (cl.getD c 0)) (h:=by exact aae 3 c 0 om rfl rfl rfl)∘Vo (vI v) (by rw [hv])∘Vc 9 O0∘Vo (vI d) (by rw [hod])∘Vp [10]∘Vo (vI (v+d)) (by exact oH ⟨by omega,by omega⟩)∘Vy 11 (h:=by exact Yl.iH q c 1 rfl rfl rfl)) λa Z b I=>?_)
 refine s_on Z 12 rfl ?_
 refine qw Z b (i:=3) rfl rfl rfl rfl kr rfl rfl (by rw [abv];omega) λZu b=>?_
 replace b:=b.bM (i:=3) (ys:=(cl.set c (v+d)).map aP) rfl (Ku aP cl c (v+d) om)
 refine dM kr ?_
 refine qd kr ?_
 refine wp_seq ?_
 refine Jb Z b ((Vs .n []) λOW=>(Vp [0]∘Vf 4 1∘Vn 1∘Vf 2 4∘Vc 3 O1∘Vc 5 O0∘Vo (vI c) (by rw [X])∘Vy 6 (h:=by exact Yl.iH C c 1 rfl rfl rfl)∘Vy 7 (v:=vI (cu.getD c 0)) (h:=by exact aae 4 c 0 om rfl rfl rfl)∘Vo (vI id) (by rw [hid])∘Vp [8]∘Vd∘aF∘JQ∘JP∘Jp 2∘aK∘Jj) (Je (λBZ=>?_) λBZ=>?_))
 ·
  exact (JT∘JP∘Jp 2∘Jj∘JZ∘bH) λb=>by exact qq (y:=(⟨cp,cr,some ⟨B,0,none⟩,gc,gs,some ⟨q,0,none⟩,lc,(cl.set c (v+d)),some ⟨C,0,none⟩,uc,cu,tA,tc,ts,some ⟨D,0,none⟩,sc,rs⟩:aC)) 1 b rfl ⟨H.g,by show abk (cl.set _ _)=N;rw [abG];exact hll,H.u,H.t,H.s⟩ ((q4j (x:=(⟨cp,cr,some ⟨B,0,none⟩,gc,gs,some ⟨q,0,none⟩,lc,cl,some ⟨C,0,none⟩,uc,cu,tA,tc,ts,some ⟨D,0,none⟩,sc,rs⟩:aC)) (decide_eq_true J) htk X hv om (hid.trans om)).trans (by rw [hod]))
 have Gq:id≠0:=by omega
 have Gs:=Zt (x:=(⟨cp,cr,some ⟨B,0,none⟩,gc,gs,some ⟨q,0,none⟩,lc,cl,some ⟨C,0,none⟩,uc,cu,tA,tc,ts,some ⟨D,0,none⟩,sc,rs⟩:aC)) (hcur c (by show c<abk cu;omega)) (by show cu.getD c 0≠0;rw [hid];exact Gq)
 rw [show (⟨cp,cr,some ⟨B,0,none⟩,gc,gs,some ⟨q,0,none⟩,lc,cl,some ⟨C,0,none⟩,uc,cu,tA,tc,ts,some ⟨D,0,none⟩,sc,rs⟩:aC).cu.getD c 0=id from hid] at Gs
 obtain ⟨k,t,hk,ht,hkl,yG⟩:=Gs
 replace hk:fidx ts id=(k:Int):=hk;replace ht:ts[k]?=some t:=ht;replace hkl:k<abk ts:=hkl
 obtain ⟨Gt,hto⟩:=U.task ht
 have hti:=Gt.id;have vv:=Gt.group;have htc:=Gt.cpu;have Gn:=Gt.weight;have yH:=hto.v;have htr:=hto.r;have Gp:=hto.mask
 replace htc:0≤t.cpu∧t.cpu<cp:=htc
 obtain ⟨gt,hgt⟩:∃n:Nat,t.group=(n:Int):=⟨t.group.toNat,by omega⟩
 obtain ⟨ct,hct⟩:∃n:Nat,t.cpu=(n:Int):=⟨t.cpu.toNat,by omega⟩
 obtain ⟨wt,hwt⟩:∃n:Nat,t.weight=(n:Int):=⟨t.weight.toNat,by omega⟩
 have vw:(⟨t.v,t.r,wt⟩:En).Ok:=aaj Gt.ent hwt yH
 obtain ⟨e,Gu⟩:∃e,(⟨t.v,t.r,wt⟩:En).add d=e:=⟨_,rfl⟩
 have uy:e.Ok∧e.w=wt:=by rw [←Gu];exact aas vw d
 repeat (first|clear Z|clear b)
 intro a Z b
 obtain ⟨E,rfl⟩:=b.rat 5 k (hk:=(by omega:k<O))
 refine Jb Z b ((JF∘aD) λa Z b=>?_)
 refine wp_seq ?_
 refine Jb Z b ((Vs .n []) λQK=>(Vp [0,4,5]∘Vn 1∘Vf 2 5∘Vc 3 O1∘VI 6 .n (h:=by exact λb=>Zr 1 b rfl hxk id k hk)) λZv L=>(Vy 7 (h:=by exact Yl.iH E k 8 rfl rfl rfl)∘Vp [8]∘Vd∘aF) λa Z b=>?_)
 refine zb (λaS wS=>∃(P:Nat),Fr aS 158 [] [(9,vP P 0),(8,vP E (k*8)),(67,.bool false),(7,vI id),(33,.bool false),(24,.bool false),(18,.bool false),(6,vP M 0),(5,vI 0),(4,vI 0),(3,vP g3 0),(0,vP M 0)]∧Mem W wS (.blk P e.cells 333:: .blk g3 o.cells 214::fM M cp cr (some ⟨B,0,none⟩) R gc (some ⟨q,0,none⟩) N lc (some ⟨C,0,none⟩) S uc (some ⟨E,0,none⟩) O tc (some ⟨D,0,none⟩) Q sc::fG (some ⟨B,0,none⟩) R gc gs::fI (some ⟨q,0,none⟩) N lc (cl.set c (v+d))::fI (some ⟨C,0,none⟩) S uc cu::fT (some ⟨E,0,none⟩) O tc ts::fS (some ⟨D,0,none⟩) Q sc rs::(fR rs++(T)))) ?_ ?_
 ·
  refine Jb Z b ((Vs .n [20]) λFU=>(Vp [0,4,8]∘Vf 13 6∘Vn 1∘Vf 2 6∘Vy 3 (v:=vQ t.v) (h:=by exact Pd rfl rfl kr (λ_ h=>h.qu qk (i:=5) rfl (k:=k) (off:=6) (x:=t) (ht) rfl))∘Vn 5∘Vf 6 7∘Vy 7 (v:=vW t.r) (h:=by exact Pd rfl rfl kr (λ_ h=>h.qu qk (i:=5) rfl (k:=k) (off:=7) (x:=t) (ht) rfl))∘Vn 9∘Vf 10 2∘Vy 11 (v:=vI t.weight) (h:=by exact Pd rfl rfl kr (λ_ h=>h.qu qk (i:=5) rfl (k:=k) (off:=2) (x:=t) (ht) rfl))∘Vo (vI wt) (by rw [hwt])∘Vc 14 O0∘Vo (vI d) (by rw [hod])) λa Z b I=>?_)
  refine zd [12,19] kr rfl ?_
  refine all_cons ?_ ?_
  ·refine qt Z (i:=12) rfl rfl ?_
   refine iV Z b [vQ t.v,vW t.r,vI wt] (.agg #[vQ t.v,vW t.r,vW wt]) rfl rfl (za t.v t.r (wt:Int) om _) λQL L b a Z=>?_
   refine ay (b.pt 7 [0,1,2,3,4,5,6]) (λI=>?_)
   refine zd [15,19] kr rfl ?_
   refine all_cons ?_ ?_
   ·refine qt Z (i:=15) rfl rfl ?_
    refine iV Z b [.agg #[vQ t.v,vW t.r,vW wt],vI d] (.tuple #[.agg e.cells,vI 0]) rfl rfl (DW (⟨t.v,t.r,wt⟩:En) e vw d hd0 Gu _) λQD L b a Z=>?_
    refine ay (b.pt 7 [0,1,2,3,4,5,6]) (λI=>?_)
    refine Vb Z b I ((Vp [16]∘Vx 17∘Vx 18∘VA 19 .n #[vQ 0,vW 0,vW 0]) λw9 P=>λa Z b I=>?_)
    refine s_on Z 20 rfl (cZ Z b 0 rfl rfl rfl rfl rfl ql rfl rfl (lY e) λvC b=>?_)
    refine dM kr ?_
    refine ap Z (bO kr) [21] (bt 22 []) [] λa Z=>?_
    refine qd kr ?_
    replace Z:=Z.to [(9,vP P 0),(8,vP E (k*8)),(67,.bool false),(7,vI id),(33,.bool false),(24,.bool false),(18,.bool false),(6,vP M 0),(5,vI 0),(4,vI 0),(3,vP g3 0),(0,vP M 0)]
    exact ⟨P,Z.sub kr,b.pt 8 [0,1,2,3,4,5,6,7]⟩
   refine all_cons ?_ all_nil
   refine qt Z (i:=19) rfl rfl ?_
   refine gT Z b #[vQ 0,vW 0,vW 0] ?_
   clear Z b;intro a w9 P Z b
   refine ay (b.pt 8 [1,2,3,4,5,6,7]) (λI=>?_)
   refine Vb Z b I ((VI 15 (.f .n) (h:=by exact λb=>DW (⟨t.v,t.r,wt⟩:En) e vw d hd0 Gu _)) λQD L=>(Vp [16]∘Vx 17∘Vx 18) λa Z b I=>?_)
   refine s_on Z 20 rfl (cZ Z b 0 rfl rfl rfl rfl rfl ql rfl rfl (lY e) λvC b=>?_)
   refine dM kr ?_
   refine ap Z (bO kr) [21] (bt 22 []) [] λa Z=>?_
   refine qd kr ?_
   replace Z:=Z.to [(9,vP P 0),(8,vP E (k*8)),(67,.bool false),(7,vI id),(33,.bool false),(24,.bool false),(18,.bool false),(6,vP M 0),(5,vI 0),(4,vI 0),(3,vP g3 0),(0,vP M 0)]
   exact ⟨P,Z.sub kr,b.pt 8 [0,1,2,3,4,5,6,7]⟩
  refine all_cons ?_ all_nil
  refine qt Z (i:=19) rfl rfl ?_
  refine gT Z b #[vQ 0,vW 0,vW 0] ?_
  clear Z b;intro a w9 P Z b
  refine ay (b.pt 8 [1,2,3,4,5,6,7]) (λI=>?_)
  refine Vb Z b I ((VI 12 (.f .n) (h:=by exact λb=>za t.v t.r (wt:Int) om _)) λQL L=>(VI 15 (.f .n) (h:=by exact λb=>DW (⟨t.v,t.r,wt⟩:En) e vw d hd0 Gu _)) λQD L=>(Vp [16]∘Vx 17∘Vx 18) λa Z b I=>?_)
  refine s_on Z 20 rfl (cZ Z b 0 rfl rfl rfl rfl rfl ql rfl rfl (lY e) λvC b=>?_)
  refine dM kr ?_
  refine ap Z (bO kr) [21] (bt 22 []) [] λa Z=>?_
  refine qd kr ?_
  replace Z:=Z.to [(9,vP P 0),(8,vP E (k*8)),(67,.bool false),(7,vI id),(33,.bool false),(24,.bool false),(18,.bool false),(6,vP M 0),(5,vI 0),(4,vI 0),(3,vP g3 0),(0,vP M 0)]
  exact ⟨P,Z.sub kr,b.pt 8 [0,1,2,3,4,5,6,7]⟩
 clear Z b;rintro a uJ ⟨P,Z,b⟩
 refine Jb Z b ((JP∘Jp 1∘eF ql O0∘JO (h:=by exact λb=>Ls t e xO b ht hlt uy.1)) λw97=>(oI∘Jj∘JQ∘JP∘Jp 1∘Jn∘Jf 1∘Jy (v:=vI ((t.put e).group)) (h:=by exact Pd rfl rfl kr (λ_ h=>h.qu qk (i:=6) rfl (k:=k) (off:=1) (x:=(t.put e)) ((xq ht)) rfl))∘Jo (vI gt) (by rw [←hgt];try rfl)∘Jp 1∘gG∘Jj∘JB) λa Z b=>?_)
 refine qg (λmS aS wS=>∃(g:Nat) (F:List Rw),(g<Q)∧(abk F=Q)∧(eu gs cp F)∧(DR c d g (⟨cp,cr,some ⟨B,0,none⟩,gc,gs,some ⟨q,0,none⟩,lc,cl.set c (v+d),some ⟨C,0,none⟩,uc,cu,some ⟨E,0,none⟩,tc,ts.set k (t.put e),some ⟨D,0,none⟩,sc,F⟩:aC).av=DR c d gt (⟨cp,cr,some ⟨B,0,none⟩,gc,gs,some ⟨q,0,none⟩,lc,cl.set c (v+d),some ⟨C,0,none⟩,uc,cu,some ⟨E,0,none⟩,tc,ts.set k (t.put e),some ⟨D,0,none⟩,sc,rs⟩:aC).av)∧mS=0+g∧Fr aS 158 [] [(11,vI g),(9,vP P 0),(8,vP E (k*8)),(67,.bool false),(7,vI id),(33,.bool false),(24,.bool false),(18,.bool false),(6,vP M 0),(5,vI 0),(4,vI 0),(3,vP g3 0),(0,vP M 0)]∧Mem W wS (.blk P e.cells 333:: .blk g3 o.cells 214::fM M cp cr (some ⟨B,0,none⟩) R gc (some ⟨q,0,none⟩) N lc (some ⟨C,0,none⟩) S uc (some ⟨E,0,none⟩) O tc (some ⟨D,0,none⟩) Q sc::fG (some ⟨B,0,none⟩) R gc gs::fI (some ⟨q,0,none⟩) N lc (cl.set c (v+d))::fI (some ⟨C,0,none⟩) S uc cu::fT (some ⟨E,0,none⟩) O tc (ts.set k (t.put e))::fS (some ⟨D,0,none⟩) Q sc F::(fR F++(T)))) (m:=0+gt) ⟨gt,rs,by omega,hls,hsp,rfl,rfl,Z.sub kr,b.pt 8 [0,1,2,3,4,5,6,7]⟩ ?_
 clear Z b;rintro mS a w_ ⟨g,F,hg,hl2,hsp2,nI,rfl,Z,b⟩
 refine Jb Z b ((JQ∘JP∘Jp 2∘aK∘Jj) (Ji (λGv=>?_) λGv=>?_))
 ·
  have hg0:0<g:=by omega
  obtain ⟨⟨yA,yc,yl⟩,hy⟩:∃y,F.getD g Rw.zero=y:=⟨_,rfl⟩
  have hys:=hsp2 g om;rw [hy] at hys
  have hyl:(abk yl:Int)=cp:=hys.1
  repeat (first|clear Z|clear b)
  intro a Z b
  obtain ⟨gy,rfl⟩:=b.jw 8 rfl om hy om
  obtain ⟨G,hyz⟩:∃z,yl[c]?=some z:=⟨_,abt om⟩
  have mP:=hys.2 G (abF hyz)
  have hyv:=mP.1.v;have p9:=mP.1.r;have rJ:=mP.1.floor
  have hpb:=uO V (g:=g) om g hg0 (abo _)
  unfold dS at hpb
  obtain ⟨p,hpp⟩:∃p:Nat,(gs.getD g Gr.zero).parent=(p:Int):=⟨(gs.getD g Gr.zero).parent.toNat,by omega⟩
  have hpg:p<g:=by omega
  obtain ⟨zw,Aa,QM,QN⟩:=DJ V (g:=g) om
  have Ab:(⟨G.v,G.r,zw⟩:En).Ok:=aaj mP.2 Aa mP.1.v
  obtain ⟨f,hfw⟩:∃e,(⟨G.v,G.r,zw⟩:En).add d=e:=⟨_,rfl⟩
  have hfo:f.Ok∧f.w=zw:=by rw [←hfw];exact aas Ab d
  have hfv:=hfo.1.2;have hfr:f.r<4294967296:=by have:=z8 hfo.1.1;omega
  refine Jb Z b ((JT∘aD∘JQ∘JB) λa Z b=>?_)
  refine wp_seq ?_
  refine Jb Z b ((Vs .n []) λQO=>(Vp [0,4]∘Vf 7 1∘Vn 1∘Vf 2 6∘Vc 3 O2∘Vy 5 (h:=by exact Yl.iH D g 1 rfl rfl rfl)∘Vy 6 (v:= .slice ((F.getD g Rw.zero).A) ((F.getD g Rw.zero).l.length) ((F.getD g Rw.zero).c)) (h:=by exact aae 7 g Rw.zero om rfl rfl rfl)∘Vo (vS gy (abk yl) yc) (by rw [hy])∘Vc 8 O1∘Vo (vI c) (by rw [X])∘Vy 9 (h:=by exact Yl.iH gy c 3 rfl rfl rfl)∘Vp [10]∘Vd∘aF) λa Z b=>?_)
  refine zb (λaS wS=>∃(K:Nat),Fr aS 158 [] [(13,vP K 0),(12,vP gy (c*3)),(103,.bool true),(11,vI g),(9,vP P 0),(8,vP E (k*8)),(67,.bool false),(7,vI id),(33,.bool false),(24,.bool false),(18,.bool false),(6,vP M 0),(5,vI 0),(4,vI 0),(3,vP g3 0),(0,vP M 0)]∧Mem W wS (.blk K f.cells 333:: .blk P e.cells 333:: .blk g3 o.cells 214::fM M cp cr (some ⟨B,0,none⟩) R gc (some ⟨q,0,none⟩) N lc (some ⟨C,0,none⟩) S uc (some ⟨E,0,none⟩) O tc (some ⟨D,0,none⟩) Q sc::fG (some ⟨B,0,none⟩) R gc gs::fI (some ⟨q,0,none⟩) N lc (cl.set c (v+d))::fI (some ⟨C,0,none⟩) S uc cu::fT (some ⟨E,0,none⟩) O tc (ts.set k (t.put e))::fS (some ⟨D,0,none⟩) Q sc F::(fR F++(T)))) ?_ ?_
  ·
   refine Jb Z b ((Vs .n [25]) λaks=>(Vp [0,4,8,13]∘Vf 18 6∘Vn 1∘Vf 2 0∘Vy 3 (v:=vQ G.v) (h:=by exact Pd rfl rfl kr (λ_ h=>h.tL 8 (j:=0) rfl om hy (hyz) rfl))∘Vn 5∘Vf 6 1∘Vy 7 (v:=vW G.r) (h:=by exact Pd rfl rfl kr (λ_ h=>h.tL 8 (j:=1) rfl om hy (hyz) rfl))∘Vn 9∘Vf 10 0∘Vf 11 2∘Vc 12 O2∘Vy 14 (h:=by exact Yl.iH B g 2 rfl rfl rfl)∘Vf 15 1∘Vy 16 (v:=vI ((gs.getD g Gr.zero).weight)) (h:=by exact Pd rfl rfl kr (λ_ h=>h.qu pY (i:=3) rfl (k:=g) (off:=1) (x:=(gs.getD g Gr.zero)) ((getD_at Gr.zero om)) rfl))∘Vo (vI zw) (by rw [Aa])∘Vc 19 O1∘Vo (vI d) (by rw [hod])) λa Z b I=>?_)
   refine zd [17,24] kr rfl ?_
   refine all_cons ?_ ?_
   ·refine qt Z (i:=17) rfl rfl ?_
    refine iV Z b [vQ G.v,vW G.r,vI zw] (.agg #[vQ G.v,vW G.r,vW zw]) rfl rfl (za G.v G.r (zw:Int) om _) λyI L b a Z=>?_
    refine ay (b.pt 8 [0,1,2,3,4,5,6,7]) (λI=>?_)
    refine zd [20,24] kr rfl ?_
    refine all_cons ?_ ?_
    ·refine qt Z (i:=20) rfl rfl ?_
     refine iV Z b [.agg #[vQ G.v,vW G.r,vW zw],vI d] (.tuple #[.agg f.cells,vI 0]) rfl rfl (DW (⟨G.v,G.r,zw⟩:En) f Ab d hd0 hfw _) λCa L b a Z=>?_
     refine ay (b.pt 8 [0,1,2,3,4,5,6,7]) (λI=>?_)
     refine Vb Z b I ((Vp [21]∘Vx 22∘Vx 23∘VA 24 .n #[vQ 0,vW 0,vW 0]) λuJ K=>λa Z b I=>?_)
     refine s_on Z 25 rfl (cZ Z b 0 rfl rfl rfl rfl rfl ql rfl rfl (lY f) λvD b=>?_)
     refine dM kr ?_
     refine ap Z (bO kr) [26] (bt 27 []) [] λa Z=>?_
     refine qd kr ?_
     exact ⟨K,Z.sub kr,b.pt 9 [0,1,2,3,4,5,6,7,8]⟩
    refine all_cons ?_ all_nil
    refine qt Z (i:=24) rfl rfl ?_
    refine gT Z b #[vQ 0,vW 0,vW 0] ?_
    clear Z b;intro a uJ K Z b
    refine ay (b.pt 9 [1,2,3,4,5,6,7,8]) (λI=>?_)
    refine Vb Z b I ((VI 20 (.f .n) (h:=by exact λb=>DW (⟨G.v,G.r,zw⟩:En) f Ab d hd0 hfw _)) λCa L=>(Vp [21]∘Vx 22∘Vx 23) λa Z b I=>?_)
    refine s_on Z 25 rfl (cZ Z b 0 rfl rfl rfl rfl rfl ql rfl rfl (lY f) λvD b=>?_)
    refine dM kr ?_
    refine ap Z (bO kr) [26] (bt 27 []) [] λa Z=>?_
    refine qd kr ?_
    exact ⟨K,Z.sub kr,b.pt 9 [0,1,2,3,4,5,6,7,8]⟩
   refine all_cons ?_ all_nil
   refine qt Z (i:=24) rfl rfl ?_
   refine gT Z b #[vQ 0,vW 0,vW 0] ?_
   clear Z b;intro a uJ K Z b
   refine ay (b.pt 9 [1,2,3,4,5,6,7,8]) (λI=>?_)
   refine Vb Z b I ((VI 17 (.f .n) (h:=by exact λb=>za G.v G.r (zw:Int) om _)) λyI L=>(VI 20 (.f .n) (h:=by exact λb=>DW (⟨G.v,G.r,zw⟩:En) f Ab d hd0 hfw _)) λCa L=>(Vp [21]∘Vx 22∘Vx 23) λa Z b I=>?_)
   refine s_on Z 25 rfl (cZ Z b 0 rfl rfl rfl rfl rfl ql rfl rfl (lY f) λvD b=>?_)
   refine dM kr ?_
   refine ap Z (bO kr) [26] (bt 27 []) [] λa Z=>?_
   refine qd kr ?_
   exact ⟨K,Z.sub kr,b.pt 9 [0,1,2,3,4,5,6,7,8]⟩
  clear Z b;rintro a QS ⟨K,Z,b⟩
  refine EF b [.blk K f.cells 333,.blk P e.cells 333,.blk g3 o.cells 214,fM M cp cr (some ⟨B,0,none⟩) R gc (some ⟨q,0,none⟩) N lc (some ⟨C,0,none⟩) S uc (some ⟨E,0,none⟩) O tc (some ⟨D,0,none⟩) Q sc,fG (some ⟨B,0,none⟩) R gc gs,fI (some ⟨q,0,none⟩) N lc (cl.set c (v+d)),fI (some ⟨C,0,none⟩) S uc cu,fT (some ⟨E,0,none⟩) O tc (ts.set k (t.put e))] [0,1,2,3,4,5,6,7] [11] λb I=>?_
  refine ap Z (λ_=>I) [0,1,2,4] (bf 12 [0,1,2,4]) [(151,vP K 1),(149,vP K 0),(148,vP gy (c*3)),(147,vP gy (c*3))] λa Z=>?_
  refine dR Z I 3 0 (v:=vQ f.v) λa Z=>?_
  refine dR Z I 5 0 (v:=vW f.r) λa Z=>?_
  refine nV Z I 6 λa Z=>?_
  refine ap Z (λ_=>I) [7] (bt 12 [8,9,10,11]) [(154,vP gy (c*3))] λa Z=>?_
  refine s_on Z 8 rfl ?_
  refine qc2 Z b 8 (c:=c) 0 ({G with v:=f.v}) rfl rfl rfl rfl kr rfl rfl om (hy) (hyz) rfl de rfl λGw b=>?_
  replace b:Mem W Gw (.blk K f.cells 333:: .blk P e.cells 333:: .blk g3 o.cells 214::fM M cp cr (some ⟨B,0,none⟩) R gc (some ⟨q,0,none⟩) N lc (some ⟨C,0,none⟩) S uc (some ⟨E,0,none⟩) O tc (some ⟨D,0,none⟩) Q sc::fG (some ⟨B,0,none⟩) R gc gs::fI (some ⟨q,0,none⟩) N lc (cl.set c (v+d))::fI (some ⟨C,0,none⟩) S uc cu::fT (some ⟨E,0,none⟩) O tc (ts.set k (t.put e))::fS (some ⟨D,0,none⟩) Q sc (aN F g c ({G with v:=f.v}))::(fR (aN F g c ({G with v:=f.v}))++(T))):=b
  refine ay (b.pk [0,1,2,3,4,5,6,7]) (λI=>?_)
  refine Bc Z (λ_=>I) 9 λa Z=>?_
  refine ap Z (λ_=>I) [10] (bt 12 [11]) [(156,vP gy (c*3+1))] λa Z=>?_
  refine s_on Z 11 rfl ?_
  refine qc2 Z b 8 (c:=c) 1 ({G with v:=f.v,r:=f.r}) rfl rfl rfl rfl kr rfl rfl (by first|omega|(rw [zi];omega)) (Lm om hy) (xq hyz) rfl de rfl λCb b=>?_
  replace b:Mem W Cb (.blk K f.cells 333:: .blk P e.cells 333:: .blk g3 o.cells 214::fM M cp cr (some ⟨B,0,none⟩) R gc (some ⟨q,0,none⟩) N lc (some ⟨C,0,none⟩) S uc (some ⟨E,0,none⟩) O tc (some ⟨D,0,none⟩) Q sc::fG (some ⟨B,0,none⟩) R gc gs::fI (some ⟨q,0,none⟩) N lc (cl.set c (v+d))::fI (some ⟨C,0,none⟩) S uc cu::fT (some ⟨E,0,none⟩) O tc (ts.set k (t.put e))::fS (some ⟨D,0,none⟩) Q sc (aN (aN F g c ({G with v:=f.v})) g c ({G with v:=f.v,r:=f.r}))::(fR (aN (aN F g c ({G with v:=f.v})) g c ({G with v:=f.v,r:=f.r}))++(T))):=b
  rw [Qe (by first|omega|(rw [zi];omega))] at b
  refine dM kr ?_
  refine qd kr ?_
  refine Jb Z b ((JG∘JR∘Jp 1∘Jn∘Jf 0∘Jg 2 O3∘Jp 1∘lU g 2∘Jf 0∘Jy (v:=vI ((gs.getD g Gr.zero).parent)) (h:=by exact Pd rfl rfl kr (λ_ h=>(by have:=h.qu pY (i:=4) rfl (k:=g) (off:=0) (x:=(gs.getD g Gr.zero)) ((getD_at Gr.zero om)) rfl;simpa using this)))∘Jo (vI p) (by rw [hpp])∘Jp 1∘aF∘Jq) λa Z b=>?_)
  exact ⟨_,om,p,(aN F g c {G with v:=f.v,r:=f.r}),by omega,by rw [zi];exact hl2,hsp2.put {G with v:=f.v,r:=f.r} ⟨hfv,hfr,mP.1.floor⟩ (by rw [Aa];have:=hfo.1.1;rw [hfo.2] at this;exact this),by rw [←nI,qrb (c:=c) (d:=d) (g:=g) (p:=p) (uO V om) hg0 hpp,qt4 (x:=(⟨cp,cr,some ⟨B,0,none⟩,gc,gs,some ⟨q,0,none⟩,lc,(cl.set c (v+d)),some ⟨C,0,none⟩,uc,cu,some ⟨E,0,none⟩,tc,(ts.set k (t.put e)),some ⟨D,0,none⟩,sc,F⟩:aC)) (by show g<abk F;omega) hy hyz Aa hfw],rfl,Z.sub kr,b.pt 9 [1,2,3,4,5,6,7,8]⟩
 exact (JF∘JX∘JG∘JP∘Jp 3∘Jj∘JZ∘bH) λb=>by exact qq (y:=(⟨cp,cr,some ⟨B,0,none⟩,gc,gs,some ⟨q,0,none⟩,lc,(cl.set c (v+d)),some ⟨C,0,none⟩,uc,cu,some ⟨E,0,none⟩,tc,(ts.set k (t.put e)),some ⟨D,0,none⟩,sc,F⟩:aC)) 2 b rfl ⟨H.g,by show abk (cl.set _ _)=N;rw [abG];exact hll,H.u,by show abk (ts.set _ _)=O;rw [abG];exact hlt,hl2⟩ ((q9v (x:=(⟨cp,cr,some ⟨B,0,none⟩,gc,gs,some ⟨q,0,none⟩,lc,cl,some ⟨C,0,none⟩,uc,cu,some ⟨E,0,none⟩,tc,ts,some ⟨D,0,none⟩,sc,rs⟩:aC)) (decide_eq_true J) htk X hod hv om hid Gq hk ht hgt hwt Gu).trans (by rw [←show DR c d g (⟨cp,cr,some ⟨B,0,none⟩,gc,gs,some ⟨q,0,none⟩,lc,cl.set c (v+d),some ⟨C,0,none⟩,uc,cu,some ⟨E,0,none⟩,tc,ts.set k (t.put e),some ⟨D,0,none⟩,sc,F⟩:aC).av=_ from nI,show g=0 by omega];rfl))
def QT (x e:En) (a:x.Ok) (fr to:Nat) (b:fr<18446744073709551616) (ht:to<18446744073709551616) (c:x.moved fr to=e) (w:World):Calls abl 269 #[.agg x.cells,vQ fr,vQ to] w (Is w (.tuple #[.agg e.cells,vI 0])):=c▸q4g x a fr to b ht w
def vE (w:World) (l:List Int) (v:Int) (r:Ending) (a:World):Prop:=(∃i:Int,r= .returned (vI i)∧decide (i≥0)=decide (v∈l))∧Below w.heap.size w a
def qz0 {l:List Int} {v:Int} (hk:k<abk l) (h:l.getD k 0=v) (hb:Below w.heap.size w W):vE w l v (.returned (vI k)) W:=⟨⟨k,rfl,decide_eq_decide.2 ⟨λ_=>h▸qe 0 hk,λ_=>by omega⟩⟩,hb⟩
def qz1 {l:List Int} {v:Int} (h:∀i,i<abk l→l.getD i 0≠v) (hb:Below w.heap.size w W):vE w l v (.returned (vI (-1))) W:=by
 refine ⟨⟨-1,rfl,decide_eq_decide.2 ⟨λh1=>by omega,λh1=>?_⟩⟩,hb⟩
 obtain ⟨i,hi,rfl⟩:=acz h1
 exact absurd (by rw [abn,abt hi];rfl) (h i hi)
theorem zf0 {l:List Int} {v:Int} (h:∀i,i<k→l.getD i 0≠v) (hk:l.getD k 0≠v):∀i,i<k+1→l.getD i 0≠v:=λi hi=>by
 rcases acj i k with h1|h1
 ·exact h i h1
 ·obtain rfl:i=k:=by omega
  exact hk
theorem Zw {s:Nat} {v:Int} (hs:s=m) (hc:v=(c:Int)) (h:¬(m/2^c)%2=1):jd s v=false:=by
 subst hs;subst hc
 unfold jd
 rw [abD,decide_eq_false h]
theorem qua {v:Int} (hc:v=(c:Int)) (h:(m/2^c)%2=1):jd m v=true:=by
 subst hc
 unfold jd
 rw [abD,decide_eq_true h]
def qos (W w:World) (x:aC) (H:Nat) (B D E F C:Nat) (Y:dB x B D E F C) (o:bC) (ho:o.Ok) (T:List Fact) (b:Mem W w (jq H x B D E F C++T)):
    Calls abl 154 #[vP H 0,.agg o.cells] w (j5 W H T (yh x.av o)):=by
 obtain ⟨cp,cr,gA,gc,gs,lA,lc,cl,uA,uc,cu,tA,tc,ts,sA,sc,rs⟩:=x
 replace b:Mem W w (fM H cp cr gA B gc lA D lc uA E uc tA F tc sA C sc::fG gA B gc gs::fI lA D lc cl::fI uA E uc cu::fT tA F tc ts::fS sA C sc rs::(fR rs++(T))):=b
 obtain ⟨mg,hll,nD,hlt,hls⟩:=Y.ln
 replace mg:abk gs=B:=mg;replace hll:abk cl=D:=hll;replace nD:abk cu=E:=nD;replace hlt:abk ts=F:=hlt;replace hls:abk rs=C:=hls
 have G:=Y.ln
 have hsp:eu gs cp rs:=Y.spots
 have hrg:abk rs=abk gs:=Y.sh.rs
 have hcr:cr<18446744073709551616:=Y.ok.aj
 obtain ⟨hcp1,hcp2,_,M⟩:=lW Y.sh.cfg
 replace hcp1:1≤cp:=hcp1;replace hcp2:cp≤64:=hcp2;replace M:bV gs=true:=M
 have nE:=(qp M).1;have nG:=(qp M).2.1
 have pF:(abk cl:Int)=cp:=Y.sh.cl;have oh:(abk cu:Int)=cp:=Y.sh.cu
 have nH:abk ts≤1000000:=Y.few.t
 have hoc:=ho.cpu;have hot:=ho.task;have hog:=ho.group;have how:=ho.weight;have oo:=ho.to;have oq:=ho.ticks;have yF:=ho.mask;have pG:=ho.kind;unfold aQ at hoc hot hog how oo oq
 obtain ⟨e,rfl⟩:=zl (b.own (i:=1) rfl) om
 obtain ⟨p,rfl⟩:=zl (b.own (i:=5) rfl) om
 refine (lX b Tryz.func154 102) ?_
 refine (JP∘JE) λw3 U=>(Jp 2∘Jr∘Jp 1∘Jn∘Jf 0∘Jp 1∘dU∘Jj∘JQ∘JB) λa Z b=>?_
 refine zb (λaS wS=>Fr aS 102 [] [(14,.bool (!(decide (1≤o.group∧o.group<abk rs)))),(6,vP H 0),(5,vI 0),(4,vI 0),(3,vP U 0)]∧Mem W wS (.blk U o.cells 214::fM H cp cr (some ⟨e,0,none⟩) B gc lA D lc uA E uc tA F tc (some ⟨p,0,none⟩) C sc::fG (some ⟨e,0,none⟩) B gc gs::fI lA D lc cl::fI uA E uc cu::fT tA F tc ts::fS (some ⟨p,0,none⟩) C sc rs::(fR rs++(T)))) ?_ ?_
 ·
  refine Jb Z b ((Vs .n []) λwd2=>(Vf 0 3∘Vc 1 O0∘Vp [2,3]) λa Z b s=>?_)
  rcases Z.tf 18 rfl with ⟨N,Z⟩|⟨N,Z⟩
  ·
   have QU:=of_decide_eq_true N
   refine Vb Z b s ((Vq [4,5,6,7,8,9,10,11,12,13] [(14,.bool true)]∘Vd∘lT) λa Z b=>?_)
   have Z:=Z.sp 14 (.bool (!(decide (1≤o.group∧o.group<abk rs)))) rfl (congrArg abS (by rw [decide_eq_false om];rfl))
   exact ⟨Z.sub kr,b.pt 7 [0,1,2,3,4,5,6]⟩
  have QU:=of_decide_eq_false N
  refine ap Z (λ_=>s) [4,6] (bf 14 [0,1,2,3,4,6]) [(21,vP H 0),(19,vP U 3)] λa Z=>?_
  refine dR Z s 5 0 (v:=vI o.group) λa Z=>?_
  refine nV Z s 7 λa Z=>?_
  refine ap Z (λ_=>s) [8] (bt 14 [9,10,11,12,13]) [(23,vP H 6)] λa Z=>?_
  refine dR Z s 9 1 λa Z=>?_
  refine xM Z s 10 λa Z=>?_
  refine ap Z (λ_=>s) [11,12,13] (bt 14 []) [(14,.bool (decide ((o.group:Int)≥(C:Int))))] λa Z=>?_
  refine qd kr ?_
  have Z:=Z.sp 14 (.bool (!(decide (1≤o.group∧o.group<abk rs)))) rfl (congrArg abS (by rw [←decide_not];exact decide_eq_decide.2 om))
  exact ⟨Z.sub kr,b.pt 7 [0,1,2,3,4,5,6]⟩
 clear Z b;rintro a w2 ⟨Z,b⟩
 refine Jb Z b (oJ (λyE=>?_) λyE=>?_)
 ·
  exact (JT∘JP∘Jp 2∘Jj∘JZ∘bH) λb=>by exact qq (y:=(⟨cp,cr,some ⟨e,0,none⟩,gc,gs,lA,lc,cl,uA,uc,cu,tA,tc,ts,some ⟨p,0,none⟩,sc,rs⟩:aC)) 1 b rfl G (if_pos (by show ¬(1≤o.group∧o.group<(abk (rs.map Rw.l):Nat));rw [abv];exact yE))
 refine (JF∘JP∘Jg 4 O0∘JL (h:=by exact λb=>Lb o.weight _)) ?_
 rintro b _ KT ⟨rfl,L⟩
 refine ⟨_,rfl,_,b.call L,?_⟩
 refine (Jp 2∘dU∘Jj) (oJ (λO=>?_) λO=>?_)
 ·
  exact (JT∘JP∘Jp 2∘Jj∘JZ∘bH) λb=>by exact qq (y:=(⟨cp,cr,some ⟨e,0,none⟩,gc,gs,lA,lc,cl,uA,uc,cu,tA,tc,ts,some ⟨p,0,none⟩,sc,rs⟩:aC)) 1 b rfl G ((if_neg (by show ¬¬(1≤o.group∧o.group<(abk (rs.map Rw.l):Nat));rw [abv];omega)).trans (if_pos (decide_eq_false O)))
 have hgb:1≤o.group∧o.group<abk rs:=by omega
 obtain ⟨z,xA⟩:∃n:Nat,o.weight=(n:Int):=⟨o.weight.toNat,by omega⟩
 have hz:1≤z∧z≤65536:=by omega
 obtain ⟨g,P⟩:∃n:Nat,o.group=(n:Int):=⟨o.group.toNat,by omega⟩
 obtain ⟨⟨yA,yc,yl⟩,hy⟩:∃y,rs.getD g Rw.zero=y:=⟨_,rfl⟩
 have hys:=hsp g om;rw [hy] at hys
 have hyl:(abk yl:Int)=cp:=hys.1
 obtain ⟨gr,hgr⟩:∃z,gs[g]?=some z:=⟨_,abt om⟩
 obtain ⟨V,Aa,QM,QN⟩:=DJ M (g:=g) om
 have Q:=tN Gr.zero hgr
 rw [Q] at Aa
 repeat (first|clear Z|clear b)
 intro a Z b
 obtain ⟨X,rfl⟩:=b.jw 7 rfl om hy om
 refine Jb Z b ((JF∘aD∘JQ) λa Z b=>?_)
 refine wp_seq ?_
 refine Jb Z b ((Vs .n []) λLV=>(Vp [0]∘Vf 4 3∘Vp [9]∘Vn 1∘Vf 2 6∘Vc 3 O1∘Vc 5 O0∘Vo (vI g) (by rw [P])∘Vy 6 (h:=by exact Yl.iH p g 1 rfl rfl rfl)∘Vy 7 (v:= .slice ((rs.getD g Rw.zero).A) ((rs.getD g Rw.zero).l.length) ((rs.getD g Rw.zero).c)) (h:=by exact aae 6 g Rw.zero om rfl rfl rfl)∘Vo (vS X (abk yl) yc) (by rw [hy])∘Vl 8∘Vd∘aF∘JB) λa Z b=>?_)
 refine qg (λmS aS wS=>∃(c:Nat) (q:List Rw),(c≤abk yl)∧(abk q=C)∧(q=(rs.set g ⟨some ⟨X,0,none⟩,yc,upd r0 yl c⟩))∧mS=abk yl-c∧Fr aS 102 [] [(41,vI (abk yl)),(42,vI c),(28,.bool false),(14,.bool false),(6,vP H 0),(5,vI 0),(4,vI 0),(3,vP U 0)]∧Mem W wS (.blk U o.cells 214::fM H cp cr (some ⟨e,0,none⟩) B gc lA D lc uA E uc tA F tc (some ⟨p,0,none⟩) C sc::fG (some ⟨e,0,none⟩) B gc gs::fI lA D lc cl::fI uA E uc cu::fT tA F tc ts::fS (some ⟨p,0,none⟩) C sc q::(fR q++(T)))) (m:=abk yl-0) ⟨0,rs,abx _,hls,by rw [q9w,←hy];exact (YD _ om).symm,rfl,Z.sub kr,b.pt 7 [0,1,2,3,4,5,6]⟩ ?_
 clear Z b;rintro mS a w_ ⟨c,q,hc,hl2,hr2,rfl,Z,b⟩
 refine Jb Z b ((JP∘Jp 1∘Jj∘JQ) (Ji (λQV=>?_) λQV=>?_))
 ·
  have akw:c<abk yl:=by omega
  obtain ⟨d,hyz⟩:∃z,yl[c]?=some z:=⟨_,abt om⟩
  have I:=(zfu r0 (abo c)).trans hyz
  have R:=hys.2 d (abF hyz)
  rw [Q] at R
  have hyv:=R.1.v;have p9:=R.1.r
  have Ab:(⟨d.v,d.r,V⟩:En).Ok:=aaj R.2 Aa R.1.v
  have S:q.getD g Rw.zero=⟨some ⟨X,0,none⟩,yc,upd r0 yl c⟩:=by rw [hr2];exact q7 _ _ om
  refine (JT∘aD∘JQ∘JB∘JP∘Jp 2∘aK∘Jj) λa Z b=>?_
  refine wp_seq ?_
  refine Jb Z b ((Vs .n []) λOW=>(Vp [0]∘Vf 4 3∘Vp [8]∘Vn 1∘Vf 2 6∘Vc 3 O1∘Vc 5 O0∘Vo (vI g) (by rw [P])∘Vy 6 (h:=by exact Yl.iH p g 1 rfl rfl rfl)∘Vy 7 (v:= .slice ((q.getD g Rw.zero).A) ((q.getD g Rw.zero).l.length) ((q.getD g Rw.zero).c)) (h:=by exact aae 6 g Rw.zero om rfl rfl rfl)∘Vo (vS X (abk yl) yc) (by rw [S];show aed _ (abk (upd r0 yl c)) _=_;rw [zfs])∘Vy 9 (h:=by exact Yl.iH X c 3 rfl rfl rfl)∘Vp [10]∘Vd∘aF) λa Z b=>?_)
  refine zb (λaS wS=>∃(J:Nat),Fr aS 102 [] [(9,vP J 0),(8,vP X (c*3)),(7,vI c),(43,.bool true),(41,vI (abk yl)),(42,vI c),(28,.bool false),(14,.bool false),(6,vP H 0),(5,vI 0),(4,vI 0),(3,vP U 0)]∧Mem W wS (.blk J ((⟨d.v,0,z⟩:En).cells) 333:: .blk U o.cells 214::fM H cp cr (some ⟨e,0,none⟩) B gc lA D lc uA E uc tA F tc (some ⟨p,0,none⟩) C sc::fG (some ⟨e,0,none⟩) B gc gs::fI lA D lc cl::fI uA E uc cu::fT tA F tc ts::fS (some ⟨p,0,none⟩) C sc q::(fR q++(T)))) ?_ ?_
  ·
   refine Jb Z b ((Vs .n [26]) λqO=>(Vp [0,4,8]∘Vf 13 3∘Vf 19 4∘Vn 1∘Vf 2 0∘Vy 3 (v:=vQ d.v) (h:=by exact Pd rfl rfl kr (λ_ h=>h.tL 7 (j:=0) rfl om S (I) rfl))∘Vn 5∘Vf 6 1∘Vy 7 (v:=vW d.r) (h:=by exact Pd rfl rfl kr (λ_ h=>h.tL 7 (j:=1) rfl om S (I) rfl))∘Vn 9∘Vf 10 0∘Vf 11 2∘Vc 12 O1∘Vc 14 O0∘Vo (vI g) (by rw [P])∘Vy 15 (h:=by exact Yl.iH e g 2 rfl rfl rfl)∘Vf 16 1∘Vy 17 (v:=vI gr.weight) (h:=by exact Pd rfl rfl kr (λ_ h=>h.qu pY (i:=2) rfl (k:=g) (off:=1) (x:=gr) (hgr) rfl))∘Vo (vI V) (by rw [Aa])∘Vc 20 O0∘Vo (vI z) (by rw [xA])) λa Z b s=>?_)
   refine zd [18,25] kr rfl ?_
   refine all_cons ?_ ?_
   ·refine qt Z (i:=18) rfl rfl ?_
    refine iV Z b [vQ d.v,vW d.r,vI V] (.agg #[vQ d.v,vW d.r,vW V]) rfl rfl (za d.v d.r (V:Int) om _) λZv L b a Z=>?_
    refine ay (b.pt 7 [0,1,2,3,4,5,6]) (λs=>?_)
    refine zd [21,25] kr rfl ?_
    refine all_cons ?_ ?_
    ·refine qt Z (i:=21) rfl rfl ?_
     refine iV Z b [.agg #[vQ d.v,vW d.r,vW V],vI z] (.tuple #[.agg ((⟨d.v,0,z⟩:En).cells),vI 0]) rfl rfl (DK (⟨d.v,d.r,V⟩:En) Ab z hz _) λQW L b a Z=>?_
     refine ay (b.pt 7 [0,1,2,3,4,5,6]) (λs=>?_)
     refine Vb Z b s ((Vp [22]∘Vx 23∘Vx 24∘VA 25 .n #[vQ 0,vW 0,vW 0]) λw9 J=>λa Z b s=>?_)
     refine s_on Z 26 rfl (cZ Z b 0 rfl rfl rfl rfl rfl ql rfl rfl (lY (⟨d.v,0,z⟩:En)) λK b=>?_)
     refine dM kr ?_
     refine ap Z (bO kr) [27] (bt 28 []) [] λa Z=>?_
     refine qd kr ?_
     exact ⟨J,Z.sub kr,b.pt 8 [0,1,2,3,4,5,6,7]⟩
    refine all_cons ?_ all_nil
    refine qt Z (i:=25) rfl rfl ?_
    refine gT Z b #[vQ 0,vW 0,vW 0] ?_
    clear Z b;intro a w9 J Z b
    refine ay (b.pt 8 [1,2,3,4,5,6,7]) (λs=>?_)
    refine Vb Z b s ((VI 21 (.f .n) (h:=by exact λb=>DK (⟨d.v,d.r,V⟩:En) Ab z hz _)) λQW L=>(Vp [22]∘Vx 23∘Vx 24) λa Z b s=>?_)
    refine s_on Z 26 rfl (cZ Z b 0 rfl rfl rfl rfl rfl ql rfl rfl (lY (⟨d.v,0,z⟩:En)) λK b=>?_)
    refine dM kr ?_
    refine ap Z (bO kr) [27] (bt 28 []) [] λa Z=>?_
    refine qd kr ?_
    exact ⟨J,Z.sub kr,b.pt 8 [0,1,2,3,4,5,6,7]⟩
   refine all_cons ?_ all_nil
   refine qt Z (i:=25) rfl rfl ?_
   refine gT Z b #[vQ 0,vW 0,vW 0] ?_
   clear Z b;intro a w9 J Z b
   refine ay (b.pt 8 [1,2,3,4,5,6,7]) (λs=>?_)
   refine Vb Z b s ((VI 18 (.f .n) (h:=by exact λb=>za d.v d.r (V:Int) om _)) λZv L=>(VI 21 (.f .n) (h:=by exact λb=>DK (⟨d.v,d.r,V⟩:En) Ab z hz _)) λQW L=>(Vp [22]∘Vx 23∘Vx 24) λa Z b s=>?_)
   refine s_on Z 26 rfl (cZ Z b 0 rfl rfl rfl rfl rfl ql rfl rfl (lY (⟨d.v,0,z⟩:En)) λK b=>?_)
   refine dM kr ?_
   refine ap Z (bO kr) [27] (bt 28 []) [] λa Z=>?_
   refine qd kr ?_
   exact ⟨J,Z.sub kr,b.pt 8 [0,1,2,3,4,5,6,7]⟩
  clear Z b;rintro a uz ⟨J,Z,b⟩
  refine EF b [.blk J ((⟨d.v,0,z⟩:En).cells) 333,.blk U o.cells 214,fM H cp cr (some ⟨e,0,none⟩) B gc lA D lc uA E uc tA F tc (some ⟨p,0,none⟩) C sc,fG (some ⟨e,0,none⟩) B gc gs,fI lA D lc cl,fI uA E uc cu,fT tA F tc ts] [0,1,2,3,4,5,6] [11] λb s=>?_
  refine ap Z (λ_=>s) [0,1,2,4] (bf 12 [0,1,2,4]) [(84,vP J 1),(82,vP J 0),(81,vP X (c*3)),(80,vP X (c*3))] λa Z=>?_
  refine dR Z s 3 0 (v:=vQ ((⟨d.v,0,z⟩:En).v)) λa Z=>?_
  refine dR Z s 5 0 (v:=vW ((⟨d.v,0,z⟩:En).r)) λa Z=>?_
  refine nV Z s 6 λa Z=>?_
  refine ap Z (λ_=>s) [7] (bt 12 [8,9,10,11]) [(87,vP X (c*3))] λa Z=>?_
  refine s_on Z 8 rfl ?_
  refine qc2 Z b 7 (c:=c) 0 ({d with v:=d.v}) rfl rfl rfl rfl kr rfl rfl om (S) (I) rfl de rfl λGx b=>?_
  replace b:Mem W Gx (.blk J ((⟨d.v,0,z⟩:En).cells) 333:: .blk U o.cells 214::fM H cp cr (some ⟨e,0,none⟩) B gc lA D lc uA E uc tA F tc (some ⟨p,0,none⟩) C sc::fG (some ⟨e,0,none⟩) B gc gs::fI lA D lc cl::fI uA E uc cu::fT tA F tc ts::fS (some ⟨p,0,none⟩) C sc (aN q g c ({d with v:=d.v}))::(fR (aN q g c ({d with v:=d.v}))++(T))):=b
  refine ay (b.pk [0,1,2,3,4,5,6]) (λs=>?_)
  refine Bc Z (λ_=>s) 9 λa Z=>?_
  refine ap Z (λ_=>s) [10] (bt 12 [11]) [(89,vP X (c*3+1))] λa Z=>?_
  refine s_on Z 11 rfl ?_
  refine qc2 Z b 7 (c:=c) 1 (r0 d) rfl rfl rfl rfl kr rfl rfl (by first|omega|(rw [zi];omega)) (Lm om S) (xq I) rfl de rfl λCc b=>?_
  replace b:Mem W Cc (.blk J ((⟨d.v,0,z⟩:En).cells) 333:: .blk U o.cells 214::fM H cp cr (some ⟨e,0,none⟩) B gc lA D lc uA E uc tA F tc (some ⟨p,0,none⟩) C sc::fG (some ⟨e,0,none⟩) B gc gs::fI lA D lc cl::fI uA E uc cu::fT tA F tc ts::fS (some ⟨p,0,none⟩) C sc (aN (aN q g c ({d with v:=d.v})) g c (r0 d))::(fR (aN (aN q g c ({d with v:=d.v})) g c (r0 d))++(T))):=b
  rw [Qe (by first|omega|(rw [zi];omega))] at b
  refine dM kr ?_
  refine qd kr ?_
  refine Jb Z b ((JG∘JR∘cK 1∘Jp 1∘aF∘Jq) λa Z b=>?_)
  exact ⟨_,om,c+1,(aN q g c (r0 d)),by omega,by rw [zi];exact hl2,q4l om hyz hr2,rfl,Z.sub kr,b.pt 8 [1,2,3,4,5,6,7]⟩
 refine (JF∘JX) λa Z b=>?_
 refine wp_seq ?_
 refine Jb Z b ((Vs .n [11]) λFU=>(Vp [0]∘Vf 5 3∘Vf 7 4∘Vn 1∘Vf 2 0∘Vf 3 2∘Vc 4 O1∘Vc 6 O0∘Vo (vI g) (by rw [P])∘Vc 8 O0∘Vo (vI z) (by rw [xA])∘Vu 9 (h:=by exact λ_=>Yl.iH e g 2 rfl rfl rfl)∘Vf 10 1) λa Z b s=>?_)
 refine s_on Z 11 rfl ?_
 refine qw Z b (i:=2) rfl rfl rfl rfl kr rfl rfl (by rw [zk eZ 2 pY];omega) λQX b=>?_
 replace b:=b.bM (i:=2) (ys:=(gs.set g {gr with weight:=(z:Int)}).flatMap eZ) rfl (ze eZ 2 pY gs g gr {gr with weight:=(z:Int)} hgr 1 de _ rfl)
 refine dM kr ?_
 refine qd kr ?_
 exact Jb Z b ((JP∘Jp 2∘Jj∘JZ∘bH) λb=>by exact qq (y:=(⟨cp,cr,some ⟨e,0,none⟩,gc,(gs.set g {gr with weight:=(z:Int)}),lA,lc,cl,uA,uc,cu,tA,tc,ts,some ⟨p,0,none⟩,sc,q⟩:aC)) 1 b rfl ⟨by show abk (gs.set _ _)=B;rw [abG];exact mg,G.l,G.u,G.t,hl2⟩ ((qt5 (x:=(⟨cp,cr,some ⟨e,0,none⟩,gc,gs,lA,lc,cl,uA,uc,cu,tA,tc,ts,some ⟨p,0,none⟩,sc,rs⟩:aC)) P hgb (decide_eq_true O) hy Q).trans (by rw [xA];exact congrArg (λr=>(aC.av (⟨cp,cr,some ⟨e,0,none⟩,gc,(gs.set g {gr with weight:=(z:Int)}),lA,lc,cl,uA,uc,cu,tA,tc,ts,some ⟨p,0,none⟩,sc,r⟩:aC),(0:Int),0)) (show _=q by rw [hr2,zft r0 yl om]))))
def qz2 (W w:World) (x:aC) (U k to:Nat) (t:Tk) (I J K L q:Nat) (m:dB x I J K L q) (ht:x.ts[k]?=some t) (R:(to:Int)<x.ak) (T:List Fact) (b:Mem W w (jq U x I J K L q++T)):
    Calls abl 214 #[vP U 0,vI k,vI to] w (Gi W U T (je x.av k (to:Int))):=by
 obtain ⟨cp,cr,gA,gc,gs,lA,lc,cl,uA,uc,cu,tA,tc,ts,sA,sc,rs⟩:=x
 replace b:Mem W w (fM U cp cr gA I gc lA J lc uA K uc tA L tc sA q sc::fG gA I gc gs::fI lA J lc cl::fI uA K uc cu::fT tA L tc ts::fS sA q sc rs::(fR rs++(T))):=b
 obtain ⟨mg,hll,nD,o,hls⟩:=m.ln
 replace mg:abk gs=I:=mg;replace hll:abk cl=J:=hll;replace nD:abk cu=K:=nD;replace o:abk ts=L:=o;replace hls:abk rs=q:=hls
 have s:=m.ln
 have hsp:eu gs cp rs:=m.spots
 have hrg:abk rs=abk gs:=m.sh.rs
 have hcr:cr<18446744073709551616:=m.ok.aj
 obtain ⟨S,u,_,B⟩:=lW m.sh.cfg
 replace S:1≤cp:=S;replace u:cp≤64:=u;replace B:bV gs=true:=B
 have nE:=(qp B).1;have nG:=(qp B).2.1
 have pF:(abk cl:Int)=cp:=m.sh.cl;have oh:(abk cu:Int)=cp:=m.sh.cu
 have nH:abk ts≤1000000:=m.few.t
 replace ht:ts[k]?=some t:=ht;replace R:(to:Int)<cp:=R
 have hkl:=(aby.1 ht).1
 obtain ⟨C,V⟩:=m.task ht
 have hti:=C.id;have vv:=C.group;have htc:=C.cpu;have Gn:=C.weight;have yH:=V.v;have htr:=V.r;have Gp:=V.mask
 replace htc:0≤t.cpu∧t.cpu<cp:=htc
 obtain ⟨gt,X⟩:∃n:Nat,t.group=(n:Int):=⟨t.group.toNat,by omega⟩
 obtain ⟨ct,hct⟩:∃n:Nat,t.cpu=(n:Int):=⟨t.cpu.toNat,by omega⟩
 obtain ⟨p,Y⟩:∃n:Nat,t.weight=(n:Int):=⟨t.weight.toNat,by omega⟩
 have M:(⟨t.v,t.r,p⟩:En).Ok:=aaj C.ent Y yH
 obtain ⟨d,rfl⟩:=zl (b.own (i:=5) rfl) om
 obtain ⟨g,rfl⟩:=zl (b.own (i:=4) rfl) om
 obtain ⟨em,N⟩:∃l,kL (⟨cp,cr,gA,gc,gs,lA,lc,cl,uA,uc,cu,some ⟨g,0,none⟩,tc,ts,some ⟨d,0,none⟩,sc,rs⟩:aC).av gt to=l:=⟨_,rfl⟩
 have sO:=λh hh=>QB (x:=(⟨cp,cr,gA,gc,gs,lA,lc,cl,uA,uc,cu,some ⟨g,0,none⟩,tc,ts,some ⟨d,0,none⟩,sc,rs⟩:aC)) m (by omega:gt<q) N h hh
 have sP:=QC (x:=(⟨cp,cr,gA,gc,gs,lA,lc,cl,uA,uc,cu,some ⟨g,0,none⟩,tc,ts,some ⟨d,0,none⟩,sc,rs⟩:aC)) m (by omega:gt<q) N
 obtain ⟨⟨yA,yc,yl⟩,hy⟩:∃y,rs.getD gt Rw.zero=y:=⟨_,rfl⟩
 have O:=hsp gt om;rw [hy] at O
 have hyl:(abk yl:Int)=cp:=O.1
 obtain ⟨gy,rfl⟩:=b.jw 6 rfl om hy om
 obtain ⟨yz,hyz⟩:∃z,yl[ct]?=some z:=⟨_,abt om⟩
 have mP:=O.2 yz (abF hyz)
 have hyv:=mP.1.v;have p9:=mP.1.r;have rJ:=mP.1.floor
 obtain ⟨z2,hz2⟩:∃z,yl[to]?=some z:=⟨_,abt om⟩
 have P:=(O.2 z2 (abF hz2)).1.floor
 obtain ⟨e,D⟩:∃e,(⟨t.v,t.r,p⟩:En).moved yz.floor z2.floor=e:=⟨_,rfl⟩
 have uy:e.Ok∧e.w=p:=by rw [←D];exact aaO M _ _ P
 have hev:=uy.1.2;have her:=z8 uy.1.1
 have hmo:=q9x (x:=(⟨cp,cr,gA,gc,gs,lA,lc,cl,uA,uc,cu,some ⟨g,0,none⟩,tc,ts,some ⟨d,0,none⟩,sc,rs⟩:aC)) (to:=to) ht X hct Y (xk (x:=(⟨cp,cr,gA,gc,gs,lA,lc,cl,uA,uc,cu,some ⟨g,0,none⟩,tc,ts,some ⟨d,0,none⟩,sc,rs⟩:aC)) (by show gt<abk rs;omega) hy hyz) (xk (x:=(⟨cp,cr,gA,gc,gs,lA,lc,cl,uA,uc,cu,some ⟨g,0,none⟩,tc,ts,some ⟨d,0,none⟩,sc,rs⟩:aC)) (by show gt<abk rs;omega) hy hz2) D N
 refine (yw b Tryz.func214 81) ?_
 refine (JP∘Jp 1∘Jn∘Jf 0∘Jg 5 O0∘Jp 1∘lU k 8∘Jp 1∘aF∘Jr∘Jp 2∘Jn∘Jf 1∘Jy (v:=vI t.group) (h:=by exact Pd rfl rfl kr (λ_ h=>h.qu qk (i:=4) rfl (k:=k) (off:=1) (x:=t) (ht) rfl))∘Jo (vI gt) (by rw [X])∘Jp 1∘JK (h:=by exact λb=>QA 0 b rfl m (by show ((to:Nat):Int)<cp;omega) om N)) λQY c24 w24 hc24=>(Jp 1∘aF∘Jj) λa Z b=>?_
 refine wp_seq ?_
 refine Jb Z b ((Vs .n []) λwd2=>(Vp [0,5]∘Vn 1∘Vf 2 0∘Vf 3 6∘Vc 4 O1∘Vn 6∘Vf 7 1∘Vy 8 (v:=vI t.group) (h:=by exact Pd rfl rfl kr (λ_ h=>h.qu qk (i:=5) rfl (k:=k) (off:=1) (x:=t) (ht) rfl))∘Vo (vI gt) (by rw [X])∘Vy 9 (h:=by exact Yl.iH d gt 1 rfl rfl rfl)∘Vy 10 (v:= .slice ((rs.getD gt Rw.zero).A) ((rs.getD gt Rw.zero).l.length) ((rs.getD gt Rw.zero).c)) (h:=by exact aae 6 gt Rw.zero om rfl rfl rfl)∘Vo (vS gy (abk yl) yc) (by rw [hy])∘Vp [11]∘Vd∘aF) λa Z b=>?_)
 refine zb (λaS wS=>∃(G:Nat),Fr aS 81 [] [(9,vP G 0),(7,abg QY em c24),(6,vP g (k*8)),(0,vP U 0),(2,vI to)]∧Mem W wS (.blk G e.cells 333:: abh QY em c24 dG 3 1::fM U cp cr gA I gc lA J lc uA K uc (some ⟨g,0,none⟩) L tc (some ⟨d,0,none⟩) q sc::fG gA I gc gs::fI lA J lc cl::fI uA K uc cu::fT (some ⟨g,0,none⟩) L tc ts::fS (some ⟨d,0,none⟩) q sc rs::(fR rs++(T)))) ?_ ?_
 ·
  refine Jb Z b ((Vs .n [31]) λwd3=>(Vp [0,4,8,13,14,21,22]∘Vn 1∘Vf 2 6∘Vy 3 (v:=vQ t.v) (h:=by exact Pd rfl rfl kr (λ_ h=>h.qu qk (i:=5) rfl (k:=k) (off:=6) (x:=t) (ht) rfl))∘Vn 5∘Vf 6 7∘Vy 7 (v:=vW t.r) (h:=by exact Pd rfl rfl kr (λ_ h=>h.qu qk (i:=5) rfl (k:=k) (off:=7) (x:=t) (ht) rfl))∘Vn 9∘Vf 10 2∘Vy 11 (v:=vI t.weight) (h:=by exact Pd rfl rfl kr (λ_ h=>h.qu qk (i:=5) rfl (k:=k) (off:=2) (x:=t) (ht) rfl))∘Vo (vI p) (by rw [Y])∘Vn 15∘Vf 16 3∘Vy 17 (v:=vI t.cpu) (h:=by exact Pd rfl rfl kr (λ_ h=>h.qu qk (i:=5) rfl (k:=k) (off:=3) (x:=t) (ht) rfl))∘Vo (vI ct) (by rw [hct])∘Vy 18 (h:=by exact Yl.iH gy ct 3 rfl rfl rfl)∘Vf 19 2∘Vy 20 (v:=vQ yz.floor) (h:=by exact Pd rfl rfl kr (λ_ h=>h.tL 7 (j:=2) rfl om hy (hyz) rfl))∘Vy 23 (h:=by exact Yl.iH gy to 3 rfl rfl rfl)∘Vf 24 2∘Vy 25 (v:=vQ z2.floor) (h:=by exact Pd rfl rfl kr (λ_ h=>h.tL 7 (j:=2) rfl om hy (hz2) rfl))) λa Z b H=>?_)
  refine zd [12,30] kr rfl ?_
  refine all_cons ?_ ?_
  ·refine qt Z (i:=12) rfl rfl ?_
   refine iV Z b [vQ t.v,vW t.r,vI p] (.agg #[vQ t.v,vW t.r,vW p]) rfl rfl (za t.v t.r (p:Int) om _) λBO Q b a Z=>?_
   refine ay (b.pt 7 [0,1,2,3,4,5,6]) (λH=>?_)
   refine zd [26,30] kr rfl ?_
   refine all_cons ?_ ?_
   ·refine qt Z (i:=26) rfl rfl ?_
    refine iV Z b [.agg #[vQ t.v,vW t.r,vW p],vQ yz.floor,vQ z2.floor] (.tuple #[.agg e.cells,vI 0]) rfl rfl (QT (⟨t.v,t.r,p⟩:En) e M yz.floor z2.floor rJ P D _) λLW Q b a Z=>?_
    refine ay (b.pt 7 [0,1,2,3,4,5,6]) (λH=>?_)
    refine Vb Z b H ((Vp [27]∘Vx 28∘Vx 29∘VA 30 .n #[vQ 0,vW 0,vW 0]) λw9 G=>λa Z b H=>?_)
    refine s_on Z 31 rfl (cZ Z b 0 rfl rfl rfl rfl rfl ql rfl rfl (lY e) λE b=>?_)
    refine dM kr ?_
    refine ap Z (bO kr) [32] (bt 33 []) [] λa Z=>?_
    refine qd kr ?_
    exact ⟨G,Z.sub kr,b.pt 8 [0,1,2,3,4,5,6,7]⟩
   refine all_cons ?_ all_nil
   refine qt Z (i:=30) rfl rfl ?_
   refine gT Z b #[vQ 0,vW 0,vW 0] ?_
   clear Z b;intro a w9 G Z b
   refine ay (b.pt 8 [1,2,3,4,5,6,7]) (λH=>?_)
   refine Vb Z b H ((VI 26 (.f .n) (h:=by exact λb=>QT (⟨t.v,t.r,p⟩:En) e M yz.floor z2.floor rJ P D _)) λLW Q=>(Vp [27]∘Vx 28∘Vx 29) λa Z b H=>?_)
   refine s_on Z 31 rfl (cZ Z b 0 rfl rfl rfl rfl rfl ql rfl rfl (lY e) λE b=>?_)
   refine dM kr ?_
   refine ap Z (bO kr) [32] (bt 33 []) [] λa Z=>?_
   refine qd kr ?_
   exact ⟨G,Z.sub kr,b.pt 8 [0,1,2,3,4,5,6,7]⟩
  refine all_cons ?_ all_nil
  refine qt Z (i:=30) rfl rfl ?_
  refine gT Z b #[vQ 0,vW 0,vW 0] ?_
  clear Z b;intro a w9 G Z b
  refine ay (b.pt 8 [1,2,3,4,5,6,7]) (λH=>?_)
  refine Vb Z b H ((VI 12 (.f .n) (h:=by exact λb=>za t.v t.r (p:Int) om _)) λBO Q=>(VI 26 (.f .n) (h:=by exact λb=>QT (⟨t.v,t.r,p⟩:En) e M yz.floor z2.floor rJ P D _)) λLW Q=>(Vp [27]∘Vx 28∘Vx 29) λa Z b H=>?_)
  refine s_on Z 31 rfl (cZ Z b 0 rfl rfl rfl rfl rfl ql rfl rfl (lY e) λE b=>?_)
  refine dM kr ?_
  refine ap Z (bO kr) [32] (bt 33 []) [] λa Z=>?_
  refine qd kr ?_
  exact ⟨G,Z.sub kr,b.pt 8 [0,1,2,3,4,5,6,7]⟩
 clear Z b;rintro a w3 ⟨G,Z,b⟩
 refine Jb Z b ((JP∘Jp 1∘eF ql O0∘JO (h:=by exact λb=>Ls t e xO b ht o uy.1)) λLK=>(oI∘Jr∘Jp 2∘Jn∘Jf 3) λa Z b=>?_)
 refine fo Z 4 rfl rfl ?_
 refine qw Z b (i:=6) rfl rfl rfl rfl kr rfl rfl (by rw [zk bI 8 qk,abG];omega) λakz b=>?_
 replace b:=b.bM (i:=6) (ys:=(ts.set k {t.put e with cpu:=(to:Int)}).flatMap bI) rfl ((ze bI 8 qk (ts.set k (t.put e)) k (t.put e) {t.put e with cpu:=(to:Int)} (xq ht) 3 de _ rfl).trans (by rw [ad5]))
 refine Jb Z b ((wT∘Jr∘Jp 1∘Jn∘Jf 5∘Jy (v:= .bool (({t.put e with cpu:=(to:Int)}:Tk).ready)) (h:=by exact Pd rfl rfl kr (λ_ h=>h.qu qk (i:=6) rfl (k:=k) (off:=5) (x:=({t.put e with cpu:=(to:Int)}:Tk)) ((xq ht)) rfl))∘Jo (.bool t.ready) (by exact rfl)∘dU∘Jj) (Ju (λF=>?_) λF=>?_))
 ·
  refine (JT∘JR∘Jp 3∘JL (h:=by exact λb=>LQ 2 b rfl (j:=1) rfl de (DN (ts':=ts.set k {t.put e with cpu:=(to:Int)}) s (by rw [abG];exact o)) (sO) (sP) B hrg hsp hcr u (by show ((to:Nat):Int)<cp;omega))) ?_
  rintro b _ Zx ⟨jG,rfl,hl2,hsp2,nI,BX⟩
  refine ⟨_,rfl,_,(show Mem W Zx (.blk G e.cells 333:: abh QY em c24 dG 3 1::fM U cp cr gA I gc lA J lc uA K uc (some ⟨g,0,none⟩) L tc (some ⟨d,0,none⟩) q sc::fG gA I gc gs::fI lA J lc cl::fI uA K uc cu::fT (some ⟨g,0,none⟩) L tc (ts.set k {t.put e with cpu:=(to:Int)})::fS (some ⟨d,0,none⟩) q sc jG::(fR jG++(T))) from BX),?_⟩
  refine (wT∘Jq) λa Z b=>?_
  exact gQ rfl Z (YV (y:=(⟨cp,cr,gA,gc,gs,lA,lc,cl,uA,uc,cu,some ⟨g,0,none⟩,tc,(ts.set k {t.put e with cpu:=(to:Int)}),some ⟨d,0,none⟩,sc,jG⟩:aC)) 2 b rfl (Lv (DN s (by rw [abG];exact o)) hl2) (by rw [hmo,if_pos F];exact nI))
 refine (JF∘JS) λa Z b=>?_
 exact gQ rfl Z (YV (y:=(⟨cp,cr,gA,gc,gs,lA,lc,cl,uA,uc,cu,some ⟨g,0,none⟩,tc,(ts.set k {t.put e with cpu:=(to:Int)}),some ⟨d,0,none⟩,sc,rs⟩:aC)) 2 b rfl (DN s (by rw [abG];exact o)) (by rw [hmo,if_neg (yB F)]))
theorem Zy {to:Nat} (n:Nat) (h:Mem W w F) (i:F.drop n=jq a x c m g b d++T) (j:dB x c m g b d) (ht:x.ts[k]?=some t) (e:(to:Int)<x.ak):
  Calls abl 214 #[vP a 0,vI k,vI to] w (λr f=>∃y:aC,r= .returned (.tuple #[])∧y.av=je x.av k (to:Int)∧Mem W f (F.take n++(mE a y++T))):=
 (qz2 W w x a k to t c m g b d j ht e (F.take n++T) (h.front n i)).mono λr f ⟨y,h1,h2,h3⟩=>⟨y,h1,h2,h3.back⟩
def qz3 (A:Option Addr) (c:Nat) (l:List Int) (v:Int) (w:World) (hr:Rd w w.heap.size 1 A (abk l) (l.map aP)) (p:abk l≤1000000):
    Calls abl 268 #[abg A l c,vI v] w (vE w l v):=by
 refine (iX Tryz.func268 19) ?_
 refine (JP∘Jp 1∘Jj∘JQ∘JP∘Jp 1∘Jl∘Jp 1∘Jj∘JB) λa Z d=>?_
 refine qg (λg n o=>∃(k:Nat),(k≤abk l)∧(∀i,i<k→l.getD i 0≠v)∧g=abk l-k∧Fr n 19 [] [(8,vI k),(7,vI (abk l)),(4,vI 0),(0,abg A l c),(1,vI v)]∧Mem w o []) (m:=abk l-0) ⟨0,abx _,λi h=>by omega,rfl,Z.sub kr,d.pk []⟩ ?_
 clear Z d;rintro g a q ⟨k,r,j,rfl,Z,d⟩
 refine Jb Z d ((JP∘Jp 1∘Jj∘JQ) (Ji (λe=>?_) λe=>?_))
 ·
  have f:k<abk l:=by omega
  refine (JT∘aD∘JQ∘JB∘JP∘Jp 2∘aK∘Jr∘Jp 3) ?_
  obtain ⟨gA,s,rfl,_⟩:=hr.sat k
  refine (gZ k 1∘Jy (h:=by exact aad hr k 0 om rfl rfl)∘Jp 1∘lT∘Jj) (Je (λb=>?_) λb=>?_)
  ·
   exact (JT∘JP∘Jp 2∘aK∘Jj∘JZ∘aZ) λd=>qz0 f b.symm d.below
  refine (JF∘aD∘JR∘cK 1∘Jp 1∘aK∘Jq) λa Z d=>?_
  exact ⟨_,om,k+1,by omega,zf0 j (λh=>b h.symm),rfl,Z.sub kr,d.pk []⟩
 exact (JF∘JX∘JG∘JP∘Jp 1∘Jj∘JZ∘aZ) λd=>qz1 (λi hi=>j i om) d.below
def qot (A:Option Addr) (c:Nat) (l:List Int) (v:Int) (w:World) (hr:Rd w w.heap.size 1 A (abk l) (l.map aP)) (d:abk l≤1000000):
    Calls abl 213 #[abg A l c,vI v] w (Is w (.bool (decide (v∈l)))):=by
 refine (iX Tryz.func213 9) ?_
 refine (JP∘Jp 1∘Jr∘Jp 2∘JL (h:=by exact λa=>qz3 A c l v _ (a.old hr) d)) ?_
 rintro a _ f ⟨⟨i,rfl,e⟩,b⟩
 refine ⟨_,rfl,_,a.call b,?_⟩
 exact (Jp 2∘gG∘Jj∘JZ∘aZ) λa=>bR e a.below
def qub {l:List Int} {v:Int} (a:abk l=n) (hr:Rd w w.heap.size 1 A n (l.map aP)) (b:abk l≤1000000):Calls abl 213 #[.slice A n c,vI v] w (Is w (.bool (decide (v∈l)))):=by
 subst a
 exact qot A c l v w hr b
def qou (W w:World) (x:aC) (M:Nat) (N O P L Q:Nat) (q:dB x N O P L Q) (o:bC) (F:o.Ok) (T:List Fact) (b:Mem W w (jq M x N O P L Q++T)):
    Calls abl 155 #[vP M 0,.agg o.cells] w (j5 W M T (yj x.av o)):=by
 obtain ⟨cp,cr,gA,gc,gs,lA,lc,cl,uA,uc,cu,tA,tc,ts,sA,sc,rs⟩:=x
 replace b:Mem W w (fM M cp cr gA N gc lA O lc uA P uc tA L tc sA Q sc::fG gA N gc gs::fI lA O lc cl::fI uA P uc cu::fT tA L tc ts::fS sA Q sc rs::(fR rs++(T))):=b
 obtain ⟨R,S,I,U,V⟩:=q.ln
 replace R:abk gs=N:=R;replace S:abk cl=O:=S;replace I:abk cu=P:=I;replace U:abk ts=L:=U;replace V:abk rs=Q:=V
 have g:=q.ln
 have hsp:eu gs cp rs:=q.spots
 have hrg:abk rs=abk gs:=q.sh.rs
 have hcr:cr<18446744073709551616:=q.ok.aj
 obtain ⟨G,H,_,E⟩:=lW q.sh.cfg
 replace G:1≤cp:=G;replace H:cp≤64:=H;replace E:bV gs=true:=E
 have nE:=(qp E).1;have nG:=(qp E).2.1
 have pF:(abk cl:Int)=cp:=q.sh.cl;have oh:(abk cu:Int)=cp:=q.sh.cu
 have nH:abk ts≤1000000:=q.few.t
 have hoc:=F.cpu;have hot:=F.task;have hog:=F.group;have how:=F.weight;have X:=F.to;have Y:=F.ticks;have yF:=F.mask;have pG:=F.kind;unfold aQ at hoc hot hog how X Y
 obtain ⟨e,rfl⟩:=zl (b.own (i:=3) rfl) om
 refine (lX b Tryz.func155 67) ?_
 refine (JP∘JE) λw3 g3=>(Jp 2∘Jj∘JQ∘JB∘JP∘Jp 1∘Jg 5 O0∘JI (h:=by exact λb=>DL 1 b rfl q o.to)) λwW J=>(Jp 2∘gG∘Jj) (oJ (λf=>?_) λf=>?_)
 ·
  exact (JT∘JP∘Jp 2∘Jj∘JZ∘bH) λb=>by exact qq (y:=(⟨cp,cr,gA,gc,gs,lA,lc,cl,some ⟨e,0,none⟩,uc,cu,tA,tc,ts,sA,sc,rs⟩:aC)) 1 b rfl g (if_pos (decide_eq_false f))
 replace f:0≤o.to∧o.to<cp:=f
 obtain ⟨c,B⟩:∃n:Nat,o.to=(n:Int):=⟨o.to.toNat,by omega⟩
 have qR:((c:Nat):Int)<cp:=by omega
 have QZ:abk cu≤1000000:=q.few.u
 refine (JF∘JP∘Jg 2 O0∘JI (h:=by exact λb=>Lu o.task _)) λw16 J=>(Jp 2∘dU∘Jj) (oJ (λd=>?_) λd=>?_)
 ·
  exact (JT∘JP∘Jp 2∘Jj∘JZ∘bH) λb=>by exact qq (y:=(⟨cp,cr,gA,gc,gs,lA,lc,cl,some ⟨e,0,none⟩,uc,cu,tA,tc,ts,sA,sc,rs⟩:aC)) 1 b rfl g ((if_neg (nf (decide_eq_true f))).trans (if_pos (decide_eq_false d)))
 refine (JF∘aD∘JP∘Jp 1∘Jg 2 O0∘JI (h:=by exact λb=>Gf 1 b rfl q o.task)) λQF J=>(Jp 1∘dU∘Jj∘JQ∘JB∘JP∘Jp 3∘bG∘Jj) (Ji (λC=>?_) λC=>?_)
 ·
  exact (JT∘JP∘Jp 2∘Jj∘JZ∘bH) λb=>by exact qq (y:=(⟨cp,cr,gA,gc,gs,lA,lc,cl,some ⟨e,0,none⟩,uc,cu,tA,tc,ts,sA,sc,rs⟩:aC)) 1 b rfl g ((if_neg (nf (decide_eq_true f))).trans ((if_neg (nf (decide_eq_true d))).trans (if_pos (C))))
 obtain ⟨k,t,A,ht,hkl,yG⟩:=Gh C
 replace A:fidx ts o.task=(k:Int):=A;replace ht:ts[k]?=some t:=ht;replace hkl:k<abk ts:=hkl
 obtain ⟨D,K⟩:=q.task ht
 have hti:=D.id;have vv:=D.group;have htc:=D.cpu;have Gn:=D.weight;have yH:=K.v;have htr:=K.r;have Gp:=K.mask
 replace htc:0≤t.cpu∧t.cpu<cp:=htc
 obtain ⟨gt,hgt⟩:∃n:Nat,t.group=(n:Int):=⟨t.group.toNat,by omega⟩
 obtain ⟨ct,hct⟩:∃n:Nat,t.cpu=(n:Int):=⟨t.cpu.toNat,by omega⟩
 obtain ⟨wt,hwt⟩:∃n:Nat,t.weight=(n:Int):=⟨t.weight.toNat,by omega⟩
 have vw:(⟨t.v,t.r,wt⟩:En).Ok:=aaj D.ent hwt yH
 repeat (first|clear Z|clear b)
 intro a Z b
 obtain ⟨l,rfl⟩:=b.rat 5 k (hk:=(by omega:k<L))
 refine Jb Z b ((JF) λa Z b=>?_)
 refine wp_seq ?_
 refine Jb Z b ((Vs .n []) λLM=>(Vp [0]∘Vf 5 2∘Vn 1∘Vf 2 0∘Vf 3 4∘Vc 4 O1∘Vc 6 O0∘VI 7 .n (h:=by exact λb=>qub I (b.rd (i:=4) rfl) QZ)) λKL J=>(Vp [8]∘Vd∘aF) (Ji (λp=>?_) λp=>?_))
 ·
  exact (JT∘JP∘Jp 2∘Jj∘JZ∘bH) λb=>by exact qq (y:=(⟨cp,cr,gA,gc,gs,lA,lc,cl,some ⟨e,0,none⟩,uc,cu,some ⟨l,0,none⟩,tc,ts,sA,sc,rs⟩:aC)) 1 b rfl g ((if_neg (nf (decide_eq_true f))).trans ((if_neg (nf (decide_eq_true d))).trans ((if_neg (by show ¬fidx ts o.task<0;rw [A];omega)).trans (if_pos (p)))))
 refine (JF) λa Z b=>?_
 refine wp_seq ?_
 refine Jb Z b ((Vs .n []) λqO=>(Vp [0]∘Vf 9 5∘Vn 1∘Vf 2 0∘Vf 3 5∘Vc 4 O1∘Vp [5]∘Vo (vI k) (by rw [A])∘Vy 6 (h:=by exact Yl.iH l k 8 rfl rfl rfl)∘Vf 7 3∘Vy 8 (v:=vI t.cpu) (h:=by exact Pd rfl rfl kr (λ_ h=>h.qu qk (i:=5) rfl (k:=k) (off:=3) (x:=t) (ht) rfl))∘Vc 10 O0∘Vp [11,12]∘Vd∘aF) (Je (λz=>?_) λz=>?_))
 ·
  exact (JT∘JP∘Jp 2∘Jj∘JZ∘bH) λb=>by exact qq (y:=(⟨cp,cr,gA,gc,gs,lA,lc,cl,some ⟨e,0,none⟩,uc,cu,some ⟨l,0,none⟩,tc,ts,sA,sc,rs⟩:aC)) 1 b rfl g ((if_neg (nf (decide_eq_true f))).trans ((if_neg (nf (decide_eq_true d))).trans ((if_neg (by show ¬fidx ts o.task<0;rw [A];omega)).trans ((if_neg (p)).trans (if_pos (by rw [xu (s:=aC.av (⟨cp,cr,gA,gc,gs,lA,lc,cl,some ⟨e,0,none⟩,uc,cu,some ⟨l,0,none⟩,tc,ts,sA,sc,rs⟩:aC)) A ht];exact z))))))
 have hmb:=aeD t.mask (2^c)
 refine (JF) λa Z b=>?_
 refine wp_seq ?_
 refine Jb Z b ((Vs .n []) λQK=>(Vp [0]∘Vf 9 5∘Vn 1∘Vf 2 0∘Vf 3 5∘Vc 4 O1∘Vp [5]∘Vo (vI k) (by rw [A])∘Vy 6 (h:=by exact Yl.iH l k 8 rfl rfl rfl)∘Vf 7 4∘Vy 8 (v:=vQ t.mask) (h:=by exact Pd rfl rfl kr (λ_ h=>h.qu qk (i:=5) rfl (k:=k) (off:=4) (x:=t) (ht) rfl))∘Vc 10 O0∘Vo (vI c) (by rw [B])∘Vy 11 (v:=vQ (t.mask/2^c:Nat)) (h:=by exact aar (m:=t.mask) (n:=c) rfl rfl rfl (by show _≤64;omega))∘Vp [12]∘Vo (vQ ((t.mask/2^c)%2:Nat)) (by exact Kw (n:=1) (j:=1) rfl de om)∘Vp [13,14]∘Vd∘aF) (Je (λQ0=>?_) λQ0=>?_))
 ·
  exact (JT∘JP∘Jp 2∘Jj∘JZ∘bH) λb=>by exact qq (y:=(⟨cp,cr,gA,gc,gs,lA,lc,cl,some ⟨e,0,none⟩,uc,cu,some ⟨l,0,none⟩,tc,ts,sA,sc,rs⟩:aC)) 1 b rfl g ((if_neg (nf (decide_eq_true f))).trans ((if_neg (nf (decide_eq_true d))).trans ((if_neg (by show ¬fidx ts o.task<0;rw [A];omega)).trans ((if_neg (p)).trans ((if_neg (by rw [xu (s:=aC.av (⟨cp,cr,gA,gc,gs,lA,lc,cl,some ⟨e,0,none⟩,uc,cu,some ⟨l,0,none⟩,tc,ts,sA,sc,rs⟩:aC)) A ht];exact z)).trans (if_pos (Zw (by rw [xu (s:=aC.av (⟨cp,cr,gA,gc,gs,lA,lc,cl,some ⟨e,0,none⟩,uc,cu,some ⟨l,0,none⟩,tc,ts,sA,sc,rs⟩:aC)) A ht]) B om)))))))
 refine (JF∘aD∘JP∘Jp 2∘Jo (vI k) (by rw [A])∘Jf 5∘Jc O0∘Jo (vI c) (by rw [B])∘JL (h:=by exact λb=>Zy 1 b rfl q ht qR)) ?_
 rintro b _ w66 ⟨y,rfl,hys,BX⟩
 refine ⟨_,rfl,_,(show Mem W w66 (.blk g3 o.cells 214::(mE M y++(T))) from BX),?_⟩
 exact (qK∘Jr∘Jp 2∘Jj∘JZ∘bH) λb=>by exact YW 1 b rfl ((qt6 (x:=(⟨cp,cr,gA,gc,gs,lA,lc,cl,some ⟨e,0,none⟩,uc,cu,some ⟨l,0,none⟩,tc,ts,sA,sc,rs⟩:aC)) (decide_eq_true f) (decide_eq_true d) A ht p z (qua B om)).trans (by rw [hys,B]))
theorem zf1 {a b:Int}:(a !=b)=decide (a≠b):=by rw [acg,bne_iff_ne,decide_eq_true_eq]
theorem Zz {v:Int} (n:Nat) (f:Mem W w F) (h:F.drop n=jq e x m g a b d++T) (i:dB x m g a b d) (j:aI x.av c=v):Calls abl 215 #[vP e 0,vI c] w (Is w (vI v)):=j▸q41 n f h i
def zah {o:bC} {fr v lc:Int} {i:Bool} (a:o.cpu=(c:Int)) (b:iE x.av o.cpu x.ak.toNat=(fr,v)) (d:aI x.av c=lc) (e:t.cpu=(m:Int)) (f:be.toNat=g) (h:(t.ready&& (decide (t.cpu=fr)&& (decide ((t.mask/2^c)%2=1)&&decide (x.cu.getD m 0≠t.id))))=i):
  yC x.av o be t=(i&&decide (2*t.weight≤v-lc)&& (decide (be<0)||decide ((x.ts.getD g Tk.zero).weight<t.weight))):=by
 unfold yC sK jd
 rw [show x.av.ak=x.ak from rfl,b,a,abD,d,f,←h,show x.av.cu=x.cu from rfl,show x.av.ts=x.ts from rfl,e,abD]
 simp only [Bool.and_assoc]
def qov (W w:World) (x:aC) (A:Nat) (J K L p M:Nat) (B:dB x J K L p M) (o:bC) (ho:o.Ok) (T:List Fact) (e:Mem W w (jq A x J K L p M++T)):
    Calls abl 156 #[vP A 0,.agg o.cells] w (j5 W A T (uU x.av o)):=by
 obtain ⟨cp,cr,gA,gc,gs,lA,lc,cl,uA,uc,cu,tA,tc,ts,sA,sc,rs⟩:=x
 replace e:Mem W w (fM A cp cr gA J gc lA K lc uA L uc tA p tc sA M sc::fG gA J gc gs::fI lA K lc cl::fI uA L uc cu::fT tA p tc ts::fS sA M sc rs::(fR rs++(T))):=e
 obtain ⟨mg,hll,nD,hlt,hls⟩:=B.ln
 replace mg:abk gs=J:=mg;replace hll:abk cl=K:=hll;replace nD:abk cu=L:=nD;replace hlt:abk ts=p:=hlt;replace hls:abk rs=M:=hls
 have Gy:=B.ln
 have hsp:eu gs cp rs:=B.spots
 have hrg:abk rs=abk gs:=B.sh.rs
 have hcr:cr<18446744073709551616:=B.ok.aj
 obtain ⟨hcp1,hcp2,_,hgs⟩:=lW B.sh.cfg
 replace hcp1:1≤cp:=hcp1;replace hcp2:cp≤64:=hcp2;replace hgs:bV gs=true:=hgs
 have nE:=(qp hgs).1;have nG:=(qp hgs).2.1
 have pF:(abk cl:Int)=cp:=B.sh.cl;have oh:(abk cu:Int)=cp:=B.sh.cu
 have nH:abk ts≤1000000:=B.few.t
 have hoc:=ho.cpu;have hot:=ho.task;have hog:=ho.group;have how:=ho.weight;have oo:=ho.to;have oq:=ho.ticks;have yF:=ho.mask;have pG:=ho.kind;unfold aQ at hoc hot hog how oo oq
 have F:=Zm B.sh;replace F:∀t∈ts,1≤t.weight∧t.weight≤65536:=F
 obtain ⟨f,rfl⟩:=zl (e.own (i:=3) rfl) om
 have hld:∀c,aI (⟨cp,cr,gA,gc,gs,lA,lc,cl,some ⟨f,0,none⟩,uc,cu,tA,tc,ts,sA,sc,rs⟩:aC).av c≤65536000000∧0≤aI (⟨cp,cr,gA,gc,gs,lA,lc,cl,some ⟨f,0,none⟩,uc,cu,tA,tc,ts,sA,sc,rs⟩:aC).av c:=λc=>by have h1:0≤gL ts c∧gL ts c≤65536*abk ts:=YN (c:=c) F;exact ⟨by show gL ts c≤_;omega,h1.1⟩
 refine (lX e Tryz.func156 136) ?_
 refine (JP∘JE) λw3 g3=>(Jp 2∘Jj∘JQ∘JP∘Jp 1∘Jg 1 O0∘JI (h:=by exact λe=>DL 1 e rfl B o.cpu)) λDn hbw=>(Jp 1∘dU∘Jj) (oJ (λq=>?_) λq=>?_)
 ·
  exact (JT∘JP∘Jp 2∘Jj∘JZ∘bH) λe=>by exact qq (y:=(⟨cp,cr,gA,gc,gs,lA,lc,cl,some ⟨f,0,none⟩,uc,cu,tA,tc,ts,sA,sc,rs⟩:aC)) 1 e rfl Gy (if_pos (decide_eq_false q))
 replace q:0≤o.cpu∧o.cpu<cp:=q
 obtain ⟨c,N⟩:∃n:Nat,o.cpu=(n:Int):=⟨o.cpu.toNat,by omega⟩
 have qR:((c:Nat):Int)<cp:=by omega
 obtain ⟨lc_,Q⟩:∃z,aI (⟨cp,cr,gA,gc,gs,lA,lc,cl,some ⟨f,0,none⟩,uc,cu,tA,tc,ts,sA,sc,rs⟩:aC).av c=z:=⟨_,rfl⟩
 have Q5:=hld c
 rw [Q] at Q5
 refine (JF∘aD∘JP∘Jp 2∘Jj∘JQ∘JP∘Jp 1∘Jn∘Jf 0∘Jf 0∘Jg 0 O1∘Jp 1∘Jj∘JB) λa Z e=>?_
 refine qg (λmS aS wS=>∃(i:Nat) (fr:Int) (R:Int),((i:Int)≤cp)∧(iE (⟨cp,cr,gA,gc,gs,lA,lc,cl,some ⟨f,0,none⟩,uc,cu,tA,tc,ts,sA,sc,rs⟩:aC).av o.cpu i=(fr,R))∧mS=cp.toNat-i∧Fr aS 136 [] [(26,vI i),(25,vI cp),(7,vI R),(6,vI fr),(19,.bool false),(5,vI 0),(4,vI 0),(3,vP g3 0),(0,vP A 0)]∧Mem W wS (.blk g3 o.cells 214::fM A cp cr gA J gc lA K lc (some ⟨f,0,none⟩) L uc tA p tc sA M sc::fG gA J gc gs::fI lA K lc cl::fI (some ⟨f,0,none⟩) L uc cu::fT tA p tc ts::fS sA M sc rs::(fR rs++(T)))) (m:=cp.toNat-0) ⟨0,(-1),(-1),by omega,rfl,rfl,Z.sub kr,e.pt 7 [0,1,2,3,4,5,6]⟩ ?_
 clear Z e;rintro mS a w_ ⟨i,fr,R,hi,S,rfl,Z,e⟩
 refine Jb Z e ((JP∘Jp 1∘Jj∘JQ) (Ji (λhd27=>?_) λhd27=>?_))
 ·
  obtain ⟨lw,O⟩:∃z,aI (⟨cp,cr,gA,gc,gs,lA,lc,cl,some ⟨f,0,none⟩,uc,cu,tA,tc,ts,sA,sc,rs⟩:aC).av i=z:=⟨_,rfl⟩
  have Q6:=hld i
  rw [O] at Q6
  refine (JT∘aD∘JQ∘JB∘JP∘Jp 2∘aK∘Jr∘Jp 2∘JI (h:=by exact λe=>Zz 1 e rfl B O)) λKT hbw=>(Jp 1∘dU∘Jr∘Jp 1∘Jf 1∘Jc O0∘Jo (vI c) (by rw [N])∘Jp 2) (Jh (λQ7=>?_) λQ7=>?_)
  ·
   refine (Jp 4∘aF∘Jj) (Ji (λBJ=>?_) λBJ=>?_)
   ·
    refine (JT∘JR∘Jp 4∘Jj∘JR∘cK 1∘Jp 1∘aK∘Jq) λa Z e=>?_
    exact ⟨_,om,i+1,(i:Int),lw,by omega,by rw [Qm S,if_pos ⟨by omega,by rw [O];omega⟩,O],rfl,Z.sub kr,e.pt 7 [0,1,2,3,4,5,6]⟩
   refine (JF∘aD∘JR∘cK 1∘Jp 1∘aK∘Jq) λa Z e=>?_
   exact ⟨_,om,i+1,fr,R,by omega,by rw [Qm S,if_neg (by rw [O];omega)],rfl,Z.sub kr,e.pt 7 [0,1,2,3,4,5,6]⟩
  refine (Jp 4∘aF∘Jj∘JF∘aD∘JR∘cK 1∘Jp 1∘aK∘Jq) λa Z e=>?_
  exact ⟨_,om,i+1,fr,R,by omega,by rw [Qm S,if_neg (by rw [O];omega)],rfl,Z.sub kr,e.pt 7 [0,1,2,3,4,5,6]⟩
 have Q8:i=cp.toNat:=by omega
 subst Q8
 have U:=qzm (cpu:=o.cpu) hld de cp.toNat
 rw [S] at U
 replace U: -1≤fr∧fr<(cp.toNat:Int)∧ -1≤R∧R≤65536000000:=U
 refine (JF∘JX∘JG∘JP∘Jp 1∘Jj∘JQ∘JP∘Jp 1∘Jn∘Jf 0∘Jg 5 O1∘Jl∘Jp 1∘Jj∘JB) λa Z e=>?_
 refine qg (λmS aS wS=>∃(n:Nat) (s:Int),(n≤abk ts)∧(mF (fV (⟨cp,cr,gA,gc,gs,lA,lc,cl,some ⟨f,0,none⟩,uc,cu,tA,tc,ts,sA,sc,rs⟩:aC).av o n)=s)∧mS=abk ts-n∧Fr aS 136 [] [(50,vI n),(49,vI p),(48,.slice tA p tc),(10,vI s),(27,.bool false),(26,vI cp.toNat),(25,vI cp),(7,vI R),(6,vI fr),(19,.bool false),(5,vI 0),(4,vI 0),(3,vP g3 0),(0,vP A 0)]∧Mem W wS (.blk g3 o.cells 214::fM A cp cr gA J gc lA K lc (some ⟨f,0,none⟩) L uc tA p tc sA M sc::fG gA J gc gs::fI lA K lc cl::fI (some ⟨f,0,none⟩) L uc cu::fT tA p tc ts::fS sA M sc rs::(fR rs++(T)))) (m:=abk ts-0) ⟨0,(-1),abx _,rfl,rfl,Z.sub kr,e.pt 7 [0,1,2,3,4,5,6]⟩ ?_
 clear Z e;rintro mS a w_ ⟨n,s,hn,P,rfl,Z,e⟩
 refine Jb Z e ((JP∘Jp 1∘Jj∘JQ) (Ji (λQ9=>?_) λQ9=>?_))
 ·
  repeat (first|clear Z|clear e)
  intro a Z e
  obtain ⟨g,rfl⟩:=e.rat 5 n (hk:=(by omega:n<p))
  obtain ⟨t,ht⟩:∃z,ts[n]?=some z:=⟨_,abt om⟩
  obtain ⟨V,hto⟩:=B.task ht
  have hti:=V.id;have vv:=V.group;have htc:=V.cpu;have Gn:=V.weight;have yH:=hto.v;have htr:=hto.r;have Gp:=hto.mask
  replace htc:0≤t.cpu∧t.cpu<cp:=htc
  obtain ⟨gt,hgt⟩:∃n:Nat,t.group=(n:Int):=⟨t.group.toNat,by omega⟩
  obtain ⟨ct,hct⟩:∃n:Nat,t.cpu=(n:Int):=⟨t.cpu.toNat,by omega⟩
  obtain ⟨wt,hwt⟩:∃n:Nat,t.weight=(n:Int):=⟨t.weight.toNat,by omega⟩
  have vw:(⟨t.v,t.r,wt⟩:En).Ok:=aaj V.ent hwt yH
  have hbi:=Y0 P
  obtain ⟨bb,hbb⟩:∃n:Nat,s.toNat=n:=⟨_,rfl⟩
  have hmb:=aeD t.mask (2^c)
  have hbw:=λh=>F (ts.getD bb Tk.zero) (qe Tk.zero h)
  refine Jb Z e ((JT∘aD∘JQ∘JB∘JP∘Jp 1∘lU n 8∘Jy (v:= .agg t.cells) (h:=by exact Pe rfl rfl fu rfl (λ_ h=>h.EK qk (i:=5) rfl (ht)))∘JA #[vI 0,vI 0,vI 0,vI 0,vQ 0,.bool false,vQ 0,vW 0]) λDz X=>(Jp 1∘JV fu aU (h1:=by exact FB t)) λZA=>(Jj) λa Z e=>?_)
  refine zb (λaS wS=>Fr aS 136 [] [(13,.bool (t.ready&& (decide (t.cpu=fr)&& (decide ((t.mask/2^c)%2=1)&&decide (cu.getD ct 0≠t.id))))),(11,vI n),(12,vP X 0),(51,.bool true),(50,vI n),(49,vI p),(48,vS g p tc),(10,vI s),(27,.bool false),(26,vI cp.toNat),(25,vI cp),(7,vI R),(6,vI fr),(19,.bool false),(5,vI 0),(4,vI 0),(3,vP g3 0),(0,vP A 0)]∧Mem W wS (.blk X t.cells 232:: .blk g3 o.cells 214::fM A cp cr gA J gc lA K lc (some ⟨f,0,none⟩) L uc (some ⟨g,0,none⟩) p tc sA M sc::fG gA J gc gs::fI lA K lc cl::fI (some ⟨f,0,none⟩) L uc cu::fT (some ⟨g,0,none⟩) p tc ts::fS sA M sc rs::(fR rs++(T)))) ?_ ?_
  ·
   refine Jb Z e ((Vs .n []) λRa=>(Vf 0 5∘Vc 1 O0∘Vp [2]) λa Z e l=>?_)
   rcases Z.tf 57 rfl with ⟨u,Z⟩|⟨u,Z⟩
   ·
    refine Vb Z e l ((Vf 3 3∘Vp [5]∘Vc 4 O0∘Vp [6,7,8]) λa Z e l=>?_)
    rcases Z.tf 63 rfl with ⟨Y,Z⟩|⟨Y,Z⟩
    ·
     have G:=eq_of_beq Y
     refine Vb Z e l ((Vf 9 4∘Vf 11 1∘Vc 10 O0∘Vc 12 O1∘Vo (vI c) (by rw [N])∘Vy 13 (v:=vQ (t.mask/2^c:Nat)) (h:=by exact aar (m:=t.mask) (n:=c) rfl rfl rfl (by show _≤64;omega))∘Vp [14]∘Vo (vQ ((t.mask/2^c)%2:Nat)) (by exact Kw (n:=1) (j:=1) rfl de om)∘Vp [15,16,17]) λa Z e l=>?_)
     rcases Z.tf 72 rfl with ⟨Ce,Z⟩|⟨Ce,Z⟩
     ·
      have Rb:=eq_of_beq Ce
      refine Vb Z e l ((Vp [18]∘Vf 23 3∘Vf 27 0∘Vn 19∘Vf 20 0∘Vf 21 4∘Vc 22 O2∘Vc 24 O0∘Vo (vI ct) (by rw [hct])∘Vy 25 (h:=by exact Yl.iH f ct 1 rfl rfl rfl)∘Vy 26 (h:=by exact aae 5 ct 0 om rfl rfl rfl)∘Vc 28 O0∘Vp [29,30,31]∘Vd∘aF) λa Z e=>?_)
      have Z:=Z.sp 13 (.bool (t.ready&& (decide (t.cpu=fr)&& (decide ((t.mask/2^c)%2=1)&&decide (cu.getD ct 0≠t.id))))) rfl (congrArg abS (by rw [u,decide_eq_true G,decide_eq_true om,acF,acF,acF];exact zf1))
      exact ⟨Z.sub kr,e.pt 8 [0,1,2,3,4,5,6,7]⟩
     have Rb:=ne_of_beq_false Ce
     refine ap Z (λ_=>l) [18,19,20,21,22,23,24,25,26,27,28,29,30,31] (bt 32 []) [(13,.bool false)] λa Z=>?_
     refine qd kr ?_
     have Z:=Z.sp 13 (.bool (t.ready&& (decide (t.cpu=fr)&& (decide ((t.mask/2^c)%2=1)&&decide (cu.getD ct 0≠t.id))))) rfl (congrArg abS (by rw [u,decide_eq_true G,decide_eq_false om];first|done|rfl))
     exact ⟨Z.sub kr,e.pt 8 [0,1,2,3,4,5,6,7]⟩
    have G:=ne_of_beq_false Y
    refine ap Z (λ_=>l) [9,10,11,12,13,14,15,16,17,18,19,20,21,22,23,24,25,26,27,28,29,30,31] (bt 32 []) [(13,.bool false)] λa Z=>?_
    refine qd kr ?_
    have Z:=Z.sp 13 (.bool (t.ready&& (decide (t.cpu=fr)&& (decide ((t.mask/2^c)%2=1)&&decide (cu.getD ct 0≠t.id))))) rfl (congrArg abS (by rw [u,decide_eq_false G];first|done|rfl))
    exact ⟨Z.sub kr,e.pt 8 [0,1,2,3,4,5,6,7]⟩
   refine ap Z (λ_=>l) [3,4,5,6,7,8,9,10,11,12,13,14,15,16,17,18,19,20,21,22,23,24,25,26,27,28,29,30,31] (bt 32 []) [(13,.bool false)] λa Z=>?_
   refine qd kr ?_
   have Z:=Z.sp 13 (.bool (t.ready&& (decide (t.cpu=fr)&& (decide ((t.mask/2^c)%2=1)&&decide (cu.getD ct 0≠t.id))))) rfl (congrArg abS (by rw [u];try rfl))
   exact ⟨Z.sub kr,e.pt 8 [0,1,2,3,4,5,6,7]⟩
  clear Z e;rintro a w15 ⟨Z,e⟩
  obtain ⟨ma,hma⟩:∃b,(t.ready&& (decide (t.cpu=fr)&& (decide ((t.mask/2^c)%2=1)&&decide (cu.getD ct 0≠t.id))))=b:=⟨_,rfl⟩
  replace Z:=Z.sp 13 (.bool ma) rfl (by rw [hma])
  have htk:=zah (x:=(⟨cp,cr,gA,gc,gs,lA,lc,cl,some ⟨f,0,none⟩,uc,cu,some ⟨g,0,none⟩,tc,ts,sA,sc,rs⟩:aC)) (be:=s) N S Q hct hbb hma
  refine zb (λaS wS=>Fr aS 136 [] [(116,.bool (yC (⟨cp,cr,gA,gc,gs,lA,lc,cl,some ⟨f,0,none⟩,uc,cu,some ⟨g,0,none⟩,tc,ts,sA,sc,rs⟩:aC).av o s t)),(13,.bool ma),(11,vI n),(12,vP X 0),(51,.bool true),(50,vI n),(49,vI p),(48,vS g p tc),(10,vI s),(27,.bool false),(26,vI cp.toNat),(25,vI cp),(7,vI R),(6,vI fr),(19,.bool false),(5,vI 0),(4,vI 0),(3,vP g3 0),(0,vP A 0)]∧Mem W wS (.blk X t.cells 232:: .blk g3 o.cells 214::fM A cp cr gA J gc lA K lc (some ⟨f,0,none⟩) L uc (some ⟨g,0,none⟩) p tc sA M sc::fG gA J gc gs::fI lA K lc cl::fI (some ⟨f,0,none⟩) L uc cu::fT (some ⟨g,0,none⟩) p tc ts::fS sA M sc rs::(fR rs++(T)))) ?_ ?_
  ·
   refine Jb Z e ((Vs .n []) λF4=>(Vp [0,1]) λa Z e l=>?_)
   rcases Z.tf 87 rfl with ⟨H,Z⟩|⟨H,Z⟩
   ·
    refine Vb Z e l ((Vf 2 2∘Vp [5,6]∘Vf 7 1∘Vc 3 O0∘Vp [4]∘Vo (vI (2*t.weight)) (by exact oH ⟨by omega,by omega⟩)∘Vc 8 O1∘Vo (vI c) (by rw [N])∘VI 9 .n (h:=by exact λe=>Zz 2 e rfl B Q)) λw95 hbw=>(Vp [10]∘Vo (vI (R-lc_)) (by exact oH ⟨by omega,by omega⟩)∘Vp [11,12,13]) λa Z e l=>?_)
    rcases Z.tf 99 rfl with ⟨Cg,Z⟩|⟨Cg,Z⟩
    ·
     have I:=of_decide_eq_true Cg
     refine Vb Z e l ((Vp [14,15,16]) λa Z e l=>?_)
     rcases Z.tf 102 rfl with ⟨C,Z⟩|⟨C,Z⟩
     ·
      have D:=of_decide_eq_true C
      refine Vb Z e l ((Vq [17,18,19,20,21,22,23,24,25,26,27,28,29,30] [(116,.bool true)]∘Vd∘aF) λa Z e=>?_)
      have Z:=Z.sp 116 (.bool (yC (⟨cp,cr,gA,gc,gs,lA,lc,cl,some ⟨f,0,none⟩,uc,cu,some ⟨g,0,none⟩,tc,ts,sA,sc,rs⟩:aC).av o s t)) rfl (congrArg abS (by rw [htk,H,decide_eq_true I,decide_eq_true D];rfl))
      exact ⟨Z.sub kr,e.pt 8 [0,1,2,3,4,5,6,7]⟩
     have D:=of_decide_eq_false C
     refine ap Z (λ_=>l) [17,19] (bt 31 [18,20,21,22,23,24,25,26,27,28,29,30]) [(105,vP A 0),(103,vP X 2)] λa Z=>?_
     refine dR Z l 18 0 (v:=vI t.weight) λa Z=>?_
     refine nV Z l 20 λa Z=>?_
     refine ap Z (λ_=>l) [21,22] (bt 31 [23,24,25,26,27,28,29,30]) [(108,vP A 5)] λa Z=>?_
     refine dR Z l 23 2 λa Z=>?_
     refine r9 Z (λ_=>l) (i:=24) rfl rfl (d:=110) rfl de kr (λ_ _ _ h=>h) (v:=vI s) (λ_=>Yl.pure kr) λa Z=>?_
     replace Z:=Z.sp 110 (vI bb) rfl (by rw [show s=(bb:Int) by omega])
     refine jI Z l 25 rfl (v:=vP g (bb*8)) (Yl.iH g bb 8 rfl rfl rfl) λa Z=>?_
     refine ap Z (λ_=>l) [26] (bt 31 [27,28,29,30]) [(112,vP g (bb*8+2))] λa Z=>?_
     refine jI Z l 27 rfl (v:=vI ((ts.getD bb Tk.zero).weight)) (Pd rfl rfl kr (λ_ h=>h.qu qk (i:=6) rfl (k:=bb) (off:=2) (x:=(ts.getD bb Tk.zero)) ((getD_at Tk.zero om)) rfl)) λa Z=>?_
     refine ap Z (λ_=>l) [28,29,30] (bt 31 []) [(116,.bool (decide ((t.weight:Int)>((ts.getD bb Tk.zero).weight:Int))))] λa Z=>?_
     refine qd kr ?_
     have Z:=Z.sp 116 (.bool (yC (⟨cp,cr,gA,gc,gs,lA,lc,cl,some ⟨f,0,none⟩,uc,cu,some ⟨g,0,none⟩,tc,ts,sA,sc,rs⟩:aC).av o s t)) rfl (congrArg abS (by rw [htk,H,decide_eq_true I,decide_eq_false D];rfl))
     exact ⟨Z.sub kr,e.pt 8 [0,1,2,3,4,5,6,7]⟩
    have I:=of_decide_eq_false Cg
    refine ap Z (λ_=>l) [14,15,16,17,18,19,20,21,22,23,24,25,26,27,28,29,30] (bt 31 []) [(116,.bool false)] λa Z=>?_
    refine qd kr ?_
    have Z:=Z.sp 116 (.bool (yC (⟨cp,cr,gA,gc,gs,lA,lc,cl,some ⟨f,0,none⟩,uc,cu,some ⟨g,0,none⟩,tc,ts,sA,sc,rs⟩:aC).av o s t)) rfl (congrArg abS (by rw [htk,decide_eq_false I,Bool.and_false];rfl))
    exact ⟨Z.sub kr,e.pt 8 [0,1,2,3,4,5,6,7]⟩
   refine ap Z (λ_=>l) [2,3,4,5,6,7,8,9,10,11,12,13,14,15,16,17,18,19,20,21,22,23,24,25,26,27,28,29,30] (bt 31 []) [(116,.bool false)] λa Z=>?_
   refine qd kr ?_
   have Z:=Z.sp 116 (.bool (yC (⟨cp,cr,gA,gc,gs,lA,lc,cl,some ⟨f,0,none⟩,uc,cu,some ⟨g,0,none⟩,tc,ts,sA,sc,rs⟩:aC).av o s t)) rfl (congrArg abS (by rw [htk,H];rfl))
   exact ⟨Z.sub kr,e.pt 8 [0,1,2,3,4,5,6,7]⟩
  clear Z e;rintro a w16 ⟨Z,e⟩
  refine Jb Z e (Ju (λE=>?_) λE=>?_)
  ·
   refine (JT∘JR∘Jp 2∘aK∘Jj∘JR∘cK 1∘Jp 1∘aK∘Jq) λa Z e=>?_
   exact ⟨_,om,n+1,(n:Int),by omega,by rw [YZ P,show (aC.av (⟨cp,cr,gA,gc,gs,lA,lc,cl,some ⟨f,0,none⟩,uc,cu,some ⟨g,0,none⟩,tc,ts,sA,sc,rs⟩:aC)).ts.getD n Tk.zero=t from tN Tk.zero ht,if_pos E],rfl,Z.sub kr,e.pt 8 [1,2,3,4,5,6,7]⟩
  refine (JF∘aD∘JR∘cK 1∘Jp 1∘aK∘Jq) λa Z e=>?_
  exact ⟨_,om,n+1,s,by omega,by rw [YZ P,show (aC.av (⟨cp,cr,gA,gc,gs,lA,lc,cl,some ⟨f,0,none⟩,uc,cu,some ⟨g,0,none⟩,tc,ts,sA,sc,rs⟩:aC)).ts.getD n Tk.zero=t from tN Tk.zero ht,if_neg (yB E)],rfl,Z.sub kr,e.pt 8 [1,2,3,4,5,6,7]⟩
 have hnl:n=abk ts:=by omega
 subst hnl
 have hbi:=Y0 P
 refine (JF∘JX∘JG∘JQ∘JP∘Jp 2∘aK∘Jj) (Ji (λGz=>?_) λGz=>?_)
 ·
  exact (JT∘JP∘Jp 2∘Jj∘JZ∘bH) λe=>by exact qq (y:=(⟨cp,cr,gA,gc,gs,lA,lc,cl,some ⟨f,0,none⟩,uc,cu,tA,tc,ts,sA,sc,rs⟩:aC)) 1 e rfl Gy (qrd (x:=(⟨cp,cr,gA,gc,gs,lA,lc,cl,some ⟨f,0,none⟩,uc,cu,tA,tc,ts,sA,sc,rs⟩:aC)) (decide_eq_true q) (by rw [P];omega))
 obtain ⟨k,hk⟩:∃n:Nat,s=(n:Int):=⟨s.toNat,by omega⟩
 subst hk
 repeat (first|clear Z|clear e)
 intro a Z e
 obtain ⟨g,rfl⟩:=e.rat 5 k (hk:=(by omega:k<p))
 obtain ⟨t2,ht2⟩:∃z,ts[k]?=some z:=⟨_,abt om⟩
 refine Jb Z e ((JF∘aD∘JP∘Jp 1∘Jn∘Jf 0∘Jg 5 O1∘Jp 1∘lU k 8∘Jf 0∘Jy (v:=vI t2.id) (h:=by exact Pd rfl rfl kr (λ_ h=>(by have:=h.qu qk (i:=5) rfl (k:=k) (off:=0) (x:=t2) (ht2) rfl;simpa using this)))∘Jp 1∘aF∘Jr∘Jp 2∘Jf 1∘Jc O0∘Jo (vI c) (by rw [N])∘JL (h:=by exact λe=>Zy 1 e rfl B ht2 qR)) ?_)
 rintro e _ Ch ⟨y,rfl,hys,BX⟩
 refine ⟨_,rfl,_,(show Mem W Ch (.blk g3 o.cells 214::(mE A y++(T))) from BX),?_⟩
 exact (qK∘Jr∘Jp 3∘Jj∘JZ∘bH) λe=>by exact YW 1 e rfl ((qre (x:=(⟨cp,cr,gA,gc,gs,lA,lc,cl,some ⟨f,0,none⟩,uc,cu,some ⟨g,0,none⟩,tc,ts,sA,sc,rs⟩:aC)) (decide_eq_true q) P ht2).trans (by rw [hys,N]))
def ZB (W:World) (n:Nat) (l:List Tk) (a:Nat) (t:Tk) (fs:List Fact) (r:Ending) (b:World):Prop:=∃(A:Option Addr) (c:Nat),r= .returned (.slice A (n+1) c)∧n+1≤c∧Mem W b (fT A (n+1) c l:: .blk a t.cells 232::fs)
def Rf {r:Ending} (hr:r= .returned (.slice A (n+1) c)) (a:Mem W w (fT A (n+1) c l:: .blk m t.cells 232::fs)):ZB W n l m t fs r w:=by
 obtain ⟨b,d,h1,h2⟩:=Dg (a.own (i:=0) rfl)
 injection h1 with h3 h4 h5
 subst h5
 exact ⟨A,c,hr,h2,a⟩
def q44 (f:Mem W w fs) {i j n g off b d m c:Nat} {C:Array Value} {xs:List Value} {t:TypeId} (h:fs[i]?=some (.blk n C t)) (hi:fs[j]?=some (.row (.slice (some ⟨g,0,none⟩) m c) m xs 232 8)) (a:i≠j) (hm:0<c) {ln lc:Nat}:
  (callFunc 262 [aed (some ⟨n,0,none⟩) ln lc,.slice (some ⟨g,off,none⟩) b d].toArray).run abl w= .ok (.value (.bool false)) w:=by
 rw [run_callFunc_extern Tryz.func262 kr kr kr (e:=adO #[45,45] #[4]) kr]
 show ((adO #[45,45] #[4] #[.slice (some ⟨n,0,none⟩) ln lc,.slice (some ⟨g,off,none⟩) b d]).run abl w).andThen _=_
 rw [qqv f bX h hi a hm ln lc]
 rfl
theorem add0:(some (⟨g,0,none⟩:Addr)).map (·.add k)=some ⟨g,k,none⟩:=by rw [adW,acT,aco]
def q45 (l:List Tk) (i:Nat):(l.flatMap bI).take (i*8)=(l.take i).flatMap bI:=by
 rcases acj (abk l) i with h|h
 ·rw [abI (by rw [mQ];omega),abI om]
 ·have h1:abk ((l.take i).flatMap bI)=i*8:=by rw [mQ,abu];omega
  conv=>lhs;rw [←ab5 i l,abO,←h1]
  exact adP
def zjl (h:Mem W w fs) {j g n c i:Nat} {l:List Tk} (hi:fs[j]?=some (.row (.slice (some ⟨g,0,none⟩) n c) n (l.flatMap bI) 232 8)) (h1:i<abk l) (h2:abk l≤c):
  ∃b,(if c=i+1 then some (⟨g,0,none⟩:Addr) else (some (⟨g,0,none⟩:Addr)).map (·.add ((i+1)*8)))=some b∧∀k v,((l.drop (i+1)).flatMap bI)[k]?=some v→w.cell? (b.add k)=some v:=by
 by_cases e:c=i+1
 ·rw [if_pos e]
  refine ⟨_,rfl,λk v d=>?_⟩
  rw [acw om] at d
  cases d
 ·rw [if_neg e]
  refine ⟨⟨g,(i+1)*8,none⟩,by simp [Addr.add],?_⟩
  exact h.l9 (a:=i+1) (ys:=[]) (by rw [abN];exact hi) ⟨abk l,abI (by rw [abH];omega)⟩ om
def zf2 {xs ys B:List Value} (h:xs.length=k) {j:Nat} (a:k=j:=by rfl):(putAt (xs++ys) k B).take j=xs:=by
 subst a;subst h
 rw [KX,abz]
 exact adP
def q46 (z t:Tk) (g:Nat) (w:World) (a:w.heap[g]?=some (.cells t.cells 232 (0,0))):
    Calls abl 204 #[.agg z.cells,vP g 0] w (Is w (.bool (decide (z.id>t.id)))):=by
 refine (iX Tryz.func204 9) ?_
 exact (JP∘JE) λb c=>(Jp 1∘Jr∘Jg 0 O0∘Jf 0∘Jy (v:=vI t.id) (h:=by exact Pd rfl rfl kr (λ_ h=>h.zu a rfl))∘Jp 2∘gG∘Jj∘JZ) tH
def qz4 (A:Option Addr) (c:Nat) (l:List Tk) (t:Tk) (g:Nat) (w:World) (hr:Rd w w.heap.size 8 A (abk l) (l.flatMap bI)) (v:abk l≤1000000) (q:w.heap[g]?=some (.cells t.cells 232 (0,0))):
    Calls abl 203 #[abg A l c,.func (.func 204) #[] #[vP g 0]] w (rH w l t.id):=by
 refine (iX Tryz.func203 19) ?_
 refine (JP∘Jp 1∘Jj∘JQ∘JP∘Jp 1∘Jl∘Jp 1∘Jj∘JB) λa Z b=>?_
 refine qg (λp r s=>∃(k:Nat),(k≤abk l)∧(∀j,j<k→(l.getD j Tk.zero).id≤t.id)∧p=abk l-k∧Fr r 19 [] [(8,vI k),(7,vI (abk l)),(4,vI 0),(0,abg A l c),(1,.func (.func 204) #[] #[vP g 0])]∧Mem w s []) (m:=abk l-0) ⟨0,abx _,λj h=>by omega,rfl,Z.sub kr,b.pk []⟩ ?_
 clear Z b;rintro p a x ⟨k,y,e,rfl,Z,b⟩
 refine Jb Z b ((JP∘Jp 1∘Jj∘JQ) (Ji (λi=>?_) λi=>?_))
 ·
  have n:k<abk l:=by omega
  refine (JT∘aD∘JQ∘JB∘JP∘Jp 2∘aK∘Jr∘Jp 3) ?_
  obtain ⟨gA,z,rfl,_⟩:=hr.sat k
  refine (gZ k 8∘oQ Tk.cells qk hr fu k Tk.zero) λa Z b=>?_
  refine fo Z 5 rfl rfl ?_
  refine mY Z (f:=204) (vs:=[.agg ((l.getD k Tk.zero).cells)]) (fst:=[]) (caps:=[vP g 0]) rfl rfl rfl kr rfl de (q46 (l.getD k Tk.zero) t g _ (b.kR q)) ?_
  rintro _ u ⟨rfl,o⟩
  refine ⟨_,rfl,?_⟩
  replace b:=b.call o
  clear Z;intro a Z
  refine Jb Z b ((lT∘Jj) (Ji (λd=>?_) λd=>?_))
  ·
   exact (JT∘JP∘Jp 2∘aK∘Jj∘JZ∘aZ) λb=>qzn n e om b.below
  refine (JF∘aD∘JR∘cK 1∘Jp 1∘aK∘Jq) λa Z b=>?_
  exact ⟨_,om,k+1,by omega,qzp e om,rfl,Z.sub kr,b.pk []⟩
 exact (JF∘JX∘JG∘JP∘Jp 1∘Jj∘JZ∘aZ) λb=>qzo (λj B=>e j om) b.below
def qrr (W w:World) (A:Option Addr) (n c i:Nat) (l:List Tk) (t:Tk) (y:Nat) (fs:List Fact) (F:abk l=n) (G:n≤1000000) (hi:i≤n) (H:n≤c) (b:Mem W w (fT A n c l:: .blk y t.cells 232::fs)):
    Calls abl 205 #[.slice A n c,vI i,.slice (some ⟨y,0,none⟩) 1 1] w (ZB W n (iK l i t) y t fs):=by
 refine (yw b Tryz.func205 95) ?_
 refine (JP∘Jp 1∘Jr∘Jp 2∘Jy (h:=by exact aag bX (j:=i) rfl rfl rfl om)∘oI∘Jr∘Jp 1∘Jl∘Jp 1∘bG∘Jj∘JQ∘JP∘Jv 2 [(16,.bool false)]∘Jj∘JF∘aD∘JP∘Jp 1∘Jl∘Jp 1∘bG∘Jj∘JQ∘JP∘Jp 3∘bG∘Jj) (Je (λs=>?_) λs=>?_)
 ·
  refine (JT∘JP∘Jp 2∘JD (bI t) 0 (λ_ _=>aU) bX (hr:=by exact λb=>b.aW (i:=1) (n:=1) (size:=8) rfl rfl) (h1:=by exact Qn t)) λI J K z=>(JC (h:=by exact λb=>b.bM (i:=0) (ys:=((l++[t]).flatMap bI)) rfl (q4m l t))∘Jp 1∘dU∘Jj∘JZ) λa Z b=>?_
  have o:=b.pt 2 [0,1]
  exact kZ rfl Z rfl (Rf rfl (o.bM (i:=0) rfl (by rw [q9y (l:=l) (t:=t) (i:=i) om])))
 refine (JF∘aD∘JQ∘JP∘Jp 2∘cK 1∘Jp 1∘Jy (h:=by exact Yl.cap rfl rfl kr)∘Jp 1∘lT∘Jj) (Ji (λu=>?_) λu=>?_)
 ·
  repeat (first|clear Z|clear b)
  intro a Z b
  obtain ⟨gA,rfl⟩:=b.rat 0 i (hk:=(by omega:i<n))
  refine Jb Z b ((JT∘JP∘Jp 2∘Jy (h:=by exact aaf bX (j:=i) rfl rfl rfl om)∘Jp 2∘cK 1∘Jp 1∘Js) λa Z b=>?_)
  refine fo Z 8 rfl rfl ?_
  refine ql0 Z b (kn:= .i64) (xs:=(l.take i).flatMap bI) (m:=n+1-i) rfl bX kr rfl rfl ⟨by rw [mQ,abu];omega,b.l9 (j:=0) (a:=0) (l:=l) (ys:=[]) (by rw [abN];rfl) ⟨i,rfl⟩ (abx _)⟩ om om om om rfl de ?_
  clear Z;intro a L e g Z p B
  replace b:=p
  have d:i+(n+1-i)=n+1:=om
  replace b:=b.aT (i:=0) (ys:=((l.take i).flatMap bI++zT (n+1-i))) rfl d (rfl)
  replace Z:=Z.sp 40 (vS e (n+1) g) rfl (gF d)
  refine Jb Z b ((Jp 1∘aF∘Jr∘Jp 2∘Jy (v:= .slice (if g=i then some ⟨e,0,none⟩ else (some ⟨e,0,none⟩:Option Addr).map (·.add (i*8))) ((n+1)-i) (g-i)) (h:=by exact aag bX (j:=i) rfl rfl rfl om)∘Jo (.slice (some ⟨e,i*8,none⟩) (n+1-i) (g-i)) (by rw [if_neg om,add0])∘Jp 1) λa Z b=>?_)
  refine fo Z 4 rfl rfl ?_
  refine KW Z b (i:=0) (bI t) rfl bX rfl rfl rfl (by rw [qk,show afU 1 (n+1-i)=1 from ado om]) (λk v q=>by rw [acT,aco];exact b.cell (i:=2) rfl (by rw [←afw];exact q)) (Qn t) (by rw [qk];simp only [abm,mQ,Lx,abu];omega) rfl de ?_
  clear Z b;intro a M Z b
  refine Jb Z b ((qK∘Jj) λa Z b=>?_)
  refine wp_seq ?_
  refine Jb Z b ((Vs (.f .n) []) λC=>(Vp [0,1,2,5,6]∘xS 3 1∘Vy 4 (v:= .slice (if g=(i+1) then some ⟨e,0,none⟩ else (some ⟨e,0,none⟩:Option Addr).map (·.add ((i+1)*8))) ((n+1)- (i+1)) (g- (i+1))) (h:=by exact aag bX (j:=(i+1)) rfl rfl rfl om)∘Vo (.slice (some ⟨e,(i+1)*8,none⟩) (n+1- (i+1)) (g- (i+1))) (by rw [if_neg om,add0])∘Vy 7 (v:= .slice (if c=i then some ⟨gA,0,none⟩ else (some ⟨gA,0,none⟩:Option Addr).map (·.add (i*8))) (n-i) (c-i)) (h:=by exact aag bX (j:=i) rfl rfl rfl om)∘Vo (.slice (some ⟨gA,i*8,none⟩) (n-i) (c-i)) (by rw [if_neg om,add0])) λa Z b x=>?_)
  refine s_on Z 8 rfl ?_
  refine KW Z b (i:=0) ((l.drop i).flatMap bI) rfl bX rfl rfl rfl (by rw [mQ,abH,show afU (n-i) (n+1- (i+1))=n-i from ado om];omega) (b.l9 (j:=1) (a:=i) (ys:=[]) (by rw [abN];rfl) ⟨abk l,abI (by rw [abH];omega)⟩ om) (λv q=>F9 _ v q) (by rw [Kq (by rw [qk];simp only [abm,mQ,Lx,abu];omega),mQ,abH];simp only [abm,mQ,Lx,abu];omega) rfl de ?_
  clear Z b;intro a N Z b
  refine ay (b.pt 3 [1,2]) (λx=>?_)
  refine Vb Z b x ((Vd∘iA∘JP∘Jp 2∘gG∘Jj∘JZ) λa Z b=>?_)
  have o:=b.pt 3 [0,2]
  exact kZ rfl Z rfl (Rf rfl (o.bM (i:=0) rfl (by rw [←F];exact q9z om)))
 repeat (first|clear Z|clear b)
 intro a Z b
 obtain ⟨gA,rfl⟩:=b.rat 0 i (hk:=(by omega:i<n))
 refine Jb Z b ((JF∘aD∘JP∘Jp 3∘cK 1∘Jy (h:=by exact aaf bX (j:=n+1) rfl rfl rfl om)∘Jp 1∘lT∘Jq) λa Z b=>?_)
 obtain ⟨D,r,p⟩:=b.nY (i:=0) (m':=n+1) rfl om om
 replace b:=p;clear p
 replace r:abk D=8:=by rw [r];omega
 refine Jb Z b ((JG∘JQ∘JP∘Jp 4∘cK 1∘Jy (v:= .slice (if c=(i+1) then some ⟨gA,0,none⟩ else (some ⟨gA,0,none⟩:Option Addr).map (·.add ((i+1)*8))) ((n+1)- (i+1)) (c- (i+1))) (h:=by exact aag bX (j:=(i+1)) rfl rfl rfl om)∘Jo (.slice (some ⟨gA,(i+1)*8,none⟩) (n+1- (i+1)) (c- (i+1))) (by rw [if_neg om,add0])) λa Z b=>?_)
 refine fo Z 6 rfl rfl ?_
 refine q88 Z b rfl rfl (q44 b (i:=1) (j:=0) rfl rfl de om) rfl de ?_
 clear Z;intro a Z
 refine Jb Z b ((Jp 1∘aF∘Jj∘JT) λa Z b=>?_)
 refine wp_seq ?_
 refine Jb Z b ((Vs (.f .n) []) λE=>(Vp [0,1,2,5,6]∘xS 3 1∘Vy 4 (v:= .slice (if c=(i+1) then some ⟨gA,0,none⟩ else (some ⟨gA,0,none⟩:Option Addr).map (·.add ((i+1)*8))) ((n+1)- (i+1)) (c- (i+1))) (h:=by exact aag bX (j:=(i+1)) rfl rfl rfl om)∘Vo (.slice (some ⟨gA,(i+1)*8,none⟩) (n+1- (i+1)) (c- (i+1))) (by rw [if_neg om,add0])∘Vy 7 (v:= .slice (if c=i then some ⟨gA,0,none⟩ else (some ⟨gA,0,none⟩:Option Addr).map (·.add (i*8))) ((n+1)-i) (c-i)) (h:=by exact aag bX (j:=i) rfl rfl rfl om)∘Vo (.slice (some ⟨gA,i*8,none⟩) (n+1-i) (c-i)) (by rw [if_neg om,add0])) λa Z b x=>?_)
 refine s_on Z 8 rfl ?_
 refine KW Z b (i:=0) ((l.drop i).flatMap bI) rfl bX rfl rfl rfl (by rw [mQ,abH,show afU (n+1-i) (n+1- (i+1))=n+1- (i+1) from Nat.min_eq_right om];omega) (b.l9 (j:=0) (a:=i) (ys:=D) rfl ⟨abk l,abI (by rw [abH];omega)⟩ om) (λv q=>F9 _ v q) (by rw [mQ,abH,abm,mQ];omega) rfl de ?_
 clear Z b;intro a O Z b
 refine ay (b.pt 2 [1]) (λx=>?_)
 refine Vb Z b x ((Vd∘iA∘JP∘Jp 2∘Jy (v:= .slice (if c=i then some ⟨gA,0,none⟩ else (some ⟨gA,0,none⟩:Option Addr).map (·.add (i*8))) ((n+1)-i) (c-i)) (h:=by exact aag bX (j:=i) rfl rfl rfl om)∘Jo (.slice (some ⟨gA,i*8,none⟩) (n+1-i) (c-i)) (by rw [if_neg om,add0])∘Jp 1) λa Z b=>?_)
 refine fo Z 4 rfl rfl ?_
 refine KW Z b (i:=0) (bI t) rfl bX rfl rfl rfl (by rw [qk,show afU 1 (n+1-i)=1 from ado om]) (λk v q=>by rw [acT,aco];exact b.cell (i:=1) rfl (by rw [←afw];exact q)) (Qn t) (by rw [qk,Kq (by rw [mQ,abH,abm,mQ];omega),abm,mQ];omega) rfl de ?_
 clear Z b;intro a P Z b
 refine Jb Z b ((iA∘Jr∘Jp 2∘dU∘Jj∘JZ) λa Z b=>?_)
 have o:=b.pt 2 [0,1]
 exact kZ rfl Z rfl (Rf rfl (o.bM (i:=0) rfl (q4n om r)))
def qrs (W w:World) (g n c i:Nat) (l:List Tk) (fs:List Fact) (D:abk l=n) (u:n≤1000000) (hi:i<n) (x:n≤c) (d:Mem W w (fT (some ⟨g,0,none⟩) n c l::fs)):
    Calls abl 209 #[.slice (some ⟨g,0,none⟩) n c,vI i,vI ((i+1:Nat):Int)] w (λr y=>r= .returned (.slice (some ⟨g,0,none⟩) (n-1) c)∧Mem W y (fT (some ⟨g,0,none⟩) (n-1) c (l.eraseIdx i)::fs)):=by
 refine (yw d Tryz.func209 33) ?_
 refine (JP∘Jp 1∘Jr∘Jp 4∘Jl∘Jy (v:= .slice (if n=i then some ⟨g,0,none⟩ else (some ⟨g,0,none⟩:Option Addr).map (·.add (i*8))) ((i+1)-i) (n-i)) (h:=by exact aaY bX (i:=i) (j:=i+1) (q:=n) rfl rfl rfl rfl rfl om om om)∘iA∘Jj∘JQ∘JP∘Jp 3∘bG∘Jj) (Je (λe=>?_) λe=>?_)
 ·
  intro a Z d
  exact absurd e om
 refine (JF∘aD∘JP∘Jp 1∘Jl∘Jp 1∘bG∘Jj) λa Z d=>?_
 refine wp_seq ?_
 refine Jb Z d ((Vs (.f .n) []) λz=>(Vp [0,1,3,4]∘Vy 2 (h:=by exact aaf bX (j:=i) rfl rfl rfl om)∘Vy 5 (h:=by exact aag bX (j:=(i+1)) rfl rfl rfl om)) λa Z d s=>?_)
 refine s_on Z 6 rfl ?_
 obtain ⟨A,o,k⟩:=zjl d (j:=0) (i:=i) rfl (by omega:i<abk l) (by omega:abk l≤c)
 replace Z:=Z.sp 25 (.slice (some A) (n- (i+1)) (c- (i+1))) rfl (by rw [o])
 replace d:=d.Fz (i:=0) (m':=i) (ys:=(l.take i).flatMap bI) rfl om (q45 l i)
 refine qtj Z d (i:=0) (news:=(l.drop (i+1)).flatMap bI) rfl bX rfl rfl rfl (by rw [mQ,abH];omega) k om (λv B=>F9 _ v B) rfl de ?_
 clear Z d;intro a C Z d
 refine ay (d.pt 1 []) (λs=>?_)
 refine Vb Z d s ((Vp [7]∘Vd∘aF) ?_)
 have b:i+(n- (i+1))=n-1:=om
 intro a Z d
 replace d:=d.aT (i:=0) (ys:=(l.eraseIdx i).flatMap bI) rfl b (q90 om)
 replace Z:=Z.sp 0 (vS g (n-1) c) rfl (gF b)
 refine Jb Z d ((JP∘Jp 2∘Jl∘Jp 1∘Jy (v:= .slice (if c=n-1 then some ⟨g,0,none⟩ else (some ⟨g,0,none⟩:Option Addr).map (·.add ((n-1)*8))) (n- (n-1)) (c- (n-1))) (h:=by exact aal bX (i:=n-1) (j:=n) rfl rfl rfl rfl om om)∘Jo (.slice (some ⟨g,(n-1)*8,none⟩) (n- (n-1)) (c- (n-1))) (by rw [if_neg om,add0])) λa Z d=>?_)
 refine fo Z 5 rfl rfl ?_
 obtain ⟨E,p,m⟩:=d.nY (i:=0) (m':=n) rfl om om
 replace d:=m;clear m
 refine ze2 Z d (i:=0) rfl bX rfl rfl om (zjj _) (by rw [abm,p,mQ,afV,if_pos om];omega) rfl λt d=>?_
 replace d:=d.Fz (i:=0) (m':=n-1) (ys:=(l.eraseIdx i).flatMap bI) rfl om (zf2 (by rw [mQ,afV,if_pos om];omega))
 refine Jb Z d ((qK∘Jr∘Jp 2∘aK∘Jj∘JZ) λa Z d=>?_)
 exact kZ rfl Z rfl ⟨rfl,d⟩
end Go.Proofs.YtekiimhdnigmcaaGreatDoor
