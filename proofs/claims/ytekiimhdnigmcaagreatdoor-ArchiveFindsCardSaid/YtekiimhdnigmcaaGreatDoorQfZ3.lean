/- Parts. -/
import Derived.Test.YtekiimhdnigmcaaGreatDoorQfZ2
set_option linter.all false
set_option maxRecDepth 100000
set_option maxHeartbeats 1000000
namespace Go.Proofs.YtekiimhdnigmcaaGreatDoor
open Go.RowKit
open List renaming length→abl
open _root_.Go.Proofs.Tryz renaming prog→abm,func202→agJ
open _root_.List renaming length_append→abn,getD_eq_getElem?_getD→abo,getElem?_eq_getElem→abp,length_take→abr,length_map→abu,getElem?_eq_some_iff→abv,append_assoc→aby,mem_of_getElem?→abM,length_drop→abN,length_set→abO,take_of_length_le→abP,flatMap_cons→abT,append_nil→abU,mem_cons→ab0,length_cons→ab1,flatMap_append→ab2,mem_or_eq_of_mem_set→ab3,mem_map→ab6,take_append_drop→ab9,mem_cons_of_mem→aci,drop_of_length_le→acp,mem_cons_self→acs,getElem_of_mem→acB,getElem?_set_self→acO,perm_middle→adh,append_inj→adi,length→adz,take_left→adG,set_set→adX,pairwise_cons→ad3,getElem_mem→aeb,takeWhile_sublist→aef,getElem?_set_ne→aeo,takeWhile_cons→aer,takeWhile_append_dropWhile→aeI,map→afD,eraseIdx_sublist→afL,length_eraseIdx→afQ
open Nat renaming le_refl→abq,zero_le→abw,lt_or_ge→ab7,eq_zero_or_pos→ach,zero_add→acj,min_eq_left→adb,div_le_self→aew,strongRecOn→ae0,min→afP,max_def→afX
open Bool renaming and_eq_true→abF,eq_iff_iff→ace,true_and→acz,or_eq_true→adw,not_eq_true'→adA
open Int renaming toNat_natCast→abG
open Value renaming bool→abX,oneCell'→acd,slice→ad6,agg→aeH
open Builtin renaming zeroCells→abY
open Addr renaming add_mid→acN
open Extern.SlicesOverlaps renaming overlaps→adF
open Option renaming map_some→adO
open _root_.Array renaming getElem?_toList→aft
variable {w W:World} {r b d c i g m a e k f h n:Nat} {A:Option Addr} {x:aC} {α:Type} {F T fs:List Fact} {s:aW} {t:Tk} {l:List Tk} {be:Int}
def q2d (A:Option Addr) (n cp:Nat) (l:List Nat) (B:Nat) (w:World) (Q:aM B w) (D:B≤w.heap.size) (hr:Rd w w.heap.size 1 A n (l.map B8)) (hc:n≤cp) (hln:abl l=n) (hn:n≤9223372036854775807) (hl:∀b∈l,b<256) (hk1:iF l):
    Calls abm 134 #[.slice A n cp] w (NY 73 w (dw l)):=by
 refine (dV Tryz.func134 68) ?_
 refine (JP∘JA #[vB 0,vB 0,vI 0,vI 0,vN]) λw2 R=>(Jp 2∘Jr∘Jp 1∘JI (h:=by exact λc=>qx9 A n cp l _ (c.old hr) hln hn hl)) λwK E=>(Jp 1∘Jx∘Jx∘Jp 2∘Jj∘JQ∘JP∘Jp 2∘aK∘Jj) (Jh (λA8=>?_) λA8=>?_)
 ·
  refine (JT∘JP∘fu #[vB 0,vB 0,vI 0,vI 0,vN]∘Jp 1∘JV aL aT) λafe=>(Jp 2∘Jj∘JZ) λa Z c=>?_
  exact mR rfl Z (.cellS (i:=0) Z c rfl rfl aL rfl) (.tmp Z rfl) (.tmp Z rfl) (y8 (q19 om) c.below)
 have C:(aU l).2=0:=by omega
 obtain ⟨v1,v2,v3,v4⟩:=Wh C
 obtain ⟨d,t⟩:∃x,x=l.take (aU l).1:=⟨_,rfl⟩
 have o:Rd w w.heap.size 1 A (aU l).1 (d.map B8):=by rw [t];exact hr.Az om
 have p:∀b∈d,b<256:=by rw [t];exact tQ hl _
 have F:abl d=(aU l).1:=by rw [t,abr];omega
 have hk7:d.getD 7 0≠1:=by rw [t];exact hk1.take _ 7 (abq 7)
 refine (JF∘aD∘JP∘Jp 2∘Jy (h:=by exact aag aV (j:=(aU l).1) rfl rfl rfl om)∘Jp 1∘dQ∘Jq) ?_
 obtain ⟨gA,g,rfl,_⟩:=o.sat 0
 refine (JG∘JQ∘JB∘JP∘Jp 1∘JI (h:=by exact λc=>NM _ (aU l).1 cp d B _ (Q.mem c D) (c.le D) (c.old o) om F om p)) λNz E=>(Jp 2∘dQ∘Jj) (Ju (λM=>?_) λM=>?_)
 ·
  have hs:zl d=false:=by simpa using M
  refine (JT∘JP∘fu #[vB 0,vB 0,vI 0,vI 0,vN]∘JV aL aT) λN9=>(Jp 2∘Jj∘JZ) λa Z c=>?_
  exact mR rfl Z (.cellS (i:=0) Z c rfl rfl aL rfl) (.tmp Z rfl) (.tmp Z rfl) (y8 (AY C t (by unfold fH;rw [if_pos hs])) c.below)
 have hs:zl d=true:=by simpa using M
 refine (JF) λa Z c=>?_
 refine wp_seq ?_
 refine Jb Z c ((Vs .n []) λVg=>(Vp [0]∘Vy 1 (v:= .slice (if cp=4 then some ⟨gA,g,none⟩ else (some ⟨gA,g,none⟩:Option Addr).map (·.add (4*1))) (6-4) (cp-4)) (h:=by exact aal aV (i:=4) (j:=6) rfl rfl rfl rfl om om)∘Vo (.slice (some ⟨gA,g+4,none⟩) (6-4) (cp-4)) (by simp only [if_neg (show ¬cp=4 by omega),adO,acN,Nat.mul_one])∘Vy 2 (v:=vP gA (g+4)) (h:=by exact Yl.arrayAt (k:=2) rfl rfl kr om)∘Vy 3 (v:= .agg #[vB (d.getD 4 0),vB (d.getD 5 0)]) (h:=by exact Pe rfl rfl yZ rfl (λ_ h=>zh7 (k:=4) (l:=d) (h.old o) om))∘Vy 4 (v:= .agg #[vB 113,vB 116]) (h:=by exact Pe rfl rfl yZ rfl (λ_ h=>q8e Q h D))∘Vy 5 (v:= .bool (!(((d.getD 4 0:Int)==(113:Int))&& ((d.getD 5 0:Int)==(116:Int))))) (h:=by exact aa3 rfl rfl rfl kr kr)∘Vp [6]∘Vd∘aG) (Ju (λN=>?_) λN=>?_))
 ·
  simp only [adA,Bool.and_eq_false_iff,beq_eq_false_iff_ne] at N
  have G:¬(d.getD 4 0=113∧d.getD 5 0=116):=by omega
  refine (JT∘JP∘fu #[vB 0,vB 0,vI 0,vI 0,vN]∘JV aL aT) λOa=>(Jp 2∘Jj∘JZ) λa Z c=>?_
  exact mR rfl Z (.cellS (i:=0) Z c rfl rfl aL rfl) (.tmp Z rfl) (.tmp Z rfl) (y8 (AY C t (by unfold fH;rw [if_neg (by rw [hs];decide),if_pos G])) c.below)
 simp only [Bool.not_eq_false',abF,beq_iff_eq] at N
 have G:d.getD 4 0=113∧d.getD 5 0=116:=by omega
 refine (JF∘JP∘Jp 1∘Jy (v:=vP gA (g+6)) (h:=by exact Yl.indexAddr (ad:=⟨gA,g,none⟩) (y:=6) (sz:=1) rfl rfl rfl om kr)∘JH (getD_lt p (k:=6) (by first|omega|(simp;omega)))) λhx1=>(Jy (h:=by exact aad o 6 0 (by first|omega|(simp;omega)) rfl rfl)∘Jp 2∘gu∘Jj) (Jh (λhd34=>?_) λhd34=>?_)
 ·
  refine (JT∘JP∘fu #[vB 0,vB 0,vI 0,vI 0,vN]∘JV aL aT) λEO=>(Jp 2∘Jj∘JZ) λa Z c=>?_
  exact mR rfl Z (.cellS (i:=0) Z c rfl rfl aL rfl) (.tmp Z rfl) (.tmp Z rfl) (y8 (AY C t (by unfold fH;rw [if_neg (by rw [hs];decide),if_neg (λL=>L G),if_pos om])) c.below)
 refine (JF∘JP∘Jp 1∘Jy (v:=vP gA (g+7)) (h:=by exact Yl.indexAddr (ad:=⟨gA,g,none⟩) (y:=7) (sz:=1) rfl rfl rfl om kr)∘JH (getD_lt p (k:=7) (by first|omega|(simp;omega)))) λhx2=>(Jy (h:=by exact aad o 7 0 (by first|omega|(simp;omega)) rfl rfl)∘Jp 2) (Jh (λuh=>?_) λuh=>?_)
 ·
  refine (Jp 1∘Jy (v:=vP gA (g+7)) (h:=by exact Yl.indexAddr (ad:=⟨gA,g,none⟩) (y:=7) (sz:=1) rfl rfl rfl om kr)∘JH (getD_lt p (k:=7) (by first|omega|(simp;omega)))) λhx3=>(Jy (h:=by exact aad o 7 0 (by first|omega|(simp;omega)) rfl rfl)∘Jp 3∘aG∘Jq) λa Z c=>?_
  rcases hp:C8 (d.getD 7 0) ((d.take (abl d-4)).drop 8) with _|b
  ·
   refine Jb Z c (Jh (λO=>?_) λO=>?_)
   ·
    have r:d.getD 7 0≠1∧d.getD 7 0≠2:=by omega
    refine (JT∘JP∘fu #[vB 0,vB 0,vI 0,vI 0,vN]∘JV aL aT) λS=>(Jp 2∘Jj∘JZ) λa Z c=>?_
    exact mR rfl Z (.cellS (i:=0) Z c rfl rfl aL rfl) (.tmp Z rfl) (.tmp Z rfl) (y8 (AY C t (by unfold fH;rw [if_neg (by rw [hs];decide),if_neg (λL=>L G),if_neg om,if_pos r])) c.below)
   have r:d.getD 7 0=2:=by omega
   refine (JF∘aD) λa Z c=>?_
   refine q9 (λT U=>∃(H:Array Value) (q:Nat),Fr T 68 [] [(8,.bool false),(7,vP q 0),(40,.bool false),(34,.bool false),(26,.bool false),(21,.bool false),(0,.slice (some ⟨gA,g,none⟩) ((aU l).1) cp),(15,.bool false),(6,vI ((aU l).2)),(5,vI ((aU l).1)),(4,vI 0),(3,vI 0),(2,vP R 0)]∧Mem w U [.blk q H 85,.blk R #[vB 0,vB 0,vI 0,vI 0,vN] 85]∧(H.size=5)∧(∀v∈H.toList,v.oneCell'=true)) ?_ ?_
   ·
    refine Jb Z c ((Vs .n [12]) λP=>(Vp [0,3,4]∘Vy 1 (v:=vP gA (g+7)) (h:=by exact Yl.indexAddr (ad:=⟨gA,g,none⟩) (y:=7) (sz:=1) rfl rfl rfl om kr)∘VH (getD_lt p (k:=7) (by first|omega|(simp;omega)))) λhx8=>(Vy 2 (h:=by exact aad o 7 0 (by first|omega|(simp;omega)) rfl rfl)∘ED 5 4∘Vy 6 (v:= .slice (if cp=8 then some ⟨gA,g,none⟩ else (some ⟨gA,g,none⟩:Option Addr).map (·.add (8*1))) (((aU l).1-4)-8) (cp-8)) (h:=by exact aal aV (i:=8) (j:=(aU l).1-4) rfl rfl rfl rfl om om)) λa Z c s=>?_)
    refine zc [7,11] kr rfl ?_
    refine all_cons ?_ ?_
    ·refine qu Z (i:=7) rfl rfl ?_
     refine kL Z [vB (d.getD 7 0),.slice (if cp=8 then some ⟨gA,g,none⟩ else (some ⟨gA,g,none⟩:Option Addr).map (·.add (8*1))) (((aU l).1-4)-8) (cp-8)] rfl rfl ((y9 (d.getD 7 0) r _ (((aU l).1-4)-8) (cp-8) ((d.take (abl d-4)).drop 8) B _ (Q.mem c D) (c.le D) (c.old (by rw [F];exact o.wF (i:=8) (j:=(aU l).1-4) om om om)) om (by rw [abN,abr];omega) om (wH (tQ p _) _)).mono (λ_ _ h=>h.none hp)) ?_
     rintro _ J ⟨⟨H,rfl,u,h1⟩,E⟩
     refine ⟨_,rfl,?_⟩
     replace c:=c.call E
     clear Z;intro a Z
     refine ay (c.pk [0]) (λs=>?_)
     refine Vb Z c s ((Vp [8]∘Vx 9∘Vx 10∘VA 11 .n #[vB 0,vB 0,vI 0,vI 0,vN]) λV q=>λa Z c s=>?_)
     refine s_on Z 12 rfl (cK Z c 0 rfl rfl rfl rfl rfl aL rfl u (h1) λm c=>?_)
     refine dJ kr ?_
     refine ap Z (bM kr) [13] (bt 14 []) [(8,.bool false)] λa Z=>?_
     refine qd kr ?_
     exact ⟨H,q,Z.sub kr,c.pk [0,1],u,h1⟩
    refine all_cons ?_ all_nil
    refine qu Z (i:=11) rfl rfl ?_
    refine gN Z c #[vB 0,vB 0,vI 0,vI 0,vN] ?_
    clear Z c;intro a V q Z c
    refine ay (c.pk [1]) (λs=>?_)
    refine s_on Z 7 rfl ?_
    refine kL Z [vB (d.getD 7 0),.slice (if cp=8 then some ⟨gA,g,none⟩ else (some ⟨gA,g,none⟩:Option Addr).map (·.add (8*1))) (((aU l).1-4)-8) (cp-8)] rfl rfl ((y9 (d.getD 7 0) r _ (((aU l).1-4)-8) (cp-8) ((d.take (abl d-4)).drop 8) B _ (Q.mem c D) (c.le D) (c.old (by rw [F];exact o.wF (i:=8) (j:=(aU l).1-4) om om om)) om (by rw [abN,abr];omega) om (wH (tQ p _) _)).mono (λ_ _ h=>h.none hp)) ?_
    rintro _ J ⟨⟨H,rfl,u,h1⟩,E⟩
    refine ⟨_,rfl,?_⟩
    replace c:=c.call E
    clear Z;intro a Z
    refine ay (c.pk [1]) (λs=>?_)
    refine Vb Z c s ((Vp [8]∘Vx 9∘Vx 10) λa Z c s=>?_)
    refine s_on Z 12 rfl (cK Z c 0 rfl rfl rfl rfl rfl aL rfl u (h1) λm c=>?_)
    refine dJ kr ?_
    refine ap Z (bM kr) [13] (bt 14 []) [(8,.bool false)] λa Z=>?_
    refine qd kr ?_
    exact ⟨H,q,Z.sub kr,c.pk [0,1],u,h1⟩
   clear Z c;rintro a W ⟨H,q,Z,c,u,h1⟩
   refine Jb Z c ((JQ∘JP∘Jp 2∘bH∘Jj∘JT∘JP∘fu #[vB 0,vB 0,vI 0,vI 0,vN]∘JV aL fU) λX=>(Jp 2∘Jj∘JZ) λa Z c=>?_)
   exact mR rfl Z (.cellS (i:=1) Z c rfl rfl aL rfl) (.tmp Z rfl) (.tmp Z rfl) (y8 (AY C t (by unfold fH;rw [if_neg (by rw [hs];decide),if_neg (λL=>L G),if_neg om,if_neg om,hp])) c.below)
  ·
   refine Jb Z c (Jh (λO=>?_) λO=>?_)
   ·
    have r:d.getD 7 0≠1∧d.getD 7 0≠2:=by omega
    refine (JT∘JP∘fu #[vB 0,vB 0,vI 0,vI 0,vN]∘JV aL aT) λS=>(Jp 2∘Jj∘JZ) λa Z c=>?_
    exact mR rfl Z (.cellS (i:=0) Z c rfl rfl aL rfl) (.tmp Z rfl) (.tmp Z rfl) (y8 (AY C t (by unfold fH;rw [if_neg (by rw [hs];decide),if_neg (λL=>L G),if_neg om,if_pos r])) c.below)
   have r:d.getD 7 0=2:=by omega
   refine (JF∘aD) λa Z c=>?_
   refine q9 (λT U=>∃(K:Option Addr) (I:Nat) (q:Nat),Fr T 68 [] [(8,.bool true),(7,vP q 0),(40,.bool false),(34,.bool false),(26,.bool false),(21,.bool false),(0,.slice (some ⟨gA,g,none⟩) ((aU l).1) cp),(15,.bool false),(6,vI ((aU l).2)),(5,vI ((aU l).1)),(4,vI 0),(3,vI 0),(2,vP R 0)]∧Mem w U [.blk q (b.cells K I) 85,abk K b.evs I gZ 73 11,.blk R #[vB 0,vB 0,vI 0,vI 0,vN] 85]∧(abl b.evs≤I)) ?_ ?_
   ·
    refine Jb Z c ((Vs .n [12]) λP=>(Vp [0,3,4]∘Vy 1 (v:=vP gA (g+7)) (h:=by exact Yl.indexAddr (ad:=⟨gA,g,none⟩) (y:=7) (sz:=1) rfl rfl rfl om kr)∘VH (getD_lt p (k:=7) (by first|omega|(simp;omega)))) λafg=>(Vy 2 (h:=by exact aad o 7 0 (by first|omega|(simp;omega)) rfl rfl)∘ED 5 4∘Vy 6 (v:= .slice (if cp=8 then some ⟨gA,g,none⟩ else (some ⟨gA,g,none⟩:Option Addr).map (·.add (8*1))) (((aU l).1-4)-8) (cp-8)) (h:=by exact aal aV (i:=8) (j:=(aU l).1-4) rfl rfl rfl rfl om om)) λa Z c s=>?_)
    refine zc [7,11] kr rfl ?_
    refine all_cons ?_ ?_
    ·refine qu Z (i:=7) rfl rfl ?_
     refine AO Z c [vB (d.getD 7 0),.slice (if cp=8 then some ⟨gA,g,none⟩ else (some ⟨gA,g,none⟩:Option Addr).map (·.add (8*1))) (((aU l).1-4)-8) (cp-8)] ((y9 (d.getD 7 0) r _ (((aU l).1-4)-8) (cp-8) ((d.take (abl d-4)).drop 8) B _ (Q.mem c D) (c.le D) (c.old (by rw [F];exact o.wF (i:=8) (j:=(aU l).1-4) om om om)) om (by rw [abN,abr];omega) om (wH (tQ p _) _)).mono (λ_ _ h=>h.some hp)) λK I J z c a Z=>?_
     refine ay (c.pk [1]) (λs=>?_)
     refine Vb Z c s ((Vp [8]∘Vx 9∘Vx 10∘VA 11 (.f .n) #[vB 0,vB 0,vI 0,vI 0,vN]) λV q=>λa Z c s=>?_)
     refine s_on Z 12 rfl (cK Z c 0 rfl rfl rfl rfl rfl aL rfl rfl (sQ _ _ _) λm c=>?_)
     refine dJ kr ?_
     refine ap Z (bM kr) [13] (bt 14 []) [(8,.bool true)] λa Z=>?_
     refine qd kr ?_
     exact ⟨K,I,q,Z.sub kr,c.pk [0,1,2],z⟩
    refine all_cons ?_ all_nil
    refine qu Z (i:=11) rfl rfl ?_
    refine gN Z c #[vB 0,vB 0,vI 0,vI 0,vN] ?_
    clear Z c;intro a V q Z c
    refine ay (c.pk [1]) (λs=>?_)
    refine Vb Z c s ((VK 7 (.f .n) (h:=by exact λc=>(y9 (d.getD 7 0) r _ (((aU l).1-4)-8) (cp-8) ((d.take (abl d-4)).drop 8) B _ (Q.mem c D) (c.le D) (c.old (by rw [F];exact o.wF (i:=8) (j:=(aU l).1-4) om om om)) om (by rw [abN,abr];omega) om (wH (tQ p _) _)).mono (λ_ _ h=>h.some hp))) λK I J z=>(Vp [8]∘Vx 9∘Vx 10) λa Z c s=>?_)
    refine s_on Z 12 rfl (cK Z c 1 rfl rfl rfl rfl rfl aL rfl rfl (sQ _ _ _) λm c=>?_)
    refine dJ kr ?_
    refine ap Z (bM kr) [13] (bt 14 []) [(8,.bool true)] λa Z=>?_
    refine qd kr ?_
    exact ⟨K,I,q,Z.sub kr,c.pk [1,0,2],z⟩
   clear Z c;rintro a W ⟨K,I,q,Z,c,z⟩
   refine Jb Z c ((JQ∘JP∘Jp 2∘bH∘Jj∘JF∘aD∘JP∘d9 aL O0∘Jp 1∘JV aL iM (h1:=by exact sQ _ _ _)) λY=>(Jp 2∘Jj∘JZ) λa Z c=>?_)
   exact mR rfl Z (.cellS (i:=2) Z c rfl rfl aL rfl) (.tmp Z rfl) (.tmp Z rfl) (V7 (V8 (e:=0) C t (by unfold fH;rw [if_neg (by rw [hs];decide),if_neg (λL=>L G),if_neg om,if_neg om,hp])) (c.own (i:=1) rfl) z c.below)
 have r:d.getD 7 0=2:=by omega
 refine (Jp 6∘aG∘Jq) λa Z c=>?_
 rcases hp:C8 (d.getD 7 0) ((d.take (abl d-4)).drop 8) with _|b
 ·
  refine Jb Z c ((JG∘JF∘aD) λa Z c=>?_)
  refine q9 (λT U=>∃(H:Array Value) (q:Nat),Fr T 68 [] [(8,.bool false),(7,vP q 0),(40,.bool false),(34,.bool false),(26,.bool false),(21,.bool false),(0,.slice (some ⟨gA,g,none⟩) ((aU l).1) cp),(15,.bool false),(6,vI ((aU l).2)),(5,vI ((aU l).1)),(4,vI 0),(3,vI 0),(2,vP R 0)]∧Mem w U [.blk q H 85,.blk R #[vB 0,vB 0,vI 0,vI 0,vN] 85]∧(H.size=5)∧(∀v∈H.toList,v.oneCell'=true)) ?_ ?_
  ·
   refine Jb Z c ((Vs .n [12]) λP=>(Vp [0,3,4]∘Vy 1 (v:=vP gA (g+7)) (h:=by exact Yl.indexAddr (ad:=⟨gA,g,none⟩) (y:=7) (sz:=1) rfl rfl rfl om kr)∘VH (getD_lt p (k:=7) (by first|omega|(simp;omega)))) λhx16=>(Vy 2 (h:=by exact aad o 7 0 (by first|omega|(simp;omega)) rfl rfl)∘ED 5 4∘Vy 6 (v:= .slice (if cp=8 then some ⟨gA,g,none⟩ else (some ⟨gA,g,none⟩:Option Addr).map (·.add (8*1))) (((aU l).1-4)-8) (cp-8)) (h:=by exact aal aV (i:=8) (j:=(aU l).1-4) rfl rfl rfl rfl om om)) λa Z c s=>?_)
   refine zc [7,11] kr rfl ?_
   refine all_cons ?_ ?_
   ·refine qu Z (i:=7) rfl rfl ?_
    refine kL Z [vB (d.getD 7 0),.slice (if cp=8 then some ⟨gA,g,none⟩ else (some ⟨gA,g,none⟩:Option Addr).map (·.add (8*1))) (((aU l).1-4)-8) (cp-8)] rfl rfl ((y9 (d.getD 7 0) r _ (((aU l).1-4)-8) (cp-8) ((d.take (abl d-4)).drop 8) B _ (Q.mem c D) (c.le D) (c.old (by rw [F];exact o.wF (i:=8) (j:=(aU l).1-4) om om om)) om (by rw [abN,abr];omega) om (wH (tQ p _) _)).mono (λ_ _ h=>h.none hp)) ?_
    rintro _ J ⟨⟨H,rfl,u,h1⟩,E⟩
    refine ⟨_,rfl,?_⟩
    replace c:=c.call E
    clear Z;intro a Z
    refine ay (c.pk [0]) (λs=>?_)
    refine Vb Z c s ((Vp [8]∘Vx 9∘Vx 10∘VA 11 .n #[vB 0,vB 0,vI 0,vI 0,vN]) λV q=>λa Z c s=>?_)
    refine s_on Z 12 rfl (cK Z c 0 rfl rfl rfl rfl rfl aL rfl u (h1) λm c=>?_)
    refine dJ kr ?_
    refine ap Z (bM kr) [13] (bt 14 []) [(8,.bool false)] λa Z=>?_
    refine qd kr ?_
    exact ⟨H,q,Z.sub kr,c.pk [0,1],u,h1⟩
   refine all_cons ?_ all_nil
   refine qu Z (i:=11) rfl rfl ?_
   refine gN Z c #[vB 0,vB 0,vI 0,vI 0,vN] ?_
   clear Z c;intro a V q Z c
   refine ay (c.pk [1]) (λs=>?_)
   refine s_on Z 7 rfl ?_
   refine kL Z [vB (d.getD 7 0),.slice (if cp=8 then some ⟨gA,g,none⟩ else (some ⟨gA,g,none⟩:Option Addr).map (·.add (8*1))) (((aU l).1-4)-8) (cp-8)] rfl rfl ((y9 (d.getD 7 0) r _ (((aU l).1-4)-8) (cp-8) ((d.take (abl d-4)).drop 8) B _ (Q.mem c D) (c.le D) (c.old (by rw [F];exact o.wF (i:=8) (j:=(aU l).1-4) om om om)) om (by rw [abN,abr];omega) om (wH (tQ p _) _)).mono (λ_ _ h=>h.none hp)) ?_
   rintro _ J ⟨⟨H,rfl,u,h1⟩,E⟩
   refine ⟨_,rfl,?_⟩
   replace c:=c.call E
   clear Z;intro a Z
   refine ay (c.pk [1]) (λs=>?_)
   refine Vb Z c s ((Vp [8]∘Vx 9∘Vx 10) λa Z c s=>?_)
   refine s_on Z 12 rfl (cK Z c 0 rfl rfl rfl rfl rfl aL rfl u (h1) λm c=>?_)
   refine dJ kr ?_
   refine ap Z (bM kr) [13] (bt 14 []) [(8,.bool false)] λa Z=>?_
   refine qd kr ?_
   exact ⟨H,q,Z.sub kr,c.pk [0,1],u,h1⟩
  clear Z c;rintro a W ⟨H,q,Z,c,u,h1⟩
  refine Jb Z c ((JQ∘JP∘Jp 2∘bH∘Jj∘JT∘JP∘fu #[vB 0,vB 0,vI 0,vI 0,vN]∘JV aL fU) λX=>(Jp 2∘Jj∘JZ) λa Z c=>?_)
  exact mR rfl Z (.cellS (i:=1) Z c rfl rfl aL rfl) (.tmp Z rfl) (.tmp Z rfl) (y8 (AY C t (by unfold fH;rw [if_neg (by rw [hs];decide),if_neg (λL=>L G),if_neg om,if_neg om,hp])) c.below)
 ·
  refine Jb Z c ((JG∘JF∘aD) λa Z c=>?_)
  refine q9 (λT U=>∃(K:Option Addr) (I:Nat) (q:Nat),Fr T 68 [] [(8,.bool true),(7,vP q 0),(40,.bool false),(34,.bool false),(26,.bool false),(21,.bool false),(0,.slice (some ⟨gA,g,none⟩) ((aU l).1) cp),(15,.bool false),(6,vI ((aU l).2)),(5,vI ((aU l).1)),(4,vI 0),(3,vI 0),(2,vP R 0)]∧Mem w U [.blk q (b.cells K I) 85,abk K b.evs I gZ 73 11,.blk R #[vB 0,vB 0,vI 0,vI 0,vN] 85]∧(abl b.evs≤I)) ?_ ?_
  ·
   refine Jb Z c ((Vs .n [12]) λP=>(Vp [0,3,4]∘Vy 1 (v:=vP gA (g+7)) (h:=by exact Yl.indexAddr (ad:=⟨gA,g,none⟩) (y:=7) (sz:=1) rfl rfl rfl om kr)∘VH (getD_lt p (k:=7) (by first|omega|(simp;omega)))) λafh=>(Vy 2 (h:=by exact aad o 7 0 (by first|omega|(simp;omega)) rfl rfl)∘ED 5 4∘Vy 6 (v:= .slice (if cp=8 then some ⟨gA,g,none⟩ else (some ⟨gA,g,none⟩:Option Addr).map (·.add (8*1))) (((aU l).1-4)-8) (cp-8)) (h:=by exact aal aV (i:=8) (j:=(aU l).1-4) rfl rfl rfl rfl om om)) λa Z c s=>?_)
   refine zc [7,11] kr rfl ?_
   refine all_cons ?_ ?_
   ·refine qu Z (i:=7) rfl rfl ?_
    refine AO Z c [vB (d.getD 7 0),.slice (if cp=8 then some ⟨gA,g,none⟩ else (some ⟨gA,g,none⟩:Option Addr).map (·.add (8*1))) (((aU l).1-4)-8) (cp-8)] ((y9 (d.getD 7 0) r _ (((aU l).1-4)-8) (cp-8) ((d.take (abl d-4)).drop 8) B _ (Q.mem c D) (c.le D) (c.old (by rw [F];exact o.wF (i:=8) (j:=(aU l).1-4) om om om)) om (by rw [abN,abr];omega) om (wH (tQ p _) _)).mono (λ_ _ h=>h.some hp)) λK I J z c a Z=>?_
    refine ay (c.pk [1]) (λs=>?_)
    refine Vb Z c s ((Vp [8]∘Vx 9∘Vx 10∘VA 11 (.f .n) #[vB 0,vB 0,vI 0,vI 0,vN]) λV q=>λa Z c s=>?_)
    refine s_on Z 12 rfl (cK Z c 0 rfl rfl rfl rfl rfl aL rfl rfl (sQ _ _ _) λm c=>?_)
    refine dJ kr ?_
    refine ap Z (bM kr) [13] (bt 14 []) [(8,.bool true)] λa Z=>?_
    refine qd kr ?_
    exact ⟨K,I,q,Z.sub kr,c.pk [0,1,2],z⟩
   refine all_cons ?_ all_nil
   refine qu Z (i:=11) rfl rfl ?_
   refine gN Z c #[vB 0,vB 0,vI 0,vI 0,vN] ?_
   clear Z c;intro a V q Z c
   refine ay (c.pk [1]) (λs=>?_)
   refine Vb Z c s ((VK 7 (.f .n) (h:=by exact λc=>(y9 (d.getD 7 0) r _ (((aU l).1-4)-8) (cp-8) ((d.take (abl d-4)).drop 8) B _ (Q.mem c D) (c.le D) (c.old (by rw [F];exact o.wF (i:=8) (j:=(aU l).1-4) om om om)) om (by rw [abN,abr];omega) om (wH (tQ p _) _)).mono (λ_ _ h=>h.some hp))) λK I J z=>(Vp [8]∘Vx 9∘Vx 10) λa Z c s=>?_)
   refine s_on Z 12 rfl (cK Z c 1 rfl rfl rfl rfl rfl aL rfl rfl (sQ _ _ _) λm c=>?_)
   refine dJ kr ?_
   refine ap Z (bM kr) [13] (bt 14 []) [(8,.bool true)] λa Z=>?_
   refine qd kr ?_
   exact ⟨K,I,q,Z.sub kr,c.pk [1,0,2],z⟩
  clear Z c;rintro a W ⟨K,I,q,Z,c,z⟩
  refine Jb Z c ((JQ∘JP∘Jp 2∘bH∘Jj∘JF∘aD∘JP∘d9 aL O0∘Jp 1∘JV aL iM (h1:=by exact sQ _ _ _)) λY=>(Jp 2∘Jj∘JZ) λa Z c=>?_)
  exact mR rfl Z (.cellS (i:=2) Z c rfl rfl aL rfl) (.tmp Z rfl) (.tmp Z rfl) (V7 (V8 (e:=0) C t (by unfold fH;rw [if_neg (by rw [hs];decide),if_neg (λL=>L G),if_neg om,if_neg om,hp])) (c.own (i:=1) rfl) z c.below)
theorem ze.as {er rY:Nat} {R R':List Nat} {r:Ending} (h:ze w er R r W) (h1:er=rY) (h2:R=R'):ze w rY R' r W:=by subst h1;subst h2;exact h
theorem q2g (b:Bk) (a:b.Ok) (A:Option Addr) (c B:Nat) (w:World) (d:aM B w) (e:B≤w.heap.size) (hr:Rd w w.heap.size 11 A (abl b.evs) (b.evs.flatMap gZ)) (f:abl b.evs≤1000000) {er:Nat} {R:List Nat} (h1:b.err=er) (h2:b.out=R):Calls abm 106 #[.agg (b.cells A c)] w (ze w er R):=
 (Wd b a A c B w d e hr f).mono λ_ _ h=>h.as h1 h2
def q8n (A:Option Addr) (n cp:Nat) (l:List Nat) (B:Nat) (w:World) (g:aM B w) (i:B≤w.heap.size) (hr:Rd w w.heap.size 1 A n (l.map B8)) (hc:n≤cp) (a:abl l=n) (j:n≤9223372036854775807) (k:∀b∈l,b<256) (d:iF l) {b:Bk} {m er:Nat} (h:dw l=(b,m,er)):
  Calls abm 134 #[.slice A n cp] w λr e=>(∃A c,r= .returned (.tuple #[.agg (b.cells A c),.int .i64 (m:Int),.int .i64 (er:Int)])∧e.ownsRow w.heap.size 73 11 (.slice A (abl b.evs) c) (abl b.evs) (b.evs.flatMap gZ)∧abl b.evs≤c)∧Below w.heap.size w e:=
 (q2d A n cp l B w g i hr hc a j k d).mono λ_ _ f=>by rw [h] at f;exact f
def Bk.sz (b:Bk) (k:Nat):Nat:=12+abl (au b.cpu)+abl (au b.lost.toNat)+abl (au b.base.seq.toNat)+abl (au b.base.time.toNat)+abl (recs b.base (b.evs.take k))
def Bk.big (b:Bk) (k:Nat):Bool:=decide (4096<b.sz k+abl (au k))
def Bk.zkb (b:Bk):Nat:=((List.range (abl b.evs)).find? λi=>b.big (i+1)).getD (abl b.evs)
def Bk.fill (b:Bk):Nat×Nat:=if b.fits=false then (0,107) else (b.zkb,0)
structure Sb where
 e:Bool
 cpu:Nat
 lost:Nat
 b:Bs
 l:List Sm
structure Sb.Ok (x:Sb):Prop where
 cpu:x.cpu<256
 lost:x.lost<4294967296
 b:x.b.Ok
 l:∀y∈x.l,y.Ok
def Sb.cells (x:Sb) (A:Option Addr) (c:Nat):Array Value:= #[.bool x.e,vB (x.cpu:Int),vW (x.lost:Int),vI x.b.seq,vI x.b.time,.slice A (abl x.l) c]
theorem zia (x:Sb) (A:Option Addr) (c:Nat):∀v∈(x.cells A c).toList,v.oneCell'=true:=by intro v a;simp [Sb.cells] at a;rcases a with rfl|rfl|rfl|rfl|rfl|rfl<;>rfl
theorem uw:SI abm 113 6:=⟨by kernel_rfl,by kernel_rfl⟩
def Sb.es (x:Sb):List Ev:=kZ x.cpu x.b (x.l.take 60)
def Sb.made (x:Sb):Bk:=if x.e=true then ⟨2,0,0,1+eH x.b.seq 281474976710657,[]⟩ else ⟨1,x.cpu%64,if abl x.es=0∧x.lost=0 then 1 else (x.lost:Int),0,x.es⟩
def WQ (w:World) (b:Bk) (r:Ending) (a:World):Prop:=
 (∃A c,r= .returned (.agg (b.cells A c))∧a.ownsRow w.heap.size 73 11 (.slice A (abl b.evs) c) (abl b.evs) (b.evs.flatMap gZ)∧abl b.evs≤c)∧Below w.heap.size w a
def KC {b d:Bk} (h:b=d) (a:W.ownsRow w.heap.size 73 11 (.slice A (abl d.evs) c) (abl d.evs) (d.evs.flatMap gZ)) (hc:abl d.evs≤c) (hb:Below w.heap.size w W):WQ w b (.returned (.agg (d.cells A c))) W:=by
 subst h;exact ⟨⟨A,c,rfl,a,hc⟩,hb⟩
def WR (x:Int):0≤eH x 281474976710657∧eH x 281474976710657≤281474976710656:=by unfold eH;rw [if_neg om];omega
def Oo {x:Sb} (h:x.Ok):∀y∈x.l.take 60,y.Ok:=λy a=>h.l y (List.mem_of_mem_take a)
def q8s {x:Sb} (h:x.Ok):Chain (x.cpu%64) none x.b.based x.es:=qs7 h.cpu x.b (Oo h)
def zib (x:Sb):abl x.es≤60:=by grind [Sb.es,qyb,kZ]
def WS:∀(es:List Ev) (cpu:Nat) (p:Option Ev) (b:Bs),Chain cpu p b es→∀e∈es,e.Ok∧e.cpu=cpu
 |[],_,_,_,_,e,a=>by cases a
 |x::r,cpu,p,b,h,e,a=>by
  obtain ⟨h1,h2,h3,h4⟩:=h
  rcases ab0.1 a with rfl|a
  ·exact ⟨h1.ok,h2⟩
  ·exact WS r cpu _ _ h4 e a
def WT {x:Sb} (h:x.Ok):x.made.Ok∧x.made.err=0∧abl x.made.evs≤60:=by
 unfold Sb.made
 split
 ·have q:=WR x.b.seq
  have c:Bk.Ok ⟨2,0,0,1+eH x.b.seq 281474976710657,[]⟩:=⟨by show 2<256;decide,by show 0<256;decide,by unfold aR;simp,by unfold aR;show _≤1+eH _ _∧1+eH _ _≤_;omega,by intro e k;cases k⟩
  have l:Bk.fits ⟨2,0,0,1+eH x.b.seq 281474976710657,[]⟩=true:=by
   unfold Bk.fits
   rw [if_neg (by show ¬2=1;omega),if_pos rfl]
   unfold Bk.uf
   rw [decide_eq_true_eq]
   exact ⟨by show 1≤1+eH _ _;omega,by show 1+eH _ _≤_;omega,rfl,rfl,rfl⟩
  exact ⟨c,Wi l (by have:=NS ⟨2,0,0,1+eH x.b.seq 281474976710657,[]⟩;simp only [List.length_nil] at this;omega),by show 0≤60;omega⟩
 ·have d:=q8s h
  have f:=WS _ _ _ _ d
  have o:=zib x
  have m:=h.lost
  have p:=Oe x.b
  have g:=(Vz p.1 d).1
  obtain ⟨a,n,i,j⟩:∃a:Int,(if abl x.es=0∧x.lost=0 then 1 else (x.lost:Int))=a∧(0≤a∧a≤4294967296)∧(abl x.es=0→0<a):=by
   refine ⟨_,rfl,?_,?_⟩
   ·split<;>omega
   ·intro h0;split<;>omega
  rw [n]
  have c:Bk.Ok ⟨1,x.cpu%64,a,0,x.es⟩:=⟨by show 1<256;decide,by show x.cpu%64<256;omega,by unfold aR;show _≤a∧a≤_;omega,by unfold aR;simp,λe k=>(f e k).1⟩
  have l:Bk.fits ⟨1,x.cpu%64,a,0,x.es⟩=true:=by
   unfold Bk.fits
   rw [if_pos rfl]
   unfold Bk.oM
   rw [decide_eq_true_eq]
   refine ⟨by show (gD x.es).2=0;rw [g],by show x.cpu%64<64;omega,i.1,by show a≤_;omega,rfl,?_⟩
   by_cases h0:abl x.es=0
   ·rw [VN h0,decide_eq_true_eq];exact j h0
   ·rw [VL h0,decide_eq_true_eq]
    exact (f _ (qe Ev.zero om)).2
  exact ⟨c,Wi l (by have:=NS ⟨1,x.cpu%64,a,0,x.es⟩;simp only at this;omega),o⟩
theorem WU (l:List Sm):l.take (abl (l.take 60))=l.take 60:=by grind
def EU (n:Nat) (l:List Sm) (h:abl l=n):Value.int .i64 (if ((60:Int)<(n:Int)) then 60 else (n:Int))=vI ((abl (l.take 60):Nat):Int):=by
 congr 1
 rw [abr]
 split<;>omega
theorem R5 (s:cO) (c:s.st.av.Ok) (f:bN s.st) (hc:eP s.st) (w:World) (g:dZ w s.st):
    Calls abm 44 #[.agg s.cells] w (Is w (vI (bV s:Int))):=by
 refine (dV Tryz.func44 17) ?_
 refine (JP∘JE) λl m=>(Jp 1∘Jj∘JQ∘JB∘JP∘Jg 0 O0∘Jp 2) (Ji (λd=>?_) λd=>?_)
 ·
  exact (Jp 5∘aG∘Jj∘JT∘JP∘Jp 1∘Jj∘JZ∘aZ) λb=>by exact ⟨by rw [XL om];rfl,b.below⟩
 refine (Jg 0 O0∘Jp 3∘aG∘Jj) (Ji (λe=>?_) λe=>?_)
 ·
  exact (JT∘JP∘Jp 1∘Jj∘JZ∘aZ) λb=>by exact ⟨by rw [XL om];rfl,b.below⟩
 refine (JF∘JP∘Jf 1∘Jy (v:= .agg #[vI s.st.ak,vQ s.st.aj,abh s.st.gA s.st.gs s.st.gc,abh s.st.lA s.st.cl s.st.lc,abh s.st.uA s.st.cu s.st.uc,abh s.st.tA s.st.ts s.st.tc,abh s.st.sA s.st.rs s.st.sc]) (h:=by exact Pe rfl rfl fK rfl (λ_ h=>h.sub (i:=0) rfl 1 rfl))∘Jo (.agg s.st.cells) (by exact rfl)∘JI (h:=by exact λb=>qtr s.st c f _ (g.old b))) λj k=>(Jp 2∘gu∘Jj) (Ju (λa=>?_) λa=>?_)
 ·
  exact (JT∘JP∘Jp 1∘Jj∘JZ∘aZ) λb=>by exact ⟨by rw [q3j om (by simpa using a)];rfl,b.below⟩
 exact (JF∘aD∘JP∘Jp 1∘Jj∘JZ∘aZ) λb=>by exact ⟨by rw [XM om (by simpa using a)];rfl,b.below⟩
def qrz (s:cO) (u:s.st.av.Ok) (C:bN s.st) (hc:eP s.st) (w:World) (D:dZ w s.st):
    Calls abm 107 #[.agg s.cells] w (Pb w (bV s) (iP s)):=by
 refine Kh (vs:=[.agg s.cells]) Tryz.func107 rfl rfl kr (σ0:=[(0,.agg s.cells)]) rfl ?_
 intro a Z
 have b:=Mem.start w
 refine Jb Z b ((JP∘JE) λE k=>(Jp 2∘Jj∘JQ∘JP∘d9 zn O0∘JI (h:=by exact λb=>R5 s u C hc _ (D.old b))) λQ H=>(Jp 1∘bH∘Jr∘Jp 2∘aK∘Jj) (Jh (λx=>?_) λx=>?_))
 ·
  refine (JT∘JP∘Jp 3∘Jj∘JZ) λa Z b=>?_
  refine UJ ?_
  exact tV rfl Z rfl rfl (qyv _ rfl (q88 om) b.below)
 have n:bV s=0:=by omega
 have o:=Dk n
 refine (JF∘aD∘JP∘JA #[vN]) λI l=>(Jq∘JC (h:=by exact λb=>b.nil 41 1)∘JG∘JQ∘JP∘d9 zn O2∘JL (h:=by exact λb=>q56 s _)) ?_
 rintro b _ J ⟨K,gp,rfl,hm⟩
 refine ⟨_,rfl,_,b.join hm,?_⟩
 refine (aK∘Jj∘JB) λa Z b=>?_
 refine Kg Z b (λF=>∃(q:List Nat) (c:Option Addr) (co:Nat),(q=dS 7 (aF s))∧(abl q≤co)∧F=[abj c q co bq 41 1,.blk l #[abh c q co] 117,.blk k s.cells 50]) (λ_ _=>False) rfl kr ?_ ?_ (λ_ _ _ _ _ h=>h.elim)
 ·
  clear Z b;intro p B g E y b
  have L:qw7 abm w p s (λi F=>∃(q:List Nat) (c:Option Addr) (co:Nat),(q=dS i (aF s))∧(abl q≤co)∧F=(.obj p (.loop (g .ready none)):: .obj B (.deferred (some [])):: [abj c q co bq 41 1,.blk l #[abh c q co] 117,.blk k s.cells 50])):=by
   rintro i F fr R z cr ⟨q,c,co,t,j,rfl⟩ hi M b
   replace b:=b.pt (fs':=(.obj p (.loop (g .ready none)):: abj z (aF s i) cr bq 41 1:: .obj B (.deferred (some [])):: abj c q co bq 41 1:: .blk l #[abh c q co] 117:: .blk k s.cells 50::fr)) 6 [1,0,2,3,4,5]
   refine Nf (v1:= .string (qb i)) (v2:= .slice z (abl (aF s i)) cr) y b de de λa Z=>?_
   refine qy ?_
   refine Jb Z b ((Jp 1∘Jq) λa Z b=>?_)
   have N:abl q≤600000:=by rw [t];exact XI o om
   have O:=q87 o hi
   refine ⟨(abj z (aF s i) cr bq 41 1:: .obj B (.deferred (some [])):: abj c q co bq 41 1:: .blk l #[abh c q co] 117:: .blk k s.cells 50::fr),b.pt (fs':=(.obj p (.loop (g .ready none)):: abj z (aF s i) cr bq 41 1:: .obj B (.deferred (some [])):: abj c q co bq 41 1:: .blk l #[abh c q co] 117:: .blk k s.cells 50::fr)) 6 [0,1,2,3,4,5],λS b=>?_⟩
   refine wpIn_block ?_
   refine qy ?_
   refine Jb Z b ((Jc O4∘Jp 1∘JD ((aF s i).map bq) 3 (λ_ _=>qD) kK (hr:=by exact λb=>b.rd (i:=1) rfl) (h1:=by exact uL _)) λP d e m=>(JW rW aT) λG=>(ow∘Jq) λa Z b=>?_)
   have f:abl q+(abl (aF s i))=abl (q++(aF s i)):=nk rfl
   rw [f] at m
   replace b:=b.aY (i:=3) (ys:=(q++(aF s i)).map bq) rfl f (List.map_append.symm)
   rw [f] at b
   refine ⟨(.obj B (.deferred (some [])):: abj d (q++(aF s i)) e bq 41 1:: .blk l #[abh d (q++(aF s i)) e] 117:: .blk k s.cells 50::fr),b.pt (fs':=(.obj p (.loop (g .busy none)):: .obj B (.deferred (some [])):: abj d (q++(aF s i)) e bq 41 1:: .blk l #[abh d (q++(aF s i)) e] 117:: .blk k s.cells 50::fr)) 6 [0,2,3,4,5],λI b=>?_⟩
   exact ⟨(.obj p (.loop (g .ready none)):: .obj B (.deferred (some [])):: abj d (q++(aF s i)) e bq 41 1:: .blk l #[abh d (q++(aF s i)) e] 117:: .blk k s.cells 50:: []),b,rfl,⟨(q++(aF s i)),d,e,by rw [t,qz],m,rfl⟩⟩
  refine (qz8 w E K gp p s u C D hc o _ _ L ⟨[],none,0,rfl,abq _,rfl⟩ (b.pk [2,3,0,1,4,5,6])).mono ?_
  rintro r T ⟨v,rfl,U,A,⟨q,c,co,t,j,rfl⟩⟩
  exact ⟨v,rfl,.inl ⟨_,⟨q,c,co,t,j,rfl⟩,A⟩⟩
 clear Z b;rintro B a V _ ⟨q,c,co,t,j,rfl⟩ Z b
 refine Jb Z b ((JG∘JP∘Jc O2∘Jp 2∘Jj∘JZ) λa Z b=>?_)
 refine Ew Z b (i:=0) rfl λa W Z b=>?_
 exact tV rfl Z rfl rfl (qyu (rY:=0) n.symm (by rw [zL n,t];rfl) (b.own (i:=1) rfl) j b.below)
def L8:EI abm 298 435 (.agg #[.string (ByteArray.mk #[]),vI 0,vI 0]) 3 32:=⟨by kernel_rfl,by kernel_rfl,rfl,by omega⟩
theorem qz9 (s:cO) (f:s.st.av.Ok) (r:bN s.st) (hc:eP s.st) (B:Nat) (w:World) (v:aM B w) (t:B≤w.heap.size) (x:dZ w s.st):
    Calls abm 46 #[.agg s.cells] w (ze w (bV s) (cZ s)):=by
 refine (dV Tryz.func46 22) ?_
 refine (JP∘JE) λO P=>(Jp 2∘Jr∘d9 zn O0∘JK (h:=by exact λc=>qrz s f r hc _ (x.old c))) λy z Q A=>(Jp 1∘Jx∘Jx∘Jp 2∘Jj∘JQ∘JP∘Jp 2∘aK∘Jj) (Jh (λg=>?_) λg=>?_)
 ·
  exact (JT∘JP∘Jp 3∘Jj∘JZ∘bG) λc=>qyw _ rfl (XO om) c.below
 have d:bV s=0:=by omega
 have j:=Dk d
 have k:=OZ j
 rw [←zL d] at k
 have C:=q9a j
 have l:=q89 s
 rw [←zL d] at l
 have D:=zk (iP s)
 refine (JF∘aD∘JP∘JU aV #[vB 113,vB 115,vB 1]) λE F=>λa Z c=>?_
 refine fo Z 1 rfl rfl ?_
 refine Xv Z c 0 (e:=5) rfl rfl rfl kr kr rfl de ?_
 clear Z c;intro a G Z c
 refine Jb Z c ((Jp 1∘JK (h:=by exact λc=>Kl y (abl (iP s)) z (iP s) _ (c.rd (i:=1) rfl) (by rw [zL d];exact KT f r) (by have:=k;omega))) λH I J u=>λa Z c=>?_)
 refine fo Z 4 rfl rfl ?_
 refine Ul Z c (xs:=([113,115,1]:List Nat).map B8) (news:=((iP s).flatMap au).map B8) rfl aV rfl rfl (c.uM (i:=1) (size:=1) (n:=3) rfl rfl) (c.rd (i:=0) rfl) om om (λh=>by cases h) om om rfl de ?_
 clear Z c;intro a K m o Z c p
 have b:3+abl ((iP s).flatMap au)=abl (dx s):=zit d
 rw [b] at p
 replace c:=c.aY (i:=0) (ys:=(dx s).map B8) rfl b (qyx d)
 replace Z:=Z.sp 18 (vS m (abl (dx s)) o) rfl (iy b)
 exact Jb Z c ((JK (h:=by exact λc=>NK (some ⟨m,0,none⟩) (abl (dx s)) o (dx s) B _ (v.mem c t) (c.le t) (c.rd (i:=0) rfl) rfl om (XK s))) λL M N q=>(Jx∘Jx∘Jp 2∘Jj∘JZ∘bG) λc=>qyy (rY:=0) d.symm (Dl d).symm (c.own (i:=0) rfl) q c.below)
theorem q6x (x:Sb) (s:x.Ok) (A:Option Addr) (c:Nat) (w:World) (hr:Rd w w.heap.size 11 A (abl x.l) (x.l.flatMap qW)) (hc:abl x.l≤c) (P:abl x.l≤9223372036854775807):
    Calls abm 43 #[.agg (x.cells A c)] w (WQ w x.made):=by
 refine (dV Tryz.func43 42) ?_
 refine (JP∘JE) λQ G=>(JA #[vB 0,vB 0,vI 0,vI 0,vN]) λR H=>(Jq) ?_
 have E:=s.lost
 have I:=s.cpu
 obtain ⟨es,q⟩:∃es,es=x.es:=⟨_,rfl⟩
 refine (JG∘JQ∘JP∘Jg 0 O1∘Jj) (Ju (λr=>?_) λr=>?_)
 ·
  refine (JT∘JP∘Jf 3∘Jg 0 O1∘JL (h:=by exact λe=>Og x.b.seq 281474976710657 s.b.seq (by unfold aR;omega) _)) ?_
  rintro e _ S ⟨rfl,rfl⟩
  refine ⟨_,rfl,_,e,?_⟩
  refine (Jp 1∘Jo (vI (1+eH x.b.seq 281474976710657)) (by have h:=WR x.b.seq;rw [IntWalk.i64_in _ om])∘fu #[vB 2,vB 0,vI 0,vI (1+eH x.b.seq 281474976710657),vN]∘JV aL aT) λJ=>(qE∘Jj∘JZ) λa Z e=>?_
  exact iq rfl Z (.cellS (i:=0) Z e rfl rfl aL rfl) (KC (b:=x.made) (d:=⟨2,0,0,1+eH x.b.seq 281474976710657,[]⟩) (A:=none) (c:=0) (by unfold Sb.made;rw [if_pos r]) (World.ownsRow_nil _ _ _ _) (abq _) e.below)
 refine (JF∘aD) λa Z e=>?_
 refine q9 (λM N=>∃(m:Option Addr) (g:Nat) (u:Nat),Fr M 42 [] [(3,vP u 0),(5,.bool false),(2,vP H 0),(1,vP G 0)]∧Mem w N [.blk u #[vB 1,vB (x.cpu%64:Nat),vI x.lost,vI 0,abh m es g] 85,abk m es g gZ 73 11,.blk H #[vB 0,vB 0,vI 0,vI 0,vN] 85,.blk G (x.cells A c) 113]∧(abl es≤g)) ?_ ?_
 ·
  refine Jb Z e ((Vs .n [20]) λO=>(Vf 0 1∘Vf 3 2∘Vf 6 1∘Vf 8 3∘Vf 10 5∘Vf 12 5∘Vc 1 O1∘Vp [2]∘Vo (vB (x.cpu%64:Nat)) (by exact za .u8 _ 64)∘Vc 4 O1∘Vw 5 .i64∘Vc 7 O1∘Vy 9 (v:= .agg #[vI x.b.seq,vI x.b.time]) (h:=by exact Pe rfl rfl ⟨kr,kr⟩ rfl (λ_ h=>h.sub (i:=1) rfl 3 rfl))∘Vc 11 O1∘Vc 13 O1∘Vl 14∘Vy 15 (v:=vI (if (60:Int)<(abl x.l:Int) then 60 else (abl x.l:Int))) (h:=by exact Yl.min rfl rfl rfl)∘Vo (vI (abl (x.l.take 60))) (by exact EU _ _ rfl)∘Vy 16 (h:=by exact aag zB (j:=abl (x.l.take 60)) rfl rfl rfl (by rw [abr];omega))) λa Z e p=>?_)
  refine zc [17,19] kr rfl ?_
  refine all_cons ?_ ?_
  ·refine qu Z (i:=17) rfl rfl ?_
   refine kL Z [vB x.cpu,.agg #[vI x.b.seq,vI x.b.time],abh A (x.l.take 60) c] rfl rfl (Wz x.cpu s.cpu x.b s.b _ _ _ (x.l.take 60) (Oo s) _ (by have h:=(e.old hr).upto (k:=abl (x.l.take 60)) (by rw [abr];omega);rw [Ky qW 11 Db] at h;rwa [WU] at h) (by rw [abr];omega) (by rw [abr];omega)) ?_
   rintro _ F ⟨⟨v,rfl,y⟩,z⟩
   rw [show kZ x.cpu x.b (x.l.take 60)=x.es from rfl,←q] at y
   revert p;revert e;revert a;repeat (first|clear Z|clear e|clear p)
   intro a Z e p
   obtain ⟨m,g,rfl,o⟩:=CO y
   refine ⟨_,rfl,?_⟩
   replace e:=e.bL z y
   clear Z;intro a Z
   refine ay (e.pk [1,2]) (λp=>?_)
   refine Vb Z e p ((Vy 18 (v:= .agg #[vB 1,vB (x.cpu%64:Nat),vI x.lost,vI 0,abh m es g]) (h:=by exact Yl.build (vs:=[(0,vB 1),(1,vB (x.cpu%64:Nat)),(2,vI x.lost),(4,abh m es g)]) rfl kr kr)∘VA 19 (.f .n) #[vB 0,vB 0,vI 0,vI 0,vN]) λK u=>λa Z e p=>?_)
   refine s_on Z 20 rfl (cK Z e 0 rfl rfl rfl rfl rfl aL rfl rfl (by simp [acd]) λB e=>?_)
   refine dJ kr ?_
   refine qd kr ?_
   exact ⟨m,g,u,Z.sub kr,e.pk [0,1,2,3],o⟩
  refine all_cons ?_ all_nil
  refine qu Z (i:=19) rfl rfl ?_
  refine gN Z e #[vB 0,vB 0,vI 0,vI 0,vN] ?_
  clear Z e;intro a K u Z e
  refine ay (e.pk [1,2]) (λp=>?_)
  refine s_on Z 17 rfl ?_
  refine kL Z [vB x.cpu,.agg #[vI x.b.seq,vI x.b.time],abh A (x.l.take 60) c] rfl rfl (Wz x.cpu s.cpu x.b s.b _ _ _ (x.l.take 60) (Oo s) _ (by have h:=(e.old hr).upto (k:=abl (x.l.take 60)) (by rw [abr];omega);rw [Ky qW 11 Db] at h;rwa [WU] at h) (by rw [abr];omega) (by rw [abr];omega)) ?_
  rintro _ F ⟨⟨v,rfl,y⟩,z⟩
  rw [show kZ x.cpu x.b (x.l.take 60)=x.es from rfl,←q] at y
  revert p;revert e;revert a;repeat (first|clear Z|clear e|clear p)
  intro a Z e p
  obtain ⟨m,g,rfl,o⟩:=CO y
  refine ⟨_,rfl,?_⟩
  replace e:=e.bL z y
  clear Z;intro a Z
  refine ay (e.pk [2,3]) (λp=>?_)
  refine Vb Z e p ((Vy 18 (v:= .agg #[vB 1,vB (x.cpu%64:Nat),vI x.lost,vI 0,abh m es g]) (h:=by exact Yl.build (vs:=[(0,vB 1),(1,vB (x.cpu%64:Nat)),(2,vI x.lost),(4,abh m es g)]) rfl kr kr)) λa Z e p=>?_)
  refine s_on Z 20 rfl (cK Z e 1 rfl rfl rfl rfl rfl aL rfl rfl (by simp [acd]) λB e=>?_)
  refine dJ kr ?_
  refine qd kr ?_
  exact ⟨m,g,u,Z.sub kr,e.pk [1,0,2,3],o⟩
 clear Z e;rintro a K ⟨m,g,u,Z,e,o⟩
 refine Jb Z e ((JQ∘JP∘Jg 4 O0∘Jl∘Jp 2) (Je (λC=>?_) λC=>?_))
 ·
  refine (Jg 2 O0∘Jp 2∘aG∘Jj) (Je (λD=>?_) λD=>?_)
  ·
   refine (JT∘JR∘Jf 2∘JW aT iM) λL=>(mW∘Jr∘d9 aL O0∘JV aL iM) λt=>(mW∘Jj∘JZ) λa Z e=>?_
   exact iq rfl Z (.cellS (i:=2) Z e rfl rfl aL rfl) (KC (b:=x.made) (d:=⟨1,x.cpu%64,1,0,es⟩) (by unfold Sb.made;rw [if_neg (by rw [r];decide),←q,if_pos ⟨by omega,by omega⟩]) (e.own (i:=1) rfl) o e.below)
  refine (JF∘aD∘JP∘d9 aL O0∘JV aL iM) λt=>(mW∘Jj∘JZ) λa Z e=>?_
  exact iq rfl Z (.cellS (i:=2) Z e rfl rfl aL rfl) (KC (b:=x.made) (d:=⟨1,x.cpu%64,(x.lost:Int),0,es⟩) (by unfold Sb.made;rw [if_neg (by rw [r];decide),←q,if_neg om]) (e.own (i:=1) rfl) o e.below)
 refine (Jp 4∘aG∘Jj∘JF∘aD∘JP∘d9 aL O0∘JV aL iM) λt=>(mW∘Jj∘JZ) λa Z e=>?_
 exact iq rfl Z (.cellS (i:=2) Z e rfl rfl aL rfl) (KC (b:=x.made) (d:=⟨1,x.cpu%64,(x.lost:Int),0,es⟩) (by unfold Sb.made;rw [if_neg (by rw [r];decide),←q,if_neg om]) (e.own (i:=1) rfl) o e.below)
def zM {v w:Nat} (h:bK v r w=true):1≤w∧w≤65536∧r<w∧(v<18446744073709551615∨r=0):=by
 unfold bK at h
 rw [decide_eq_true_eq] at h
 omega
def ziw {v w:Nat} (h:1≤w∧w≤65536∧r<w∧(v<18446744073709551615∨r=0)):bK v r w=true:=by
 unfold bK
 rw [decide_eq_true_eq]
 omega
theorem Px {z:Nat} (a:c<18446744073709551616) (hz:1≤z∧z≤65536):(⟨c,0,z⟩:En).Ok:=⟨ziw ⟨hz.1,hz.2,by show 0<z;omega,.inr rfl⟩,a⟩
theorem FY (x:En) (a:x.Ok) (w:World):Calls abm 218 #[.agg x.cells] w (Is w (.bool true)):=by
 have h1:=zM a.1
 have h2:=OI x.v x.r x.w a.2 om om w
 rw [a.1] at h2
 exact h2
def qy5 (z:Nat) (hz:1≤z∧z≤65536) (w:World):Calls abm 267 #[vI z] w (Is w (.bool true)):=by
 have h2:=Xw z w
 rw [decide_eq_true om] at h2
 exact h2
def q3y (x:En) (e:x.Ok) (d:Nat) (q:d≤4294967295) (w:World):
    Calls abm 266 #[.agg x.cells,vI d] w (Is w (.agg (x.add d).cells)):=by
 have j:=zM e.1
 have k:=e.2
 have l:=aew (d*1048576+x.r) x.w
 have o:=Nat.mod_lt (d*1048576+x.r) (show x.w>0 by omega)
 refine (iX Tryz.func266 42) ?_
 refine (JP∘JE) λs t=>(JA #[vQ 0,vW 0,vW 0]) λu y=>(Jr∘Jp 1∘Jw .u64∘Jp 1∘Jo (vQ (d*1048576:Nat)) (by exact wE om om)∘Jg 1 O1∘Jw .u64∘Ja∘Jp 1∘aG∘Jj) λa Z b=>?_
 refine wp_seq ?_
 refine Jb Z b ((Vs .n []) λp=>(Vp [0]∘Vf 1 2∘Vp [5]∘Vf 6 2∘Vc 2 O1∘Vw 3 .u64∘Vy 4 (v:=vQ ((d*1048576+x.r)/x.w:Nat)) (h:=by exact abf (m:=(d*1048576+x.r)) (n:=x.w) rfl rfl rfl om (by show _≤18446744073709551615;omega))∘Vp [10]∘Vc 7 O1∘Vw 8 .u64∘Vy 9 (v:=vQ ((d*1048576+x.r)%x.w:Nat)) (h:=by exact aat (m:=(d*1048576+x.r)) (n:=x.w) rfl rfl rfl om)∘Vp [11]∘Vd∘dQ∘JQ∘JP∘Jp 1∘Jg 0 O1∘Jp 1∘Jo (vQ (18446744073709551615-x.v:Nat)) (by exact wE om om)∘Jp 1∘dQ∘Jj) (Ji (λc=>?_) λc=>?_))
 ·
  refine (JT∘JP∘Jg 2 O1∘fu #[vQ 18446744073709551615,vW 0,vW x.w]∘JV qm aT) λf=>(mI∘Jj∘JZ) λa Z b=>?_
  exact iq rfl Z (.cellS (i:=0) Z b rfl rfl qm rfl) (⟨by rw [show x.add d=⟨mZ,0,x.w⟩ from if_pos (by show 18446744073709551615-x.v≤_;omega)];rfl,b.below⟩)
 refine (JF∘aD∘JP∘Jg 0 O1∘Jp 1∘Ja∘Jp 1∘Jv 1 [(38,vW (IntKind.u32.wrap (((d*1048576+x.r)%x.w:Nat):Int)))]∘Jo (vW ((d*1048576+x.r)%x.w:Nat)) (by exact AA rfl om)∘Jg 2 O1∘fu #[vQ (x.v+((d*1048576+x.r)/x.w):Nat),vW ((d*1048576+x.r)%x.w:Nat),vW x.w]∘JV qm aT) λg=>(iE∘Jj∘JZ) λa Z b=>?_
 exact iq rfl Z (.cellS (i:=0) Z b rfl rfl qm rfl) (⟨by rw [show x.add d=⟨x.v+(d*1048576+x.r)/x.w,(d*1048576+x.r)%x.w,x.w⟩ from if_neg (by show ¬18446744073709551615-x.v≤_;omega)];rfl,b.below⟩)
def qy6 (d:Int) (w:World):Calls abm 265 #[vI d] w (Is w (.bool (decide (0≤d∧d≤4294967295)))):=by
 refine (dV Tryz.func265 9) ?_
 refine (JP∘Jp 1∘Jr∘Jp 3) (Ji (λa=>?_) λa=>?_)
 ·
  exact (Jp 4∘aG∘Jj∘JZ∘aZ) λb=>Bg om b.below
 exact (Jp 4∘aG∘Jj∘JZ∘aZ) λb=>lC om b.below
def qy7 (d:Nat) (a:d≤4294967295) (w:World):Calls abm 265 #[vI d] w (Is w (.bool true)):=by
 have h2:=qy6 d w
 rw [decide_eq_true om] at h2
 exact h2
def q9g (x:En) (e:x.Ok) (d:Nat) (f:d≤4294967295) (w:World):
    Calls abm 210 #[.agg x.cells,vI d] w (Is w (.tuple #[.agg (x.add d).cells,vI 0])):=by
 refine (iX Tryz.func210 18) ?_
 refine (JP∘JE) λl m=>(JA #[vQ 0,vW 0,vW 0]) λn o=>(Jp 1∘Jj∘JQ∘JP∘d9 qm O1∘JI (h:=by exact λb=>FY x e _)) λp c=>(Jp 3∘JI (h:=by exact λb=>qy7 d f _)) λj c=>(Jp 2∘aG∘Jj∘JF∘aD∘JP∘d9 qm O1∘Jp 1∘JI (h:=by exact λb=>q3y x e d f _)) λk c=>(JV qm aT (h1:=by exact lS (x.add d))) λg=>(Jp 1∘dQ∘Jj∘JZ) λa Z b=>?_
 exact eZ rfl Z (.cellS (i:=0) Z b rfl rfl qm rfl) (.tmp Z rfl) (⟨rfl,b.below⟩)
def Dp (x:En) (e:x.Ok) (z:Nat) (hz:1≤z∧z≤65536) (w:World):
    Calls abm 212 #[.agg x.cells,vI z] w (Is w (.tuple #[.agg (⟨x.v,0,z⟩:En).cells,vI 0])):=by
 refine (iX Tryz.func212 20) ?_
 refine (JP∘JE) λg j=>(JA #[vQ 0,vW 0,vW 0]) λk l=>(Jp 1∘Jj∘JQ∘JP∘d9 qm O1∘JI (h:=by exact λb=>FY x e _)) λm c=>(Jp 3∘JI (h:=by exact λb=>qy5 z hz _)) λf c=>(Jp 2∘aG∘Jj∘JF∘aD∘JP∘Jg 0 O1∘Jp 1∘Jv 1 [(18,vW (IntKind.u32.wrap (z:Int)))]∘Jo (vW z) (by exact AA rfl om)∘fu #[vQ x.v,vW 0,vW z]∘JV qm aT) λd=>(Jp 1∘gu∘Jj∘JZ) λa Z b=>?_
 exact eZ rfl Z (.cellS (i:=0) Z b rfl rfl qm rfl) (.tmp Z rfl) (⟨rfl,b.below⟩)
def Ym (a b:Nat) (c:a<18446744073709551616) (hb:b<18446744073709551616) (w:World):
    Calls abm 264 #[vQ a,vQ b] w (Is w (vQ ((a-b:Nat):Int))):=by
 refine (iX Tryz.func264 10) ?_
 exact (JP∘Jp 1∘Jr∘Jp 3∘Jy (v:=vQ (if (b:Int)<(a:Int) then (b:Int) else (a:Int))) (h:=by exact Yl.min rfl rfl rfl)∘Jp 1∘Jo (vQ (a-b:Nat)) (by split<;>exact (wE (m:=a-b) om om))∘Jp 1∘l8∘Jj∘JZ) sP
def zfa (a b:Nat) (c:a<18446744073709551616) (hb:b<18446744073709551616) (w:World):
    Calls abm 304 #[vQ a,vQ b] w (Is w (vQ ((a+min b (18446744073709551615-a):Nat):Int))):=by
 refine (iX Tryz.func304 11) ?_
 exact (JP∘Jp 1∘Jr∘Jp 4∘Jo (vQ (18446744073709551615-a:Nat)) (by exact wE om om)∘Jy (v:=vQ (if ((18446744073709551615-a:Nat):Int)<(b:Int) then ((18446744073709551615-a:Nat):Int) else (b:Int))) (h:=by exact Yl.min rfl rfl rfl)∘Jo (vQ (min b (18446744073709551615-a):Nat)) (by rw [Nat.min_def];split<;>split<;>first|rfl|(congr 1;omega))∘Jp 1∘Jo (vQ (a+min b (18446744073709551615-a):Nat)) (by exact wE om om)∘Jp 1∘aG∘Jj∘JZ) sP
def Yn (b z:Nat) (f:b<18446744073709551616) (hz:1≤z∧z≤65536) (w:World):
    Calls abm 201 #[vQ b,vI z] w (Is w (.tuple #[.agg (⟨b,0,z⟩:En).cells,vI 0])):=by
 refine (iX Tryz.func201 23) ?_
 refine (JP∘JA #[vQ 0,vW 0,vW 0]) λk l=>(Jp 1∘Jr∘Jp 2∘Jv 1 [(9,vW (IntKind.u32.wrap (z:Int)))]∘Jo (vW z) (by exact AA rfl om)∘fu #[vQ b,vW 0,vW z]∘JA #[vQ 0,vW 0,vW 0]) λm n=>(JV qm aT) λd=>(gu∘Jj∘JQ∘JP∘Jg 2 O0∘Jw .i64∘Jp 2∘Jo (.bool false) (by simp)∘Jp 1∘d9 qm O0∘JI (h:=by exact λc=>FY (⟨b,0,z⟩:En) (Px f hz) _)) λg j=>(Jp 2∘aG∘Jj∘JF∘aD∘JP∘d9 qm O0∘JV qm fU) λe=>(Jp 1∘aK∘Jj∘JZ) λa Z c=>?_
 exact eZ rfl Z (.cellS (i:=1) Z c rfl rfl qm rfl) (.tmp Z rfl) (⟨rfl,c.below⟩)
def q3z (x:En) (f:x.Ok) (b cr:Nat) (k:b<18446744073709551616) (hc:cr<18446744073709551616) (w:World):
    Calls abm 207 #[.agg x.cells,vQ b,vQ cr] w (Is w (.tuple #[.agg (x.woken b cr).cells,vI 0])):=by
 have l:=f.2
 refine (xD Tryz.func207 25) ?_
 refine (JP∘JE) λo p=>(JA #[vQ 0,vW 0,vW 0]) λq r=>(Jp 1∘Jj∘JQ∘JP∘d9 qm O1∘JI (h:=by exact λc=>FY x f _)) λm e=>(Jp 1∘bH∘Jj∘JF∘aD∘JQ∘JP∘Jp 2∘JI (h:=by exact λc=>Ym b cr k hc _)) λn e=>(Jp 1∘dQ∘Jr∘Jp 1∘Jg 0 O1∘Jp 1∘bH∘Jj) (Ji (λd=>?_) λd=>?_)
 ·
  refine (JT∘JP∘Jp 1∘Jg 2 O1∘fu #[vQ (b-cr:Nat),vW 0,vW x.w]∘JV qm aT) λg=>(Jp 1∘dQ∘Jj∘JZ) λa Z c=>?_
  exact eZ rfl Z (.cellS (i:=0) Z c rfl rfl qm rfl) (.tmp Z rfl) (⟨by rw [show x.woken b cr=⟨b-cr,0,x.w⟩ from if_pos om];rfl,c.below⟩)
 refine (JF∘aD∘JP∘d9 qm O1∘JV qm aT (h1:=by exact lS x)) λj=>(Jp 1∘aK∘Jj∘JZ) λa Z c=>?_
 exact eZ rfl Z (.cellS (i:=0) Z c rfl rfl qm rfl) (.tmp Z rfl) (⟨by rw [show x.woken b cr=x from if_neg om],c.below⟩)
def q30 (x:En) (l:x.Ok) (fr to:Nat) (o:fr<18446744073709551616) (f:to<18446744073709551616) (w:World):
    Calls abm 269 #[.agg x.cells,vQ fr,vQ to] w (Is w (.tuple #[.agg (x.moved fr to).cells,vI 0])):=by
 have p:=l.2
 refine (xD Tryz.func269 35) ?_
 refine (JP∘JE) λt u=>(JA #[vQ 0,vW 0,vW 0]) λy z=>(Jp 1∘Jj∘JQ∘JP∘d9 qm O1∘JI (h:=by exact λb=>FY x l _)) λA g=>(Jp 1∘bH∘Jj∘JF∘aD∘JQ∘JP∘Jg 0 O1∘Jp 2∘bH∘Jj) (Ji (λj=>?_) λj=>?_)
 ·
  have c:r9 x.v fr to=to+min (x.v-fr) (18446744073709551615-to):=if_pos om
  refine (JT∘JR∘Jp 1∘Jg 0 O1∘Jp 1∘Js∘JI (h:=by exact λb=>zfa to (x.v-fr) f om _)) λq g=>(Jf 0) λa Z b=>?_
  refine fo Z 7 rfl rfl ?_
  refine pQ Z b (i:=1) rfl rfl rfl rfl kr rfl rfl (by simp [En.cells]) λm b=>?_
  refine Jb Z b ((iE∘Jj∘JQ∘JP∘Jg 0 O1∘Jp 1∘aK∘Jj) (Je (λd=>?_) λd=>?_))
  ·
   refine (JT∘JR∘Jf 1∘JW fU fU) λk=>(mW∘Jr∘Jy (v:= .agg #[vQ (to+min (x.v-fr) (18446744073709551615-to):Nat),vW 0,vW x.w]) (h:=by exact Pe rfl rfl qm rfl (λ_ h=>qi (h.blk (i:=1) rfl)))∘JV qm aT) λe=>(Jp 1∘aK∘Jj∘JZ) λa Z b=>?_
   exact eZ rfl Z (.cellS (i:=0) Z b rfl rfl qm rfl) (.tmp Z rfl) (⟨by rw [show x.moved fr to=⟨r9 x.v fr to,0,x.w⟩ from congrArg (λr=>(⟨_,r,_⟩:En)) (if_pos (by rw [c];show _=18446744073709551615;omega)),c];rfl,b.below⟩)
  refine (JF∘aD∘JP∘Jy (v:= .agg #[vQ (to+min (x.v-fr) (18446744073709551615-to):Nat),vW x.r,vW x.w]) (h:=by exact Pe rfl rfl qm rfl (λ_ h=>qi (h.blk (i:=1) rfl)))∘JV qm aT) λe=>(Jp 1∘aK∘Jj∘JZ) λa Z b=>?_
  exact eZ rfl Z (.cellS (i:=0) Z b rfl rfl qm rfl) (.tmp Z rfl) (⟨by rw [show x.moved fr to=⟨r9 x.v fr to,x.r,x.w⟩ from congrArg (λr=>(⟨_,r,_⟩:En)) (if_neg (by rw [c];show ¬_=18446744073709551615;omega)),c];rfl,b.below⟩)
 have c:r9 x.v fr to=to- (fr-x.v):=(if_neg om).trans om
 refine (JF∘JR∘Jp 2∘Jg 0 O1∘Js∘JI (h:=by exact λb=>Ym to (fr-x.v) f om _)) λs g=>(Jf 0) λa Z b=>?_
 refine fo Z 7 rfl rfl ?_
 refine pQ Z b (i:=1) rfl rfl rfl rfl kr rfl rfl (by simp [En.cells]) λn b=>?_
 refine Jb Z b ((iE∘Jj∘JQ∘JP∘Jg 0 O1∘Jp 1∘aK∘Jj) (Je (λd=>?_) λd=>?_))
 ·
  refine (JT∘JR∘Jf 1∘JW fU fU) λk=>(mW∘Jr∘Jy (v:= .agg #[vQ (to- (fr-x.v):Nat),vW 0,vW x.w]) (h:=by exact Pe rfl rfl qm rfl (λ_ h=>qi (h.blk (i:=1) rfl)))∘JV qm aT) λe=>(Jp 1∘aK∘Jj∘JZ) λa Z b=>?_
  exact eZ rfl Z (.cellS (i:=0) Z b rfl rfl qm rfl) (.tmp Z rfl) (⟨by rw [show x.moved fr to=⟨r9 x.v fr to,0,x.w⟩ from congrArg (λr=>(⟨_,r,_⟩:En)) (if_pos (by rw [c];show _=18446744073709551615;omega)),c];rfl,b.below⟩)
 refine (JF∘aD∘JP∘Jy (v:= .agg #[vQ (to- (fr-x.v):Nat),vW x.r,vW x.w]) (h:=by exact Pe rfl rfl qm rfl (λ_ h=>qi (h.blk (i:=1) rfl)))∘JV qm aT) λe=>(Jp 1∘aK∘Jj∘JZ) λa Z b=>?_
 exact eZ rfl Z (.cellS (i:=0) Z b rfl rfl qm rfl) (.tmp Z rfl) (⟨by rw [show x.moved fr to=⟨r9 x.v fr to,x.r,x.w⟩ from congrArg (λr=>(⟨_,r,_⟩:En)) (if_neg (by rw [c];show ¬_=18446744073709551615;omega)),c];rfl,b.below⟩)
theorem wQ {l:List α} {t u:α} (h:l[i]?=some t):(l.set i u)[i]?=some u:=acO (abv.1 h).1
theorem kY.split {a b:α} {l m:List α} (h:kY a b l m):∃p q,l=p++a::q∧m=p++b::q:=by
 induction h with
 |z=>exact ⟨[],_,rfl,rfl⟩
 |s _ c=>obtain ⟨p,q,rfl,rfl⟩:=c;exact ⟨_::p,q,rfl,rfl⟩
def q31 (W w:World) (g d tc i:Nat) (ts:List Tk) (t:Tk) (ht:ts[i]?=some t) (q:abl ts=d) (x:En) (k:x.Ok) (fs:List Fact) (b:Mem W w (fT (some ⟨g,0,none⟩) d tc ts::fs)):
    Calls abm 202 #[.pointer (some ⟨g,i*8,none⟩),.agg x.cells] w (λr l=>r= .returned (.tuple #[])∧Mem W l (fT (some ⟨g,0,none⟩) d tc (ts.set i (t.put x))::fs)):=by
 have m:=(abv.1 ht).1
 have o:=zM k.1
 refine (lQ b agJ 20) ?_
 refine (JP∘JE) λs u=>(Jj∘Vs (.t (.f .n)) [18]) λp=>(Vp [0,1,2]∘Vf 3 0∘Vf 5 1∘Vf 7 2∘Vc 4 O0∘Vc 6 O0∘Vc 8 O0∘Vw 9 .i64∘Vn 10∘Vf 11 6) λa Z b c=>?_
 refine s_on Z 12 rfl ?_
 refine zd Z b (i:=1) rfl rfl rfl rfl kr rfl rfl (by rw [pO bI 8 qk];omega) λe b=>?_
 replace b:=b.bR (i:=1) (ys:=(ts.set i ({t with v:=x.v})).flatMap bI) rfl (tL bI 8 qk ts i t ({t with v:=x.v}) ht 6 de _ rfl)
 refine ay (b.pt 2 [0]) (λc=>?_)
 refine Vb Z b c ((Vn 13∘Vf 14 7) λa Z b c=>?_)
 refine s_on Z 15 rfl ?_
 refine zd Z b (i:=1) rfl rfl rfl rfl kr rfl rfl (by rw [pO bI 8 qk,abO];omega) λh b=>?_
 replace b:=b.bR (i:=1) (ys:=(ts.set i ({t with v:=x.v,r:=x.r})).flatMap bI) rfl ((tL bI 8 qk (ts.set i ({t with v:=x.v})) i ({t with v:=x.v}) ({t with v:=x.v,r:=x.r}) (wQ ht) 7 de _ rfl).trans (by rw [adX]))
 refine ay (b.pt 2 [0]) (λc=>?_)
 refine Vb Z b c ((Vn 16∘Vf 17 2) λa Z b c=>?_)
 refine s_on Z 18 rfl ?_
 refine zd Z b (i:=1) rfl rfl rfl rfl kr rfl rfl (by rw [pO bI 8 qk,abO];omega) λj b=>?_
 replace b:=b.bR (i:=1) (ys:=(ts.set i (t.put x)).flatMap bI) rfl ((tL bI 8 qk (ts.set i ({t with v:=x.v,r:=x.r})) i ({t with v:=x.v,r:=x.r}) (t.put x) (wQ ht) 2 de _ rfl).trans (by rw [adX]))
 refine dJ kr ?_
 refine qd kr ?_
 exact gM rfl Z ⟨rfl,b.pt 2 [1]⟩
def K7 {tc:Nat} {ts:List Tk} {L:List Fact} (t:Tk) (x:En) (O:kY (fT (some ⟨g,0,none⟩) c tc ts) (fT (some ⟨g,0,none⟩) c tc (ts.set i (t.put x))) F L) (b:Mem W w F) (ht:ts[i]?=some t) (d:abl ts=c) (e:x.Ok):
  Calls abm 202 #[.pointer (some ⟨g,i*8,none⟩),.agg x.cells] w (λr a=>r= .returned (.tuple #[])∧Mem W a L):=by
 obtain ⟨p,q,rfl,rfl⟩:=O.split
 exact (q31 W w g c tc i ts t ht d x e (p++q) (b.perm adh)).mono λr a h=>⟨h.1,h.2.perm List.perm_middle.symm⟩
def qy8 (W w:World) (g:Nat) (t:Tk) (x:En) (i:x.Ok) (fs:List Fact) (b:Mem W w (.blk g t.cells 232::fs)):
    Calls abm 202 #[vP g 0,.agg x.cells] w (λr j=>r= .returned (.tuple #[])∧Mem W j (.blk g (t.put x).cells 232::fs)):=by
 have k:=zM i.1
 replace b:Mem W w (.blk g #[vI t.id,vI t.group,vI t.weight,vI t.cpu,vQ t.mask,.bool t.ready,vQ t.v,vW t.r] 232::fs):=b
 refine (lQ b agJ 20) ?_
 refine (JP∘JE) λm o=>(Jj∘Vs (.t (.f .n)) [18]) λl=>(Vp [0,1,2]∘Vf 3 0∘Vf 5 1∘Vf 7 2∘Vc 4 O0∘Vc 6 O0∘Vc 8 O0∘Vw 9 .i64∘Vn 10∘Vf 11 6) λa Z b c=>?_
 refine s_on Z 12 rfl (fE Z b 1 λd b=>?_)
 refine ay (b.pt 2 [0]) (λc=>?_)
 refine Vb Z b c ((Vn 13∘Vf 14 7) λa Z b c=>?_)
 refine s_on Z 15 rfl (fE Z b 1 λe b=>?_)
 refine ay (b.pt 2 [0]) (λc=>?_)
 refine Vb Z b c ((Vn 16∘Vf 17 2) λa Z b c=>?_)
 refine s_on Z 18 rfl (fE Z b 1 λh b=>?_)
 refine dJ kr ?_
 refine qd kr ?_
 exact gM rfl Z ⟨rfl,b.pt 2 [1]⟩
def zfb {L:List Fact} (t:Tk) (x:En) (O:kY (.blk g t.cells 232) (.blk g (t.put x).cells 232) F L) (b:Mem W w F) (c:x.Ok):
  Calls abm 202 #[vP g 0,.agg x.cells] w (λr a=>r= .returned (.tuple #[])∧Mem W a L):=by
 obtain ⟨p,q,rfl,rfl⟩:=O.split
 exact (qy8 W w g t x c (p++q) (b.perm adh)).mono λr a h=>⟨h.1,h.2.perm List.perm_middle.symm⟩
def K8 (id:Int) (w:World):Calls abm 197 #[vI id] w (Is w (.bool (decide (1≤id∧id≤65535)))):=by
 refine (dV Tryz.func197 9) ?_
 refine (JP∘Jp 1∘Jr∘Jp 3) (Ji (λa=>?_) λa=>?_)
 ·
  exact (Jp 4∘aG∘Jj∘JZ∘aZ) λb=>Bg om b.below
 exact (Jp 4∘aG∘Jj∘JZ∘aZ) λb=>lC om b.below
def zfc (d:Nat) (cp:Int) (cr:Nat) (gA:Option Addr) (e gc:Nat) (lA:Option Addr) (f lc:Nat) (uA:Option Addr) (g uc:Nat) (tA:Option Addr) (i tc:Nat) (sA:Option Addr) (j sc:Nat) (c:Int) (w:World)
    (hm:w.heap[d]?=some (.cells #[vI cp,vQ cr,.slice gA e gc,.slice lA f lc,.slice uA g uc,.slice tA i tc,.slice sA j sc,.bool true] 273 (0,0))):
    Calls abm 196 #[vP d 0,vI c] w (Is w (.bool (decide (0≤c∧c<cp)))):=by
 refine (iX Tryz.func196 17) ?_
 refine (JP∘Jp 1∘Jr∘Jp 3) (Ji (λa=>?_) λa=>?_)
 ·
  exact (Jp 2∘Jn∘Jf 0∘Jf 0∘Jf 0∘Jy (v:=vI cp) (h:=by exact Pd rfl rfl kr (λ_ h=>h.zr hm rfl))∘Jp 3∘aG∘Jj∘JZ∘aZ) λb=>Bg om b.below
 exact (Jv 10 [(4,.bool false)]∘dQ∘Jj∘JZ∘aZ) λb=>lC om b.below
def Dq (n:Nat) (f:Mem W w F) (h:F.drop n=jm e x m g a b d++T) (_:dz x m g a b d) (c:Int):Calls abm 196 #[vP e 0,vI c] w (Is w (.bool (decide (0≤c∧c<x.ak)))):=by
 have h1:fM e x.ak x.aj x.gA m x.gc x.lA g x.lc x.uA a x.uc x.tA b x.tc x.sA d x.sc∈F:=List.mem_of_mem_drop (i:=n) (by rw [h];exact acs ..)
 exact zfc e x.ak x.aj x.gA m x.gc x.lA g x.lc x.uA a x.uc x.tA b x.tc x.sA d x.sc c w (f.holds _ h1).2
def mo (gm:Nat) (x:aC):List Fact:=jm gm x (abl x.gs) (abl x.cl) (abl x.cu) (abl x.ts) (abl x.rs)
def jX (W:World) (gm:Nat) (T:List Fact) (out:gT) (r:Ending) (w':World):Prop:=∃y:aC,r= .returned (.tuple #[.int .i64 out.2.1,.int .i64 (out.2.2:Int)])∧y.av=out.1∧Mem W w' (mo gm y++T)
section
variable {W w w':World} {F A T fs:List Fact} {x y:aC} {ng nl nu nt ns gm g c n:Nat}
theorem Mem.iA (n:Nat) (h:Mem W w F) (a:F.drop n=A):Mem W w A:=a▸h.mV (List.drop_sublist ..)
theorem Mem.toB (h:Mem W w (jm gm y ng nl nu nt ns++T)) (a:qZ y ng nl nu nt ns):Mem W w (mo gm y++T):=by
 obtain ⟨rfl,rfl,rfl,rfl,rfl⟩:=a
 exact h
theorem qt {out:gT} {got:Int} (n:Nat) (b:Mem W w F) (d:F.drop n=jm gm y ng nl nu nt ns++T) (f:qZ y ng nl nu nt ns) (a:out=(y.av,got,e)):jX W gm T out (.returned (.tuple #[.int .i64 got,.int .i64 (e:Int)])) w:=by
 subst a
 exact ⟨y,rfl,rfl,(b.iA n d).toB f⟩
structure eF (t:Tk) (cp:Int) (ns:Nat):Prop where
 id:1≤t.id∧t.id≤65535
 group:0≤t.group∧t.group<ns
 cpu:0≤t.cpu∧t.cpu<cp
 weight:1≤t.weight∧t.weight≤65536
 mask:wM t.mask cp=false
 bit:t.mask/2^t.cpu.toNat%2=1
 ent:bK t.v t.r t.weight=true
def Py:dH s t=true↔eF t s.ak (abl s.sp):=by
 unfold dH lN
 simp only [abF,decide_eq_true_eq,adA]
 constructor
 ·rintro ⟨⟨h1,h2,h3,h4,h5,h6⟩,h7,h8,h9,h10⟩
  exact ⟨⟨h1,h2⟩,⟨h3,h4⟩,⟨h5,h6⟩,h7,h8,h9,h10⟩
 ·intro h
  exact ⟨⟨h.id.1,h.id.2,h.group.1,h.group.2,h.cpu.1,h.cpu.2⟩,h.weight,h.mask,h.bit,h.ent⟩
theorem dz.task (h:dz x ng nl nu nt ns) {k:Nat} {t:Tk} (ht:x.ts[k]?=some t):eF t x.ak ns∧t.Ok:=by
 obtain ⟨a,rfl⟩:=abv.1 ht
 have h1:=(Dg (h.sh.tk k a)).2
 rw [abo,abp a] at h1
 have h2:=Py.1 h1
 rw [kQ,h.ln.s] at h2
 exact ⟨h2,h.ok.ts _ (aeb a)⟩
theorem FZ {id:Int} (h:¬fidx l id<0):∃(k:Nat) (t:Tk),fidx l id=(k:Int)∧l[k]?=some t∧k<abl l∧t.id=id:=by grind [Tk.zero,X3,getD_at]
theorem wR {id:Int} (h:fidx s.ts id=(k:Int)) (ht:s.ts[k]?=some t):nW s id=t:=by
 unfold nW
 rw [h]
 exact sV Tk.zero ht
def aaj {v r w:Nat} {f:Int} (h:bK v r f=true) (a:f=(w:Int)) (b:v<18446744073709551616):(⟨v,r,w⟩:En).Ok:=⟨by rw [a] at h;exact h,b⟩
theorem uR {w:Nat} (h:t.weight=(w:Int)):t.en=⟨t.v,t.r,w⟩:=by unfold Tk.en;rw [h];rfl
theorem Dr {x:aC} {ts':List Tk} (h:qZ x ng nl nu nt ns) (ht:abl ts'=nt):qZ {x with ts:=ts'} ng nl nu nt ns:=⟨h.g,h.l,h.u,ht,h.s⟩
def K9 {x:aC} {a:List Rw} (h:qZ x ng nl nu nt ns) (ht:abl a=ns):qZ {x with rs:=a} ng nl nu nt ns:=⟨h.g,h.l,h.u,h.t,ht⟩
end
theorem nf {b:Bool} (h:b=true):¬b=false:=by rw [h];decide
theorem xV {b:Bool} (h:b=false):¬b=true:=by rw [h];decide
section
variable {x:aC} {o:bC} {k gt ct wt c d g:Nat} {t:Tk} {e:En} {z:Sp} {em:List Nat}
theorem qq2 (h1:nV o.task=true) (h2:lN o.weight=true) (hk:fidx x.ts o.task=(k:Int)) (ht:x.ts[k]?=some t) (a:o.weight=(wt:Int)):xM x.av o=(({x with ts:=x.ts.set k (t.put ⟨t.v,0,wt⟩)}:aC).av,0,0):=by
 unfold xM
 rw [if_neg (nf h1),if_neg (nf h2),if_neg (by rw [show x.av.ts=x.ts from rfl,hk];omega),wR (s:=x.av) hk ht,show x.av.ts=x.ts from rfl,hk,abG,a]
 rfl
theorem q32 (h1:nV o.task=true) (hk:fidx x.ts o.task=(k:Int)) (ht:x.ts[k]?=some t) (hr:t.ready=false) (b:t.group=(gt:Int)) (hc:t.cpu=(ct:Int)) (f:t.weight=(wt:Int)) (hz:x.av.spot gt ct=z) (h:(⟨t.v,t.r,wt⟩:En).woken z.floor x.aj=e) (a:kH x.av gt ct=em):
  xL x.av o=(fZ ({x with ts:=x.ts.set k {t.put e with ready:=true}}:aC).av em ct,0,0):=by
 unfold xL
 rw [if_neg (nf h1),if_neg (by rw [show x.av.ts=x.ts from rfl,hk];omega),wR (s:=x.av) hk ht,if_neg (by rw [hr];decide)]
 show (fZ (x.av.jo (fidx x.ts o.task).toNat {t.put (t.en.woken (x.av.spot t.group.toNat t.cpu.toNat).floor x.aj) with ready:=true}) (kH x.av t.group.toNat t.cpu.toNat) t.cpu.toNat,(0:Int),0)=_
 rw [hk,abG,b,hc,abG,abG,hz,uR f,h,a]
 rfl
theorem q9h (hc:o.cpu=(c:Int)) (a:x.av.eG o.cpu=true):ku x.av o=(({x with cu:=x.cu.set c (oD x.av c)}:aC).av,(oD x.av c:Int),0):=by
 unfold ku
 rw [if_neg (nf a),hc,abG]
 rfl
def Dt (c d g:Nat) (s:aW):aW:=oV c d g g s
def qq3 {c d g f:Nat} (b:∀i,0<i→i≤g→dP s.gs i) (h:g≤f):oV c d f g s=oV c d g g s:=by
 have key:∀(g f a:Nat) (s:aW),(∀i,0<i→i≤g→dP s.gs i)→g≤f→g≤a→oV c d f g s=oV c d a g s:=by
  intro g
  induction g using ae0 with
  | _ g j =>
   intro f a s b h1 h2
   by_cases h0:g=0
   ·subst h0
    cases f<;>cases a<;>simp [oV]
   ·obtain ⟨f,rfl⟩:∃k,f=k+1:=⟨f-1,by omega⟩
    obtain ⟨a,rfl⟩:∃k,a=k+1:=⟨a-1,by omega⟩
    have l:=b g om (abq _)
    unfold dP at l
    have e:(s.par g).toNat<g:=by show (s.gs.getD g Gr.zero).parent.toNat<g;omega
    rw [oV,oV,if_neg h0,if_neg h0]
    exact j (s.par g).toNat e f a _ (λi hi m=>b i hi om) om om
 exact key g f g s b h (abq _)
theorem qq4 {s:aW} (b:∀i,0<i→i≤g→dP s.gs i) (h0:0<g) {p:Nat} (a:(s.gs.getD g Gr.zero).parent=(p:Int)):Dt c d g s=Dt c d p (s.uJ g c ((s.jW g c).add d)):=by
 obtain ⟨k,rfl⟩:∃k,g=k+1:=⟨g-1,by omega⟩
 have f:=b (k+1) h0 (abq _)
 unfold dP at f
 show oV c d (k+1) (k+1) s=_
 rw [oV,if_neg om]
 have e:(s.par (k+1)).toNat=p:=by show (s.gs.getD (k+1) Gr.zero).parent.toNat=p;rw [a];rfl
 rw [e]
 exact qq3 (s:=s.uJ (k+1) c ((s.jW (k+1) c).add d)) (λi hi h=>b i hi om) om
theorem q33 (a:x.av.eG o.cpu=true) (h1:1≤o.ticks∧o.ticks≤4294967295) (hc:o.cpu=(c:Int)) {v:Int} (f:x.cl.getD c 0=v) (h2:¬281474976710656<v+o.ticks) (b:x.cu.getD c 0=0):jq x.av o=(({x with cl:=x.cl.set c (v+o.ticks)}:aC).av,0,0):=by
 unfold jq
 rw [if_neg (nf a),if_neg om,hc,abG,show x.av.cl=x.cl from rfl,f,if_neg h2]
 dsimp only
 rw [show x.av.cu=x.cu from rfl,if_pos b]
 rfl
theorem q9i (a:x.av.eG o.cpu=true) (h1:1≤o.ticks∧o.ticks≤4294967295) (hc:o.cpu=(c:Int)) (h:o.ticks=(d:Int)) {v id:Int} (i:x.cl.getD c 0=v) (h2:¬281474976710656<v+o.ticks) (b:x.cu.getD c 0=id) (f:id≠0)
  (hk:fidx x.ts id=(k:Int)) (ht:x.ts[k]?=some t) (j:t.group=(gt:Int)) (l:t.weight=(wt:Int)) (m:(⟨t.v,t.r,wt⟩:En).add d=e):
  jq x.av o=(Dt c d gt ({x with cl:=x.cl.set c (v+d),ts:=x.ts.set k (t.put e)}:aC).av,id,0):=by
 unfold jq
 rw [if_neg (nf a),if_neg om,hc,abG,show x.av.cl=x.cl from rfl,i,if_neg h2]
 dsimp only
 rw [show x.av.cu=x.cu from rfl,b,if_neg f,wR (s:=x.av) hk ht,j,show x.av.ts=x.ts from rfl,hk,abG,abG,h,abG,uR l,m]
 rfl
def upd {α:Type} (f:α→α) (l:List α) (k:Nat):List α:=(l.take k).map f++l.drop k
theorem zfd (f:α→α) (l:List α) (k:Nat):abl (upd f l k)=abl l:=by grind [upd]
theorem q9j (f:α→α) (l:List α):upd f l 0=l:=rfl
theorem zfe (f:α→α) (l:List α) {k:Nat} (h:abl l≤k):upd f l k=l.map f:=by grind [upd,acp,abP]
def zff (f:α→α) {l:List α} {k j:Nat} (h:k≤j):(upd f l k)[j]?=l[j]?:=by grind [upd]
theorem zfg (f:α→α) {l:List α} {k:Nat} {z:α} (h:l[k]?=some z):(upd f l k).set k (f z)=upd f l (k+1):=by
 obtain ⟨a,rfl⟩:=abv.1 h
 unfold upd
 have h1:abl ((l.take k).map f)=k:=by rw [abu,abr];omega
 rw [List.set_append,if_neg (by rw [h1];omega),h1,Nat.sub_self,List.drop_eq_getElem_cons a,List.set_cons_zero,List.take_succ_eq_append_getElem a,List.map_append,aby]
 rfl
def r0 (z:Sp):Sp:={z with r:=0}
theorem qty (h:o.group=(g:Int)) (h1:1≤o.group∧o.group<abl x.rs) (h2:lN o.weight=true) {A:Option Addr} {m:Nat} {yl:List Sp} (hy:x.rs.getD g Rw.zero=⟨A,m,yl⟩) {f:Gr} (a:x.gs.getD g Gr.zero=f):
  xO x.av o=(({x with rs:=x.rs.set g ⟨A,m,yl.map r0⟩,gs:=x.gs.set g {f with weight:=o.weight}}:aC).av,0,0):=by
 have b:g<abl x.rs:=by omega
 unfold xO
 rw [if_neg (by rw [kQ];omega),if_neg (nf h2),h,abG]
 unfold aC.av
 simp only [List.map_set]
 rw [XQ b,hy,a]
 rfl
def q9k {to:Nat} {h i:Sp} (ht:x.ts[k]?=some t) (j:t.group=(gt:Int)) (hc:t.cpu=(ct:Int)) (l:t.weight=(wt:Int)) (a:x.av.spot gt ct=h) (b:x.av.spot gt to=i) (m:(⟨t.v,t.r,wt⟩:En).moved h.floor i.floor=e) (f:kH x.av gt to=em):
  iZ x.av k (to:Int)=if t.ready=true then fZ ({x with ts:=x.ts.set k {t.put e with cpu:=(to:Int)}}:aC).av em to else ({x with ts:=x.ts.set k {t.put e with cpu:=(to:Int)}}:aC).av:=by
 have e1:x.av.ts.getD k Tk.zero=t:=sV Tk.zero ht
 unfold iZ
 rw [e1]
 dsimp only
 rw [j,hc,abG,abG,abG,a,b,uR l,m,f]
 rfl
end
def F3 (W:World) (gm:Nat) (T:List Fact) (s:aW) (r:Ending) (w':World):Prop:=∃y:aC,r= .returned (.tuple #[])∧y.av=s∧Mem W w' (mo gm y++T)
section
variable {W w w':World} {F A T fs:List Fact} {x y:aC} {ng nl nu nt ns gm g c n:Nat}
def Yo (n:Nat) (a:Mem W w F) (b:F.drop n=jm gm y ng nl nu nt ns++T) (d:qZ y ng nl nu nt ns) (hs:y.av=s):F3 W gm T s (.returned (.tuple #[])) w:=⟨y,rfl,hs,(a.iA n b).toB d⟩
def Yp {out:gT} {got:Int} (n:Nat) (b:Mem W w F) (d:F.drop n=mo gm y++T) (a:out=(y.av,got,e)):jX W gm T out (.returned (.tuple #[.int .i64 got,.int .i64 (e:Int)])) w:=by
 subst a
 exact ⟨y,rfl,rfl,b.iA n d⟩
theorem q35 {rs a:List Rw} {E:Option Addr} {yl:List Sp} {z:Sp} (b:g<abl rs) (hz:yl[c]?=some z) (hr:a=rs.set g ⟨E,m,upd r0 yl c⟩):aN a g c (r0 z)=rs.set g ⟨E,m,upd r0 yl (c+1)⟩:=by grind [q6,r0,aN,upd,zfg,adX]
end
def mq:Option Nat→Int
 |none=> -1
 |some b=>(b:Int)
def xW (s:aW) (o:bC) (be:Int) (t:Tk):Bool:=sj s o t&& (decide (be<0)||decide ((s.ts.getD be.toNat Tk.zero).weight<t.weight))
section
variable {s:aW} {o:bC} {n:Nat}
def Yq:∀{n b:Nat},fO s o n=some b→b<n:=by intro x;induction x<;>grind [fO]
theorem Yr (hb:mq (fO s o n)=be):mq (fO s o (n+1))=if xW s o be (s.ts.getD n Tk.zero) then (n:Int) else be:=by grind [Tk.zero,fO,mq,sj,xW]
def Yt (hb:mq (fO s o n)=be): -1≤be∧be<n:=by
 subst hb
 cases h:fO s o n with
 |none=>exact ⟨by decide,by show (-1:Int)<n;omega⟩
 |some b=>have:=Yq h;exact ⟨by show (-1:Int)≤(b:Int);omega,by show (b:Int)<n;omega⟩
def qy9 {cpu:Int} {M:Int} (a:∀c,aI s c≤M∧0≤aI s c) (h0:0≤M):∀n:Nat,-1≤(iB s cpu n).1∧(iB s cpu n).1<n∧ -1≤(iB s cpu n).2∧(iB s cpu n).2≤M:=by intro x;induction x<;>grind [iB,aI]
theorem Pz {cpu fr v:Int} (hb:iB s cpu n=(fr,v)):iB s cpu (n+1)=if (n:Int)≠cpu∧v<aI s n then ((n:Int),aI s n) else (fr,v):=by
 rw [iB,hb]
def qq6 {o:bC} (a:x.av.eG o.cpu=true) (hb:mq (fO x.av o (abl x.ts))= -1):uK x.av o=(x.av,0,6):=by
 unfold uK
 rw [if_neg (nf a),show x.av.ts=x.ts from rfl]
 cases h:fO x.av o (abl x.ts) with
 |none=>rfl
 |some b=>rw [h] at hb;exact absurd hb (by show ((b:Nat):Int)≠ -1;omega)
def qq7 {o:bC} (a:x.av.eG o.cpu=true) (hb:mq (fO x.av o (abl x.ts))=(k:Int)) (ht:x.ts[k]?=some t):uK x.av o=(iZ x.av k o.cpu,t.id,0):=by
 unfold uK
 rw [if_neg (nf a),show x.av.ts=x.ts from rfl]
 cases h:fO x.av o (abl x.ts) with
 |none=>rw [h] at hb;exact absurd hb (by show (-1:Int)≠(k:Int);omega)
 |some b=>
  rw [h] at hb
  have e:b=k:=by have h1:(b:Int)=(k:Int):=hb;omega
  subst e
  dsimp only
  rw [sV Tk.zero ht]
def qtz {o:bC} (h1:x.av.eG o.to=true) (h2:nV o.task=true) (hk:fidx x.ts o.task=(k:Int)) (ht:x.ts[k]?=some t) (h3:o.task∉x.cu) (h4:t.cpu≠o.to) (h5:iY t.mask o.to=true):xP x.av o=(iZ x.av k o.to,0,0):=by
 unfold xP
 rw [if_neg (nf h1),if_neg (nf h2),if_neg (by rw [show x.av.ts=x.ts from rfl,hk];omega),if_neg (show ¬o.task∈x.av.cu from h3),wR (s:=x.av) hk ht,if_neg h4,if_neg (nf h5),show x.av.ts=x.ts from rfl,hk,abG]
end
theorem PD (t:Tk):∀u∈bI t,u.oneCell'=true:=by simp [bI,acd]
def q36 (l:List Tk) (t:Tk):l.flatMap bI++bI t=(l++[t]).flatMap bI:=by simp
theorem mM (l:List Tk):abl (l.flatMap bI)=abl l*8:=pO bI 8 qk l
def zT (m:Nat):List Value:=(abY (aeH Tk.zero.cells).cells m).toList
theorem La (m:Nat):abl (zT m)=m*8:=by unfold zT;rw [Array.length_toList,size_zeroCells];rfl
def zix (m:Nat):∀v∈zT m,v.oneCell'=true:=by
 intro v a
 unfold zT abY at a
 simp only [Array.toList_map,ab6] at a
 obtain ⟨k,_,rfl⟩:=a
 have hs:(aeH Tk.zero.cells).cells.size=8:=rfl
 have b:k% (aeH Tk.zero.cells).cells.size<8:=by rw [hs];exact Nat.mod_lt _ de
 generalize k% (aeH Tk.zero.cells).cells.size=j at b
 have:∀j,j<8→((aeH Tk.zero.cells).cells[j]!).oneCell'=true:=by decide
 exact this j b
theorem Mem.lZ (h:Mem W w fs) {j g n c a:Nat} {l q:List Tk} {ys:List Value} (hi:fs[j]?=some (.row (.slice (some ⟨g,0,none⟩) n c) n (l.flatMap bI++ys) 232 8)) (e:∃b,(l.drop a).take b=q) (f:a≤abl l):∀k v,(q.flatMap bI)[k]?=some v→w.cell? ((⟨g,a*8,none⟩:Addr).add k)=some v:=by
 obtain ⟨b,rfl⟩:=e
 intro k v d
 rw [acN]
 refine h.J5 hi (a*8) (ys:=((l.drop a).take b).flatMap bI) (λk v d=>?_) k v d
 have h1:l.flatMap bI=(l.take a).flatMap bI++(((l.drop a).take b).flatMap bI++((l.drop a).drop b).flatMap bI):=by
  rw [←ab2,ab9,←ab2,ab9]
 have h2:abl ((l.take a).flatMap bI)=a*8:=by rw [mM,abr];omega
 have h3:=(abv.1 d).1
 rw [h1,aby,←h2,List.getElem?_append_right (Nat.le_add_right _ _),Nat.add_sub_cancel_left,aby,List.getElem?_append_left h3]
 exact d
def uS (l:List Tk) (id:Int):Nat:=abl (l.takeWhile λt=>decide (t.id≤id))
def Yu (l:List Tk) (id:Int):uS l id≤abl l:=(aef _).length_le
theorem Yv (l:List Tk) (id:Int):l.take (uS l id)=(l.takeWhile λt=>decide (t.id≤id))∧l.drop (uS l id)=(l.dropWhile λt=>decide (t.id≤id)):=by
 have h1:=adG (l₁:=l.takeWhile λt=>decide (t.id≤id)) (l₂:=l.dropWhile λt=>decide (t.id≤id))
 have h2:=List.drop_left (l₁:=l.takeWhile λt=>decide (t.id≤id)) (l₂:=l.dropWhile λt=>decide (t.id≤id))
 rw [aeI] at h1 h2
 exact ⟨h1,h2⟩
theorem Yw {id:Int} {k:Nat} (hk:k≤abl l) (h:∀j,j<k→(l.getD j Tk.zero).id≤id) (hs:k=abl l∨id<(l.getD k Tk.zero).id):uS l id=k:=by
 induction l generalizing k with
 |nil=>simp at hk;subst hk;rfl
 | cons t r a =>
  unfold uS at*
  cases k with
  | zero =>
   rcases hs with h1|h1
   ·simp at h1
   ·have h2:¬t.id≤id:=by have h3:id<t.id:=h1;omega
    rw [aer,if_neg (by rw [decide_eq_true_eq];exact h2)]
    rfl
  | succ k =>
   have h0:t.id≤id:=h 0 om
   rw [aer,if_pos (by rw [decide_eq_true_eq];exact h0),ab1]
   rw [a (k:=k) (by simpa using hk) (λj b=>h (j+1) om) (by
    rcases hs with h1|h1
    ·exact .inl (by simpa using h1)
    ·exact .inr h1)]
def rz (w:World) (l:List Tk) (id:Int) (r:Ending) (a:World):Prop:=(∃i:Int,r= .returned (.int .i64 i)∧(if i<0 then abl l else i.toNat)=uS l id∧ -1≤i∧i≤abl l)∧Below w.heap.size w a
def qza {id:Int} (hk:k<abl l) (h:∀j,j<k→(l.getD j Tk.zero).id≤id) (hs:id<(l.getD k Tk.zero).id) (hb:Below w.heap.size w W):rz w l id (.returned (.int .i64 (k:Int))) W:=
 ⟨⟨k,rfl,by rw [if_neg om,Yw om h (.inr hs)];rfl,by omega,by omega⟩,hb⟩
def qzb {id:Int} (h:∀j,j<abl l→(l.getD j Tk.zero).id≤id) (hb:Below w.heap.size w W):rz w l id (.returned (.int .i64 (-1))) W:=
 ⟨⟨-1,rfl,by rw [if_pos de,Yw (abq _) h (.inl rfl)],by omega,by omega⟩,hb⟩
theorem qzc {id:Int} (h:∀j,j<k→(l.getD j Tk.zero).id≤id) (hk:(l.getD k Tk.zero).id≤id):∀j,j<k+1→(l.getD j Tk.zero).id≤id:=by grind
def iH (l:List Tk) (i:Nat) (t:Tk):List Tk:=l.take i++t::l.drop i
theorem Yx (l:List Tk) (i:Nat) (t:Tk):(iH l i t).flatMap bI=(l.take i).flatMap bI++(bI t++(l.drop i).flatMap bI):=by
 unfold iH
 rw [ab2,abT]
theorem Lb (h:i≤abl l):abl (iH l i t)=abl l+1:=by grind [iH]
theorem q9l (h:i=abl l):l++[t]=iH l i t:=by
 subst h
 unfold iH
 rw [List.take_length,List.drop_length]
theorem q9m (h:i≤abl l):putAt (putAt ((l.take i).flatMap bI++zT (abl l+1-i)) (i*8) (bI t)) ((i+1)*8) ((l.drop i).flatMap bI)=(iH l i t).flatMap bI:=by
 have h1:abl ((l.take i).flatMap bI)=i*8:=by rw [mM,abr];omega
 have h2:abl ((l.take i).flatMap bI++bI t)=(i+1)*8:=by rw [abn,h1,qk];omega
 have e:((zT (abl l+1-i)).drop (abl (bI t))).drop (abl ((l.drop i).flatMap bI))=[]:=acp (by rw [abN,La,qk,mM,abN];omega)
 rw [←h1,KE,←h2,KE,Yx,e,abU,aby]
def q37 {ys:List Value} (h:i≤abl l) (hy:abl ys=8):putAt (putAt (l.flatMap bI++ys) ((i+1)*8) ((l.drop i).flatMap bI)) (i*8) (bI t)=(iH l i t).flatMap bI:=by
 have h1:abl ((l.take i).flatMap bI)=i*8:=by rw [mM,abr];omega
 have h3:abl ((l.drop i).flatMap bI)=(abl l-i)*8:=by rw [mM,abN]
 have h2:l.flatMap bI++ys=(l.take i).flatMap bI++((l.drop i).flatMap bI++ys):=by
  rw [←aby,←ab2,ab9]
 rw [h2,show (i+1)*8=abl ((l.take i).flatMap bI)+8 by rw [h1];omega,qyj,←h1,KE,Yx,aby]
 congr 2
 rw [qk]
 unfold putAt
 have e:((l.drop i).flatMap bI++ys).drop (8+abl ((l.drop i).flatMap bI))=[]:=acp (by rw [abn,h3,hy];omega)
 rw [aby,List.drop_left' (by rw [abr,abn,h3,hy];omega),e,abU]
def q9n (h:i<abl l):(l.take i).flatMap bI++(l.drop (i+1)).flatMap bI=(l.eraseIdx i).flatMap bI:=by
 rw [←ab2,List.eraseIdx_eq_take_drop_succ]
section
variable {x:aC} {o:bC} {k g c z:Nat} {t t1:Tk} {em:List Nat} {id:Int}
theorem qzd (a:x.av.eG o.cpu=true) (hc:o.cpu=(c:Int)) (b:x.cu.getD c 0=id) (d:id≠0) (hk:fidx x.ts id=(k:Int)) (ht:x.ts[k]?=some t) (e:o.kind≠4):qX x.av o=(({x with cu:=x.cu.set c 0,ts:=x.ts.set k {t with ready:=false}}:aC).av,id,0):=by
 unfold qX
 rw [if_neg (nf a),hc,abG,show x.av.cu=x.cu from rfl,b,if_neg d]
 dsimp only
 rw [show x.av.ts=x.ts from rfl,hk,abG,sV Tk.zero ht,if_neg e]
 rfl
theorem q9o (a:x.av.eG o.cpu=true) (hc:o.cpu=(c:Int)) (b:x.cu.getD c 0=id) (d:id≠0) (hk:fidx x.ts id=(k:Int)) (ht:x.ts[k]?=some t) (e:o.kind=4):qX x.av o=(({x with cu:=x.cu.set c 0,ts:=(x.ts.set k {t with ready:=false}).eraseIdx k}:aC).av,id,0):=by
 unfold qX
 rw [if_neg (nf a),hc,abG,show x.av.cu=x.cu from rfl,b,if_neg d]
 dsimp only
 rw [show x.av.ts=x.ts from rfl,hk,abG,sV Tk.zero ht,if_pos e]
 rfl
theorem Yy (a:x.av.eG o.cpu=true) (h1:nV o.task=true) (h2:0≤o.group∧o.group<abl x.rs) (h3:¬(lN o.weight=false∨o.mask=0∨wM o.mask x.ak=true)) (h4:fidx x.ts o.task<0) (h5:iY o.mask o.cpu=true) (d:o.group=(g:Int)) (hc:o.cpu=(c:Int)) {m:Nat} (hz:(x.av.spot g c).floor=m)
  (ht:(⟨o.task,o.group,o.weight,o.cpu,o.mask,true,m,0⟩:Tk)=t1) (b:kH x.av g c=em):xK x.av o=(fZ ({x with ts:=iH x.ts (uS x.ts o.task) t1}:aC).av em c,0,0):=by
 unfold xK
 rw [if_neg (nf a),if_neg (nf h1),if_neg (by rw [kQ];omega),if_neg (show ¬(lN o.weight=false∨o.mask=0∨wM o.mask x.av.ak=true) from h3),if_neg (by rw [show x.av.ts=x.ts from rfl];omega),if_neg (nf h5),d,hc,abG,abG,b,hz]
 rw [d,hc] at ht
 rw [show x.av.ts=x.ts from rfl,ht]
 unfold iH
 rw [(Yv x.ts o.task).1,(Yv x.ts o.task).2]
 rfl
end
structure iI (s:aW):Prop where
 ok:s.Ok
 ak:1≤s.ak∧s.ak≤64
 aj:s.aj≤1099511627776
 gs:bU s.gs=true
 cl:(abl s.cl:Int)=s.ak
 cu:(abl s.cu:Int)=s.ak
 sp:abl s.sp=abl s.gs
 cls:∀c,c<abl s.cl→gP (s.cl.getD c 0)=true
 rows:∀g,g<abl s.sp→(abl (s.sp.getD g []):Int)=s.ak
 spots:∀(g c:Nat),g<abl s.sp→(c:Int)<s.ak→dI s g (s.spot g c)=true
 sort:dW s.ts
 tasks:∀t∈s.ts,eF t s.ak (abl s.sp)
def jw (s:aW):Prop:=∀c,c<abl s.cu→s.cu.getD c 0=0∨∃t∈s.ts,t.id=s.cu.getD c 0∧t.ready=true∧t.cpu=(c:Int)
structure GoodS (s:aW):Prop where
 sh:iI s
 cur:jw s
theorem Yz:(∀i,i<abl s.ts→(i=0∨(s.ts.getD (i-1) Tk.zero).id<(s.ts.getD i Tk.zero).id))↔dW s.ts:=by
 constructor
 ·intro h i j a
  induction j with
  |zero=>omega
  |succ j b=>
   grind
 ·intro h i hi
  rcases ach i with h0|h0
  ·exact .inl h0
  ·exact .inr (h (i-1) i om hi)
def uT {l:List α} {x:α} (d:α) (h:x∈l):∃i,i<abl l∧l.getD i d=x:=by
 obtain ⟨i,hi,rfl⟩:=acB h
 exact ⟨i,hi,by rw [abo,abp hi];rfl⟩
theorem Lc (b:s.Ok):mY s=true↔iI s:=by
 unfold mY fC KG
 simp only [abF,decide_eq_true_eq]
 constructor
 ·rintro ⟨⟨⟨⟨h1,h2,h3⟩,h4⟩,h5,h6,h7⟩,h8,h9,h10⟩
  have d:∀g,g<abl s.sp→(abl (s.sp.getD g []):Int)=s.ak∧∀c,c<abl (s.sp.getD g [])→dI s g (s.spot g c)=true:=λg a=>by
   grind [uz,rowOk]
  have ht:∀i,i<abl s.ts→(i=0∨(s.ts.getD (i-1) Tk.zero).id<(s.ts.getD i Tk.zero).id)∧dH s (s.ts.getD i Tk.zero)=true:=λi hi=>by
   grind [uz,iN]
  refine ⟨b,⟨h1,h2⟩,h3,h4,h5,h6,h7,λc hc=>uz h8 hc,λg a=>(d g a).1,λg c a hc=>(d g a).2 c (by have:=(d g a).1;omega),Yz.1 λi hi=>(ht i hi).1,λt e=>?_⟩
  obtain ⟨i,hi,rfl⟩:=uT Tk.zero e
  exact Py.1 (ht i hi).2
 ·intro h
  refine ⟨⟨⟨⟨h.ak.1,h.ak.2,h.aj⟩,h.gs⟩,h.cl,h.cu,h.sp⟩,uy h.cls,uy λg a=>?_,uy λi hi=>?_⟩
  ·unfold rowOk
   rw [abF,decide_eq_true_eq]
   exact ⟨h.rows g a,uy λc hc=>h.spots g c a (by have:=h.rows g a;omega)⟩
  ·unfold iN
   rw [abF,adw,beq_iff_eq,decide_eq_true_eq]
   exact ⟨Yz.2 h.sort i hi,Py.2 (h.tasks _ (qe Tk.zero hi))⟩
def YA (hs:dW l) (h1:∀t∈l,1≤t.id):∀i:Nat,i<abl l→((i:Nat):Int)+1≤(l.getD i Tk.zero).id
 |0,h=>by have:=h1 _ (qe Tk.zero h);omega
 |i+1,h=>by
  have:=YA hs h1 i om
  have:=hs i (i+1) om h
  omega
theorem iI.few (h:iI s):abl s.ts≤65535:=by
 rcases ach (abl s.ts) with h0|h0
 ·omega
 ·have h1:=YA h.sort (λt ht=>(h.tasks t ht).id.1) (abl s.ts-1) om
  have h2:=(h.tasks _ (qe Tk.zero (show abl s.ts-1<abl s.ts by omega))).id.2
  omega
def zfh (hs:dW l) {t u:Tk} (ht:t∈l) (a:u∈l) (h:t.id=u.id):t=u:=by
 obtain ⟨i,hi,rfl⟩:=uT Tk.zero ht
 obtain ⟨j,b,rfl⟩:=uT Tk.zero a
 rcases ab7 i j with h1|h1
 ·have:=hs i j h1 b;omega
 ·rcases ab7 j i with h2|h2
  ·have:=hs j i h2 hi;omega
  ·rw [show i=j by omega]
def YB (hs:dW l) {i:Nat} (hi:i<abl l):fidx l (l.getD i Tk.zero).id=(i:Int):=by
 unfold fidx
 rw [OA hi rfl (λk a=>by have:=hs k i a hi;omega)]
theorem Ld (hs:dW s.ts):(∀c,c<abl s.cu→dR s c=true)↔jw s:=by
 have key:∀c,dR s c=true↔(s.cu.getD c 0=0∨∃t∈s.ts,t.id=s.cu.getD c 0∧t.ready=true∧t.cpu=(c:Int)):=by
  intro c
  unfold dR
  rw [adw,decide_eq_true_eq]
  refine or_congr Iff.rfl ?_
  constructor
  ·grind [Tk.zero,OB,qe]
  ·rintro ⟨t,ht,h1,h2,h3⟩
   obtain ⟨i,hi,rfl⟩:=uT Tk.zero ht
   rw [←h1,OA hi rfl (λk a=>by have:=hs k i a hi;omega)]
   grind
 exact ⟨λh c hc=>(key c).1 (h c hc),λh c hc=>(key c).2 (h c hc)⟩
def Le {y:aC} (h:iI y.av):dz y (abl y.gs) (abl y.cl) (abl y.cu) (abl y.ts) (abl y.rs):=by
 have h1:=(qp h.gs).2.1
 have a:abl y.gs≤256:=h1
 have h2:abl y.rs=abl y.gs:=by rw [←kQ];exact h.sp
 have h3:(abl y.cl:Int)=y.ak:=h.cl
 have h4:(abl y.cu:Int)=y.ak:=h.cu
 have h5:1≤y.ak∧y.ak≤64:=h.ak
 have h6:abl y.ts≤65535:=h.few
 refine ⟨h.ok,⟨by omega,by omega,by omega,by omega,by omega,λr b=>?_⟩,uG ((Lc h.ok).2 h),⟨rfl,rfl,rfl,rfl,rfl⟩⟩
 obtain ⟨g,a,rfl⟩:=uT Rw.zero b
 have h7:=h.rows g (by rw [kQ];exact a)
 rw [jR a] at h7
 have h8:((y.rs.getD g Rw.zero).l.length:Int)=y.ak:=h7
 omega
section
variable {s:aW} {g c i:Nat} {z:Sp} {t t':Tk}
def q9p (d:g<abl s.sp) (hc:c<abl (s.sp.getD g [])):∀a b,(s.uI g c z).spot a b=if a=g∧b=c then z else s.spot a b:=by grind [aW.uI,aW.spot,getD_set_ne,q6]
theorem Du:(s.uI g c z).sp.length=abl s.sp:=abO ..
theorem YC (a:Nat):abl ((s.uI g c z).sp.getD a [])=abl (s.sp.getD a []):=by grind [aW.uI,getD_set_ne,q6]
theorem iI.spot (h:iI s) (b:g<abl s.sp) (hc:(c:Int)<s.ak) (hz:z.Ok) (hs:dI s g z=true):iI (s.uI g c z):=by
 have k:=h.rows g b
 have d:=q9p (z:=z) b (show c<abl (s.sp.getD g []) by omega)
 refine ⟨⟨h.ok.ak,h.ok.aj,h.ok.gs,h.ok.cl,h.ok.cu,h.ok.ts,λl n y m=>?_⟩,h.ak,h.aj,h.gs,h.cl,h.cu,Du.trans h.sp,h.cls,λf a=>?_,λf o a j=>?_,h.sort,λu p=>?_⟩
 ·rcases ab3 (show l∈s.sp.set g ((s.sp.getD g []).set c z) from n) with h1|rfl
  ·exact h.ok.sp l h1 y m
  ·rcases ab3 m with h2|rfl
   ·exact h.ok.sp _ (qe [] b) y h2
   ·exact hz
 ·rw [YC];exact h.rows f (by rwa [Du] at a)
 ·rw [d]
  rw [Du] at a
  split
  ·rename_i e;rw [e.1];exact hs
  ·exact h.spots f o a j
 ·rw [Du];exact h.tasks u p
def q9q (hs:dW l) (ht:l[i]?=some t) (f:t'.id=t.id):dW (l.set i t'):=by
 have key:∀k,((l.set i t').getD k Tk.zero).id=(l.getD k Tk.zero).id:=by
  grind
 intro a b d e
 rw [abO] at e
 rw [key,key]
 exact hs a b d e
theorem iI.task (h:iI s) (ht:s.ts[i]?=some t) (a:t'.id=t.id) (d:t'.Ok) (e:eF t' s.ak (abl s.sp)):iI (s.jo i t'):=by
 refine ⟨⟨h.ok.ak,h.ok.aj,h.ok.gs,h.ok.cl,h.ok.cu,λu b=>?_,h.ok.sp⟩,h.ak,h.aj,h.gs,h.cl,h.cu,h.sp,h.cls,h.rows,h.spots,q9q h.sort ht a,λu b=>?_⟩
 ·rcases ab3 b with h1|rfl
  ·exact h.ok.ts u h1
  ·exact d
 ·rcases ab3 b with h1|rfl
  ·exact h.tasks u h1
  ·exact e
theorem jw.task (h:jw s) (hs:dW s.ts) (ht:s.ts[i]?=some t) (a:t'.id=t.id) (hr:t.ready=true→(∃c,c<abl s.cu∧s.cu.getD c 0=t.id∧t.cpu=(c:Int))→t'.ready=true∧t'.cpu=t.cpu):jw (s.jo i t'):=by
 intro c hc
 rcases h c hc with h1|⟨u,f,h1,h2,h3⟩
 ·exact .inl h1
 ·refine .inr ?_
  have hi:=(abv.1 ht).1
  have b:t∈s.ts:=abM ht
  by_cases e:u.id=t.id
  ·have e2:=zfh hs f b e
   subst e2
   obtain ⟨h4,h5⟩:=hr h2 ⟨c,hc,h1.symm,h3⟩
   exact ⟨t',abM (acO hi),a.trans h1,h4,h5.trans h3⟩
  ·obtain ⟨j,k,rfl⟩:=uT Tk.zero f
   have d:i≠j:=λe2=>e (by subst e2;rw [sV Tk.zero ht])
   refine ⟨s.ts.getD j Tk.zero,?_,h1,h2,h3⟩
   have h6:(s.ts.set i t')[j]?=some (s.ts.getD j Tk.zero):=by rw [aeo d];exact getD_at Tk.zero k
   exact abM h6
theorem jw.spot (h:jw s):jw (s.uI g c z):=h
end
section
variable {s:aW} {g c i d:Nat} {z:Sp} {t t':Tk} {e:En} {o:bC}
def q4a (h:iI s) (a:g<abl s.gs):∃w:Nat,(s.gs.getD g Gr.zero).weight=(w:Int)∧1≤w∧w≤65536:=Dn h.gs a
def q9r (h0:0<g) (h:bK z.v z.r (s.gs.getD g Gr.zero).weight=true):dI s g z=true:=by grind [dI]
def q9s (h:iI s) (a:g<abl s.sp) (hc:(c:Int)<s.ak):bK (s.spot g c).v (s.spot g c).r (s.gs.getD g Gr.zero).weight=true:=by
 have:=h.spots g c a hc
 unfold dI at this
 rw [abF] at this
 exact this.1
def YD (h:iI s) (b:g<abl s.sp) (hc:(c:Int)<s.ak):(s.jW g c).Ok∧((s.jW g c).w:Int)=(s.gs.getD g Gr.zero).weight:=by
 obtain ⟨w,a,_⟩:=q4a h (g:=g) (by rw [←h.sp];exact b)
 have h1:=q9s h b hc
 have e:s.jW g c=⟨(s.spot g c).v,(s.spot g c).r,w⟩:=by unfold aW.jW;rw [a];rfl
 rw [e]
 exact ⟨aaj h1 a (xU h.ok g c).v,a.symm⟩
def F4 {v w:Nat} (h:bK v r w=true):r<65536:=by
 unfold bK at h
 rw [decide_eq_true_eq] at h
 omega
theorem iI.run (h:iI s) (h0:0<g) (b:g<abl s.sp) (hc:(c:Int)<s.ak) (a:e.Ok) (f:(e.w:Int)=(s.gs.getD g Gr.zero).weight):iI (s.uJ g c e):=by
 refine h.spot b hc ⟨a.2,?_,(xU h.ok g c).floor⟩ (q9r h0 ?_)
 ·show e.r<_
  have:=F4 a.1
  omega
 ·show bK e.v e.r _=true
  rw [←f];exact a.1
theorem YE:(s.uJ g c e).sp.length=abl s.sp:=Du
def iI.wake (h:iI s) (hc:(c:Int)<s.ak):∀(l:List Nat),(∀g∈l,0<g∧g<abl s.sp)→iI (fZ s l c):=by
 intro l
 induction l generalizing s with
 |nil=>intro _;exact h
 |cons g r k=>
  intro b
  have f:=b g (acs ..)
  have h1:=YD h f.2 hc
  have h2:=aaw h1.1 (s.spot (s.par g).toNat c).floor s.aj (xU h.ok _ _).floor
  have h3:iI (lD c s g):=h.run f.1 f.2 hc h2.1 (by rw [h2.2];exact h1.2)
  exact k (s:=lD c s g) h3 hc λj a=>⟨(b j (aci _ a)).1,by rw [show (lD c s g).sp.length=abl s.sp from YE];exact (b j (aci _ a)).2⟩
structure dh (s s':aW):Prop where
 ak:s'.ak=s.ak
 aj:s'.aj=s.aj
 gs:s'.gs=s.gs
 cl:s'.cl=s.cl
 cu:s'.cu=s.cu
 ts:s'.ts=s.ts
 len:abl s'.sp=abl s.sp
 row:∀g,abl (s'.sp.getD g [])=abl (s.sp.getD g [])
theorem dh.refl (s:aW):dh s s:=⟨rfl,rfl,rfl,rfl,rfl,rfl,rfl,λ_=>rfl⟩
theorem dh.trans {a b c:aW} (h:dh a b) (k:dh b c):dh a c:=⟨k.ak.trans h.ak,k.aj.trans h.aj,k.gs.trans h.gs,k.cl.trans h.cl,k.cu.trans h.cu,k.ts.trans h.ts,k.len.trans h.len,λg=>(k.row g).trans (h.row g)⟩
theorem dh.spot:dh s (s.uI g c z):=⟨rfl,rfl,rfl,rfl,rfl,rfl,Du,YC⟩
theorem qc2 (c:Nat):∀(l:List Nat) (s:aW),dh s (fZ s l c)
 |[],s=>dh.refl s
 |g::r,s=>(dh.spot (s:=s)).trans (qc2 c r (lD c s g))
theorem PE (c d:Nat):∀(f g:Nat) (s:aW),dh s (oV c d f g s)
 |0,_,s=>dh.refl s
 |f+1,g,s=>by
  rw [oV]
  split
  ·exact dh.refl s
  ·exact (dh.spot (s:=s)).trans (PE c d f _ _)
def iI.BD (h:iI s) (hc:(c:Int)<s.ak) (d:Nat):∀(f g:Nat),g<abl s.sp→iI (oV c d f g s):=by
 intro f
 induction f generalizing s with
 |zero=>intro g _;exact h
 | succ f b =>
  intro g a
  rw [oV]
  split
  ·exact h
  ·rename_i h0
   have h1:=YD h a hc
   have h2:=aav h1.1 d
   have h3:iI (s.uJ g c ((s.jW g c).add d)):=h.run om a hc h2.1 (by rw [h2.2];exact h1.2)
   have j:=uE h.gs (g:=g) (by rw [←h.sp];exact a) g om (abq _)
   unfold dP at j
   exact b (s:=s.uJ g c ((s.jW g c).add d)) h3 hc _ (by rw [YE];show (s.gs.getD g Gr.zero).parent.toNat<_;omega)
theorem PG (a:g<abl s.sp):(eX s).sp.getD g []=(s.sp.getD g []).mapIdx λc x=>gQ s g c x:=by grind [eX]
theorem xX:(eX s).sp.length=abl s.sp:=by unfold eX;dsimp only;rw [List.length_mapIdx]
theorem YF (g:Nat):abl ((eX s).sp.getD g [])=abl (s.sp.getD g []):=by grind [PG,xX]
theorem YG (a:g<abl s.sp) (hc:c<abl (s.sp.getD g [])):(eX s).spot g c=gQ s g c (s.spot g c):=by grind [aW.spot,PG]
theorem PI (g c:Nat):((eX s).spot g c).v=(s.spot g c).v∧((eX s).spot g c).r=(s.spot g c).r:=by grind [aW.spot,Yj,eX,xX,YF,YG]
theorem q9t (g c:Nat):aO (eX s) g c=aO s g c:=by grind [Yi,eX,xX,PI]
def ziy (a:s.Ok) (b:aO s g c≠[]):(aJ bB (aO s g c)).v<18446744073709551616:=by
 rcases KZ (Pt a b) with ⟨t,ht,_,h2⟩|⟨h,_,_,_,_,h5⟩
 ·rw [h2];exact (a.ts t ht).v
 ·rw [h5];exact (xU a h c).v
def q9u (a:s.Ok) (hz:z.Ok):(gQ s g c z).Ok:=by
 unfold gQ
 split
 ·exact hz
 ·rename_i b
  have:=ziy a (show aO s g c≠[] by simpa using b)
  refine ⟨hz.v,hz.r,?_⟩
  show max z.floor (aJ bB (aO s g c)).v<_
  have:=hz.floor
  rw [afX]
  split<;>omega
def zfi {s s':aW} (a:s'.gs=s.gs) {z b:Sp} (f:b.v=z.v) (hr:b.r=z.r):dI s' g b=dI s g z:=by
 unfold dI
 rw [a,f,hr]
theorem iI.rise (h:iI s):iI (eX s):=by
 refine ⟨⟨h.ok.ak,h.ok.aj,h.ok.gs,h.ok.cl,h.ok.cu,h.ok.ts,λl f y b=>?_⟩,h.ak,h.aj,h.gs,h.cl,h.cu,xX.trans h.sp,h.cls,λg a=>?_,λg c a hc=>?_,h.sort,λu j=>?_⟩
 ·obtain ⟨g,a,rfl⟩:=uT [] f
  rw [xX] at a
  rw [PG a] at b
  obtain ⟨c,hc,rfl⟩:=acB b
  rw [List.getElem_mapIdx]
  exact q9u h.ok (h.ok.sp _ (qe [] a) _ (aeb _))
 ·rw [YF];exact h.rows g (by rwa [xX] at a)
 ·rw [xX] at a
  have e:=zfi (s:=s) (s':=eX s) (g:=g) rfl (PI (s:=s) g c).1 (PI (s:=s) g c).2
  rw [e]
  exact h.spots g c a hc
 ·rw [xX];exact h.tasks u j
theorem GoodS.rise (h:GoodS s):GoodS (eX s):=⟨h.sh.rise,h.cur⟩
theorem qze (h:GoodS s):kG (eX s)=true:=by
 have a:=h.rise
 unfold kG
 rw [(Lc a.sh.ok).2 a.sh,acz]
 refine uy λc hc=>?_
 rw [(Ld a.sh.sort).2 a.cur c hc,acz]
 refine uy λg b=>?_
 rw [xX] at b
 have f:(c:Int)<s.ak:=by have h1:=h.sh.cu;have h2:c<abl s.cu:=hc;omega
 have j:c<abl (s.sp.getD g []):=by have:=h.sh.rows g b;omega
 grind [ko,aO,gQ,q9t,YG]
def PK (a:s.Ok) (h:kG s=true):GoodS s:=by
 unfold kG at h
 rw [abF] at h
 have h1:=(Lc a).1 h.1
 refine ⟨h1,(Ld h1.sort).1 λc hc=>?_⟩
 grind [uz]
def F5 (h:iI s) (ht:s.ts[i]?=some t):eF t s.ak (abl s.sp)∧t.Ok:=⟨h.tasks t (abM ht),h.ok.ts t (abM ht)⟩
def Lf (a:eF t s.ak (abl s.sp)) (b:t.Ok) (f:e.Ok):eF (t.put e) s.ak (abl s.sp)∧(t.put e).Ok:=by
 have h1:=f.1
 unfold bK at h1
 rw [decide_eq_true_eq] at h1
 refine ⟨⟨a.id,a.group,a.cpu,⟨h1.1,h1.2.1⟩,a.mask,a.bit,f.1⟩,⟨b.id,b.group,?_,b.cpu,b.mask,f.2,?_⟩⟩
 ·show aR ((e.w:Nat):Int);unfold aR;omega
 ·show e.r<_;omega
def YH (a:eF t s.ak (abl s.sp)) (f:t.Ok) (b:Bool):eF {t with ready:=b} s.ak (abl s.sp)∧({t with ready:=b}:Tk).Ok:=⟨⟨a.id,a.group,a.cpu,a.weight,a.mask,a.bit,a.ent⟩,⟨f.id,f.group,f.weight,f.cpu,f.mask,f.v,f.r⟩⟩
def PL (a:eF t s.ak (abl s.sp)) (b:t.Ok):t.en.Ok∧(t.en.w:Int)=t.weight:=by
 have h1:=a.weight
 have e:t.en=⟨t.v,t.r,t.weight.toNat⟩:=rfl
 rw [e]
 exact ⟨aaj a.ent om b.v,by show ((t.weight.toNat:Nat):Int)=t.weight;omega⟩
def PN {id:Int} (h:¬fidx s.ts id<0):∃(k:Nat) (t:Tk),fidx s.ts id=(k:Int)∧s.ts[k]?=some t∧t.id=id∧nW s id=t:=by grind [FZ,wR]
theorem PO (h:iI s) (a:g<abl s.sp):∀k∈kH s g c,0<k∧k<abl s.sp:=λk b=>by
 have:=Ya (s:=s) (c:=c) (g:=g) (uE h.gs (by rw [←h.sp];exact a)) k b
 exact ⟨this.1,by omega⟩
theorem jw.but {s s':aW} (h:jw s) (hb:dh s s'):jw s':=by
 unfold jw
 rw [hb.cu,hb.ts]
 exact h
theorem qzf (h:GoodS s) (a:(xL s o).2.2=0):GoodS (xL s o).1:=by
 unfold xL at a⊢
 split at a
 ·cases a
 ·split at a
  ·cases a
  ·rename_i h1 h2
   rw [if_neg h1,if_neg h2]
   split at a
   ·cases a
   ·rename_i h3
    rw [if_neg h3]
    obtain ⟨k,t,u,ht,v,b⟩:=PN h2
    rw [b] at h3
    simp only [b,u,abG]
    obtain ⟨f,p⟩:=F5 h.sh ht
    have j:t.group.toNat<abl s.sp:=by have:=f.group;omega
    have l:=PL f p
    have w:=aaw l.1 (s.spot t.group.toNat t.cpu.toNat).floor s.aj (xU h.sh.ok _ _).floor
    have q:=Lf f p w.1
    have r:=YH q.1 q.2 true
    have m:iI (s.jo k {t.put (t.en.woken (s.spot t.group.toNat t.cpu.toNat).floor s.aj) with ready:=true}):=h.sh.task ht rfl r.2 r.1
    have n:jw (s.jo k {t.put (t.en.woken (s.spot t.group.toNat t.cpu.toNat).floor s.aj) with ready:=true}):=h.cur.task h.sh.sort ht rfl λx _=>absurd x h3
    exact ⟨m.wake (by show ((t.cpu.toNat:Nat):Int)<s.ak;have:=f.cpu;omega) _ (PO h.sh j),n.but (qc2 ..)⟩
theorem qoe (h:GoodS s) (a:(xM s o).2.2=0):GoodS (xM s o).1:=by
 unfold xM at a⊢
 split at a
 ·cases a
 ·split at a
  ·cases a
  ·rename_i h1 h2
   rw [if_neg h1,if_neg h2]
   split at a
   ·cases a
   ·rename_i h3
    rw [if_neg h3]
    obtain ⟨k,t,l,ht,m,b⟩:=PN h3
    simp only [b,l,abG]
    obtain ⟨n,f⟩:=F5 h.sh ht
    have q:1≤o.weight∧o.weight≤65536:=by simpa [lN] using h2
    obtain ⟨z,hz⟩:∃z:Nat,o.weight=(z:Int):=⟨o.weight.toNat,by omega⟩
    have j:=Lf n f (e:=⟨t.v,0,z⟩) ⟨by unfold bK;rw [decide_eq_true_eq];exact ⟨by show (1:Int)≤(z:Int);omega,by show (z:Int)≤_;omega,by show ((0:Nat):Int)<(z:Int);omega,.inr rfl⟩,f.v⟩
    have e:({t with r:=0,weight:=o.weight}:Tk)=t.put ⟨t.v,0,z⟩:=by rw [hz];rfl
    rw [e]
    exact ⟨h.sh.task ht rfl j.2 j.1,h.cur.task h.sh.sort ht rfl λp _=>⟨p,rfl⟩⟩
def zfj (h:iI s) {v:Int} (f:0≤v∧v≤281474976710656):iI {s with cl:=s.cl.set c v}:=by
 refine ⟨⟨h.ok.ak,h.ok.aj,h.ok.gs,λz hz=>?_,h.ok.cu,h.ok.ts,h.ok.sp⟩,h.ak,h.aj,h.gs,by show (abl (s.cl.set c v):Int)=_;rw [abO];exact h.cl,h.cu,h.sp,λd b=>?_,h.rows,h.spots,h.sort,h.tasks⟩
 ·rcases ab3 hz with h1|rfl
  ·exact h.ok.cl z h1
  ·unfold aR;omega
 ·have a:d<abl (s.cl.set c v):=b
  show gP ((s.cl.set c v).getD d 0)=true
  rw [abO] at a
  by_cases e:c=d
  ·grind [gP,q6]
  ·rw [getD_set_ne _ _ e]
   exact h.cls d a
def YI (h:iI s) {v:Int} (a:aR v):iI {s with cu:=s.cu.set c v}:=by
 refine ⟨⟨h.ok.ak,h.ok.aj,h.ok.gs,h.ok.cl,λz hz=>?_,h.ok.ts,h.ok.sp⟩,h.ak,h.aj,h.gs,h.cl,by show (abl (s.cu.set c v):Int)=_;rw [abO];exact h.cu,h.sp,h.cls,h.rows,h.spots,h.sort,h.tasks⟩
 rcases ab3 hz with h1|rfl
 ·exact h.ok.cu z h1
 ·exact a
def Dv {x:Int} (h:¬s.eG x=false):0≤x∧x<s.ak:=by
 unfold aW.eG at h
 simpa using h
theorem q4e (h:GoodS s) (a:(jq s o).2.2=0):GoodS (jq s o).1:=by
 unfold jq at a⊢
 split at a
 ·cases a
 ·split at a
  ·cases a
  ·rename_i h1 h2
   rw [if_neg h1,if_neg h2]
   split at a
   ·cases a
   ·rename_i h3
    rw [if_neg h3]
    have hc:=Dv h1
    have b:=h.sh.cls o.cpu.toNat (by have:=h.sh.cl;omega)
    have w:0≤s.cl.getD o.cpu.toNat 0∧s.cl.getD o.cpu.toNat 0≤281474976710656:=by unfold gP at b;simpa using b
    have f:iI {s with cl:=s.cl.set o.cpu.toNat (s.cl.getD o.cpu.toNat 0+o.ticks)}:=zfj h.sh ⟨by omega,by omega⟩
    dsimp only at a⊢
    by_cases h4:s.cu.getD o.cpu.toNat 0=0
    ·rw [if_pos h4];exact ⟨f,h.cur⟩
    ·rw [if_neg h4]
     rcases h.cur o.cpu.toNat (by have:=h.sh.cu;omega) with h5|⟨t,l,j,B,m⟩
     ·exact absurd h5 h4
     ·obtain ⟨k,x,rfl⟩:=uT Tk.zero l
      have n:=YB h.sh.sort x
      have ht:=getD_at Tk.zero x
      obtain ⟨t,p⟩:∃t,s.ts.getD k Tk.zero=t:=⟨_,rfl⟩
      rw [p] at j B m n ht
      rw [←j,n,wR n ht,abG]
      obtain ⟨q,y⟩:=F5 h.sh ht
      have r:=PL q y
      have C:=aav r.1 o.ticks.toNat
      have A:=Lf q y C.1
      have u:iI ({s with cl:=s.cl.set o.cpu.toNat (s.cl.getD o.cpu.toNat 0+o.ticks)}.jo k (t.put (t.en.add o.ticks.toNat))):=f.task ht rfl A.2 A.1
      have v:jw ({s with cl:=s.cl.set o.cpu.toNat (s.cl.getD o.cpu.toNat 0+o.ticks)}.jo k (t.put (t.en.add o.ticks.toNat))):=jw.task (s:={s with cl:=s.cl.set o.cpu.toNat (s.cl.getD o.cpu.toNat 0+o.ticks)}) h.cur h.sh.sort ht rfl λD _=>⟨D,rfl⟩
      exact ⟨u.BD (by show ((o.cpu.toNat:Nat):Int)<s.ak;omega) _ _ _ (by show t.group.toNat<abl s.sp;have:=q.group;omega),v.but (PE ..)⟩
def q9v (a:s.Ok):∀(n g:Nat),g<abl s.sp→abl s.sp-g≤n→uQ s c g=0∨∃t∈s.ts,t.ready=true∧t.cpu=(c:Int)∧uQ s c g=t.id.toNat:=by
 intro n
 induction n with
 |zero=>intro g b f;omega
 |succ n h=>
  grind [Tk.here,K3,Ye,Yc,Yd,aO]
theorem q4f (h:GoodS s) (a:(ku s o).2.2=0):GoodS (ku s o).1:=by
 unfold ku at a⊢
 split at a
 ·cases a
 ·rename_i h1
  rw [if_neg h1]
  have hc:=Dv h1
  have j:=(qp h.sh.gs).1
  have f:=q9v (c:=o.cpu.toNat) h.sh.ok (abl s.sp) 0 (by rw [h.sh.sp];omega) om
  rw [←q3r] at f
  have k:aR ((oD s o.cpu.toNat:Nat):Int):=by
   unfold aR
   rcases f with h2|⟨t,ht,_,_,h2⟩
   ·omega
   ·have:=(h.sh.tasks t ht).id;omega
  refine ⟨YI h.sh k,λd l=>?_⟩
  have b:d<abl s.cu:=by have h3:d<abl (s.cu.set o.cpu.toNat (oD s o.cpu.toNat:Int)):=l;rwa [abO] at h3
  show (s.cu.set o.cpu.toNat (oD s o.cpu.toNat:Int)).getD d 0=0∨_
  by_cases e:o.cpu.toNat=d
  ·grind
  ·show (s.cu.set o.cpu.toNat (oD s o.cpu.toNat:Int)).getD d 0=0∨∃t∈s.ts,t.id=(s.cu.set o.cpu.toNat (oD s o.cpu.toNat:Int)).getD d 0∧_
   rw [getD_set_ne _ _ e]
   exact h.cur d b
end
theorem qr3:∀{l m:List Nat},(∀x∈l,x<18446744073709551616)→(∀x∈m,x<18446744073709551616)→l.flatMap au=m.flatMap au→l=m
 |[],[],_,_,_=>rfl
 |[],y::m,_,_,h=>by
  have h1:=congrArg adz h
  grind [EP]
 |x::l,[],_,_,h=>by
  have h1:=congrArg adz h
  grind [EP]
 |x::l,y::m,h1,h2,h=>by
  rw [abT,abT] at h
  have a:=Kq (l.flatMap au) (h1 x (acs ..))
  have b:=Kq (m.flatMap au) (h2 y (acs ..))
  rw [h,b] at a
  injection a with c d
  subst c
  rw [qr3 (λz hz=>h1 z (aci _ hz)) (λz hz=>h2 z (aci _ hz)) (List.append_cancel_left h)]
def Ip {l m:List α} (d:α) (a:abl l=abl m) (h:∀i,i<abl l→l.getD i d=m.getD i d):l=m:=by grind [List.ext_getElem,abp]
def Ms {f g:Nat→List α}:∀k,(∀i,i<k→abl (f i)=abl (g i))→dS k f=dS k g→∀i,i<k→f i=g i:=by intro x;induction x<;>grind [qz,List.append_inj',ab7]
def yK {x y:Int} (a:0≤x∧x<9223372036854775808) (hy:0≤y∧y<9223372036854775808) (h:aH x=aH y):x=y:=by unfold aH at h;omega
def qle {l m:List Int} (a:abl l=abl m) (h1:∀i,i<abl l→0≤l.getD i 0∧l.getD i 0<9223372036854775808) (h2:∀i,i<abl m→0≤m.getD i 0∧m.getD i 0<9223372036854775808) (h:l.map aH=m.map aH):l=m:=by
 refine Ip 0 a λi hi=>yK (h1 i hi) (h2 i om) ?_
 have h3:(l.map aH)[i]?=(m.map aH)[i]?:=by rw [h]
 grind
def zjr {p:Int} {u:Tk} {c d:Int} (ht:eF t c n) (a:eF u d m) (b:0≤p∧p<t.id∧p<u.id) (e:n≤1000000∧m≤1000000∧c≤64∧d≤64) (h:lY p t=lY p u):t=u:=by
 unfold lY at h
 simp only [List.cons.injEq,and_true] at h
 obtain ⟨h1,h2,h3,h4,h5,h6,h7,h8⟩:=h
 have f:=yK (by have:=ht.id;omega) (by have:=a.id;omega) h1
 have g:=yK (by have:=ht.group;omega) (by have:=a.group;omega) h2
 have i:=yK (by have:=ht.weight;omega) (by have:=a.weight;omega) h3
 have j:=yK (by have:=ht.cpu;omega) (by have:=a.cpu;omega) h4
 have k:t.ready=u.ready:=by
  grind
 cases t;cases u
 grind
def zjs {s':aW} {x y:Sp} (a:dI s g x=true) (hy:dI s' g y=true) (h:mJ g x=mJ g y):x=y:=by
 unfold dI at a hy
 rw [abF,adw,decide_eq_true_eq,bne_iff_ne] at a hy
 cases x;cases y
 grind [OH,KP]
def zjt {x y:Gr} (h1:x.parent=y.parent) (h2:x.weight=y.weight):x=y:=by
 cases x;cases y
 rw [Gr.mk.injEq]
 exact ⟨h1,h2⟩
def q6m (hs:dW l) {i:Nat} (hi:i<abl l) (h1:∀t∈l,1≤t.id):0≤qo l i∧qo l i<(l.getD i Tk.zero).id:=by
 unfold qo
 split
 ·have:=h1 _ (qe Tk.zero hi);omega
 ·have:=h1 _ (qe Tk.zero (show i-1<abl l by omega))
  have:=hs (i-1) i om hi
  omega
def zdd (h:GoodS s) {c:Nat} (hc:c<abl s.cu):0≤s.cu.getD c 0∧s.cu.getD c 0<9223372036854775808:=by
 rcases h.cur c hc with h1|⟨t,ht,h1,_⟩
 ·rw [h1];decide
 ·have:=(h.sh.tasks t ht).id;omega
theorem qxf (g:Nat) (z a:Sp):abl (mJ g z)=abl (mJ g a):=by
 unfold mJ
 split<;>rfl
def zbc (g:Nat) {l m:List Sp} (h:abl l=abl m):abl (ni g l)=abl (ni g m):=by
 unfold ni
 rw [h]
 have key:∀k,abl (dS k λc=>mJ g (l.getD c Sp.zero))=abl (dS k λc=>mJ g (m.getD c Sp.zero)):=λk=>by
  induction k with
  |zero=>rfl
  |succ k a=>rw [qz,qz,abn,abn,a,qxf]
 exact key _
def zbd {a b:cO} (P:bV a=0) (hb:bV b=0) (Q:a.st.av.Ok) (R:b.st.av.Ok) (h:dU a=dU b):eD a b:=by
 obtain ⟨na,S⟩:=xQ P
 obtain ⟨nb,T⟩:=xQ hb
 have G:=PK Q S
 have H:=PK R T
 have e:=G.sh
 have j:=H.sh
 have x:=e.ak;have y:=j.ak
 have la:(abl a.st.cl:Int)=a.st.ak:=e.cl
 have lb:(abl b.st.cl:Int)=b.st.ak:=j.cl
 have ua:(abl a.st.cu:Int)=a.st.ak:=e.cu
 have ub:(abl b.st.cu:Int)=b.st.ak:=j.cu
 have ea:abl a.st.rs=abl a.st.gs:=by rw [←uN];exact e.sp
 have eb:abl b.st.rs=abl b.st.gs:=by rw [←uN];exact j.sp
 replace x:1≤a.st.ak∧a.st.ak≤64:=x
 replace y:1≤b.st.ak∧b.st.ak≤64:=y
 rw [Dj,Dj] at h
 simp only [aby] at h
 obtain ⟨h0,h⟩:=adi h rfl
 obtain ⟨h1,h⟩:=adi h rfl
 simp only [aF,List.cons.injEq,and_true] at h0 h1
 have U:a.next=b.next:=yK om om h0
 obtain ⟨z,e2,e3⟩:=h1
 have e1:a.st.ak=b.st.ak:=yK om om z
 obtain ⟨h2,h⟩:=adi h (by show abl (dS _ _)=abl (dS _ _);rw [FM (m:=2) (λi=>rfl),FM (m:=2) (λi=>rfl),e3])
 obtain ⟨h3,h⟩:=adi h (by show abl (afD _ _)=abl (afD _ _);rw [abu,abu];omega)
 obtain ⟨h4,h⟩:=adi h (by show abl (afD _ _)=abl (afD _ _);rw [abu,abu];omega)
 have e7:abl a.st.ts=abl b.st.ts:=by
  have h5:(abl a.st.ts::_)=(abl b.st.ts::_):=h
  injection h5
 obtain ⟨h5,h6⟩:=adi h (by show abl (_::dS _ _)=abl (_::dS _ _);rw [ab1,ab1,FM (m:=8) (λi=>rfl),FM (m:=8) (λi=>rfl),e7])
 have A:bU a.st.gs=true:=e.gs
 have B:bU b.st.gs=true:=j.gs
 have V:=qp A;have W:=qp B
 have X:a.st.gs=b.st.gs:=by
  refine Ip Gr.zero e3 λi hi=>?_
  rcases ach i with rfl|k
  ·exact V.2.2.1.trans W.2.2.1.symm
  ·have h8:=Ms (f:=sS a.st.gs) (g:=sS b.st.gs) (abl a.st.gs-1) (λi hi=>rfl) (h2.trans (by show dS _ _=_;rw [e3])) (i-1) om
   unfold sS at h8
   rw [Nat.sub_add_cancel k] at h8
   simp only [List.cons.injEq,and_true] at h8
   have C:=uE A (g:=i) hi i k (abq _)
   have D:=uE B (g:=i) om i k (abq _)
   unfold dP at C D
   obtain ⟨wa,Y,I,J⟩:=Dn A (g:=i) hi
   obtain ⟨wb,Z,K,L⟩:=Dn B (g:=i) om
   exact zjt (yK om om h8.1) (yK om om h8.2)
 have E:a.st.cl=b.st.cl:=qle om
  (λi hi=>by have h9:0≤a.st.cl.getD i 0∧a.st.cl.getD i 0≤281474976710656:=of_decide_eq_true (e.cls i hi);omega)
  (λi hi=>by have h9:0≤b.st.cl.getD i 0∧b.st.cl.getD i 0≤281474976710656:=of_decide_eq_true (j.cls i hi);omega) h3
 have F:a.st.cu=b.st.cu:=qle om (λi hi=>zdd G hi) (λi hi=>zdd H hi) h4
 have q:abl a.st.av.sp=abl a.st.rs:=uN _
 have r:abl b.st.av.sp=abl b.st.rs:=uN _
 have et:a.st.ts=b.st.ts:=by
  have n:(abl a.st.ts::dS (abl a.st.ts) λi=>lY (qo a.st.ts i) (a.st.ts.getD i Tk.zero))=(abl b.st.ts::dS (abl b.st.ts) λi=>lY (qo b.st.ts i) (b.st.ts.getD i Tk.zero)):=h5
  injection n with _ n
  rw [←e7] at n
  have h8:∀i,i<abl a.st.ts→lY (qo a.st.ts i) (a.st.ts.getD i Tk.zero)=lY (qo b.st.ts i) (b.st.ts.getD i Tk.zero):=Ms (f:=λi=>lY (qo a.st.ts i) (a.st.ts.getD i Tk.zero)) (g:=λi=>lY (qo b.st.ts i) (b.st.ts.getD i Tk.zero)) (abl a.st.ts) (λi _=>rfl) n
  refine Ip Tk.zero e7 λi hi=>?_
  induction i using ae0 with
  | _ i ih =>
   have M:qo b.st.ts i=qo a.st.ts i:=by
    grind [qo]
   have h9:=h8 i hi
   rw [M] at h9
   have p:=q6m e.sort hi λt ht=>(e.tasks t ht).id.1
   have s:=q6m j.sort (show i<abl b.st.av.ts by show i<abl b.st.ts;omega) λt ht=>(j.tasks t ht).id.1
   have u:qo b.st.ts i<(b.st.ts.getD i Tk.zero).id:=s.2
   rw [M] at u
   exact zjr (e.tasks _ (qe Tk.zero hi)) (j.tasks _ (qe Tk.zero (show i<abl b.st.av.ts by show i<abl b.st.ts;omega))) ⟨p.1,p.2,u⟩ ⟨by omega,by omega,x.2,y.2⟩ h9
 have er:jc a.st=jc b.st:=by
  refine Ip [] (by rw [uN,uN];omega) λg hg=>?_
  have d:g<abl a.st.rs:=by rwa [uN] at hg
  have o:g<abl b.st.rs:=by omega
  have N:∀g,g<abl a.st.rs→((a.st.rs.getD g Rw.zero).l.length:Int)=a.st.ak:=λg h=>by rw [←xR h];exact e.rows g (by rw [q];exact h)
  have O:∀g,g<abl b.st.rs→((b.st.rs.getD g Rw.zero).l.length:Int)=b.st.ak:=λg h=>by rw [←xR h];exact j.rows g (by rw [r];exact h)
  have w:∀g,g<abl a.st.rs→(a.st.rs.getD g Rw.zero).l.length=(b.st.rs.getD g Rw.zero).l.length:=λg h=>by have:=N g h;have:=O g om;omega
  have v:dS (abl a.st.rs) (λg=>ni g (a.st.rs.getD g Rw.zero).l)=dS (abl b.st.rs) (λg=>ni g (b.st.rs.getD g Rw.zero).l):=h6
  rw [show abl b.st.rs=abl a.st.rs by omega] at v
  have h8:ni g (a.st.rs.getD g Rw.zero).l=ni g (b.st.rs.getD g Rw.zero).l:=Ms (f:=λg=>ni g (a.st.rs.getD g Rw.zero).l) (g:=λg=>ni g (b.st.rs.getD g Rw.zero).l) (abl a.st.rs) (λi hi=>zbc i (w i hi)) v g d
  rw [xR d,xR o]
  refine Ip Sp.zero (w g d) λc hc=>?_
  unfold ni at h8
  rw [←w g d] at h8
  have h9:mJ g ((a.st.rs.getD g Rw.zero).l.getD c Sp.zero)=mJ g ((b.st.rs.getD g Rw.zero).l.getD c Sp.zero):=Ms (f:=λc=>mJ g ((a.st.rs.getD g Rw.zero).l.getD c Sp.zero)) (g:=λc=>mJ g ((b.st.rs.getD g Rw.zero).l.getD c Sp.zero)) _ (λc _=>qxf g _ _) h8 c hc
  have p:=e.spots g c (by rw [q];exact d) (by have:=N g d;show (c:Int)<a.st.ak;omega)
  have s:=j.spots g c (by rw [r];exact o) (by have:=O g o;have:=w g d;show (c:Int)<b.st.ak;omega)
  unfold aW.spot at p s
  rw [show a.st.av.sp.getD g []=_ from xR d] at p
  rw [show b.st.av.sp.getD g []=_ from xR o] at s
  exact zjs p s h9
 exact ⟨U,e1,e2,X,E,F,et,er⟩
section
variable {s:aW} {g c i d:Nat} {t t':Tk} {o:bC}
theorem YJ {l a:List Gr} (h:∀g,(l.getD g Gr.zero).parent=(a.getD g Gr.zero).parent):∀f g,ji l f g=ji a f g
 |0,_=>rfl
 |f+1,g=>by rw [ji,ji,h g,YJ h f]
def q9w {l:List Gr} {w:Int} (h:bU l=true) (h0:0<g) (a:g<abl l) (b:lN w=true):bU (l.set g {l.getD g Gr.zero with weight:=w})=true:=by grind [Gr.zero,uy,YJ,iG,oQ,getD_set_ne,q6,bU,qp]
theorem qre (h:GoodS s) (b:(xO s o).2.2=0):GoodS (xO s o).1:=by
 unfold xO at b⊢
 split at b
 ·cases b
 ·split at b
  ·cases b
  ·rename_i h1 h2
   rw [if_neg h1,if_neg h2]
   obtain ⟨g,B⟩:∃g:Nat,o.group=(g:Int):=⟨o.group.toNat,by omega⟩
   rw [B,abG]
   have C:lN o.weight=true:=by simpa using h2
   have p:1≤o.weight∧o.weight≤65536:=by simpa [lN] using h2
   have f:g<abl s.sp:=by omega
   have j:g<abl s.gs:=by rw [←h.sh.sp];exact f
   have q:=h.sh.ok.gs _ (qe Gr.zero j)
   have a:abl (s.sp.set g ((s.sp.getD g []).map λx=>{x with r:=0}))=abl s.sp:=abO ..
   have w:∀k e:Nat,((s.sp.set g ((s.sp.getD g []).map λx=>{x with r:=0})).getD k []).getD e Sp.zero=if k=g then r0 (s.spot k e) else s.spot k e:=λk e=>by
    by_cases m:g=k
    ·subst m
     rw [q6 _ _ f,if_pos rfl]
     show _=r0 ((s.sp.getD g []).getD e Sp.zero)
     rw [abo,List.getElem?_map,abo (l:=s.sp.getD g [])]
     cases (s.sp.getD g [])[e]?<;>rfl
    ·rw [getD_set_ne _ _ m,if_neg (λh=>m h.symm)];rfl
   refine ⟨⟨⟨h.sh.ok.ak,h.sh.ok.aj,λx D=>?_,h.sh.ok.cl,h.sh.ok.cu,h.sh.ok.ts,λl E y A=>?_⟩,h.sh.ak,h.sh.aj,q9w h.sh.gs om j C,h.sh.cl,h.sh.cu,?_,h.sh.cls,λk m=>?_,λk e m b=>?_,h.sh.sort,λu F=>?_⟩,h.cur⟩
   ·rcases ab3 D with h3|rfl
    ·exact h.sh.ok.gs x h3
    ·exact ⟨q.parent,by show aR o.weight;unfold aR;omega⟩
   ·rcases ab3 E with h3|rfl
    ·exact h.sh.ok.sp l h3 y A
    ·obtain ⟨z,hz,rfl⟩:=ab6.1 A
     have:=h.sh.ok.sp _ (qe [] f) z hz
     exact ⟨this.v,by show 0<_;omega,this.floor⟩
   ·rw [a,abO];exact h.sh.sp
   ·have n:k<abl s.sp:=by rw [←a];exact m
    have:=h.sh.rows k n
    grind
   ·have n:k<abl s.sp:=by rw [←a];exact m
    have h3:=h.sh.spots k e n b
    unfold dI at h3⊢
    have e1:=w k e
    unfold aW.spot at h3⊢e1
    dsimp only at h3⊢e1
    rw [e1]
    by_cases e2:g=k
    ·subst e2
     rw [if_pos rfl,q6 _ _ j]
     rw [abF] at h3⊢
     have h4:=h3.1
     unfold bK at h4⊢
     rw [decide_eq_true_eq] at h4⊢
     refine ⟨⟨p.1,p.2,by show ((0:Nat):Int)<o.weight;omega,.inr rfl⟩,?_⟩
     grind
    ·grind
   ·show eF u s.ak (abl (s.sp.set g _))
    rw [a]
    exact h.sh.tasks u F
theorem YK (h:GoodS s) (ht:s.ts[i]?=some t) {to:Nat} (b:(to:Int)<s.ak) (hb:t.mask/2^to%2=1) (n:∀d,d<abl s.cu→s.cu.getD d 0=t.id→t.cpu=(d:Int)→False):GoodS (iZ s i (to:Int)):=by
 unfold iZ
 rw [sV Tk.zero ht]
 dsimp only
 rw [abG]
 obtain ⟨j,m⟩:=F5 h.sh ht
 have k:=PL j m
 have hm:=aaK k.1 (s.spot t.group.toNat t.cpu.toNat).floor (s.spot t.group.toNat to).floor (xU h.sh.ok _ _).floor
 have a:=Lf j m hm.1
 have p:aR (to:Int):=by have:=h.sh.ak;unfold aR;omega
 have e:iI (s.jo i {t.put (t.en.moved (s.spot t.group.toNat t.cpu.toNat).floor (s.spot t.group.toNat to).floor) with cpu:=(to:Int)}):=
  h.sh.task ht rfl ⟨a.2.id,a.2.group,a.2.weight,p,a.2.mask,a.2.v,a.2.r⟩ ⟨a.1.id,a.1.group,⟨by show (0:Int)≤(to:Int);omega,b⟩,a.1.weight,a.1.mask,by show t.mask/2^ ((to:Int)).toNat%2=1;rw [abG];exact hb,a.1.ent⟩
 have f:jw (s.jo i {t.put (t.en.moved (s.spot t.group.toNat t.cpu.toNat).floor (s.spot t.group.toNat to).floor) with cpu:=(to:Int)}):=
  h.cur.task h.sh.sort ht rfl λ_ ⟨d,h1,h2,h3⟩=>(n d h1 h2 h3).elim
 have l:t.group.toNat<abl s.sp:=by have:=j.group;omega
 split
 ·exact ⟨e.wake b _ (PO h.sh l),f.but (qc2 ..)⟩
 ·exact ⟨e,f⟩
theorem PS {x:Int} (h:iY m x=true):m/2^x.toNat%2=1:=of_decide_eq_true h
theorem qrg (h:GoodS s) (a:(xP s o).2.2=0):GoodS (xP s o).1:=by
 unfold xP at a⊢
 split at a
 ·cases a
 ·split at a
  ·cases a
  ·split at a
   ·cases a
   ·split at a
    ·cases a
    ·split at a
     ·cases a
     ·split at a
      ·cases a
      ·rename_i h1 h2 h3 h4 h5 h6
       rw [if_neg h1,if_neg h2,if_neg h3,if_neg h4,if_neg h5,if_neg h6]
       obtain ⟨k,t,j,ht,b,e⟩:=PN h3
       have f:=Dv h1
       grind [iY,PS,qe,YK]
def q9x:∀{n b:Nat},fO s o n=some b→sj s o (s.ts.getD b Tk.zero)=true:=by intro x;induction x<;>grind [fO]
theorem qrh (h:GoodS s) (a:(uK s o).2.2=0):GoodS (uK s o).1:=by
 unfold uK at a⊢
 split at a
 ·cases a
 ·rename_i h1
  rw [if_neg h1]
  cases hb:fO s o (abl s.ts) with
  |none=>rw [hb] at a;cases a
  |some b=>
   dsimp only
   have e:=Yq hb
   have hm:=q9x hb
   have ht:=getD_at Tk.zero e
   have f:=Dv h1
   grind [PS,YK,sj]
theorem PU:dW l↔l.Pairwise λa b=>a.id<b.id:=by
 rw [List.pairwise_iff_getElem]
 constructor
 ·intro h i j hi f e
  have:=h i j e f
  grind
 ·intro h i j e f
  grind
theorem iI.ts (h:iI s) {l:List Tk} (hs:dW l) (b:∀u∈l,eF u s.ak (abl s.sp)∧u.Ok):iI {s with ts:=l}:=
 ⟨⟨h.ok.ak,h.ok.aj,h.ok.gs,h.ok.cl,h.ok.cu,λu a=>(b u a).2,h.ok.sp⟩,h.ak,h.aj,h.gs,h.cl,h.cu,h.sp,h.cls,h.rows,h.spots,hs,λu a=>(b u a).1⟩
def q4h {id:Int} (h:¬0≤fidx l id):∀t∈l,t.id≠id:=by grind [Tk.zero,OC,fJ,qe]
def YL {p:α→Bool}:∀{l:List α} {u:α},u∈l.takeWhile p→p u=true
 |[],u,h=>by cases h
 | a :: r, u, h => by
  rw [aer] at h
  split at h
  ·rename_i b
   rcases ab0.1 h with rfl|h
   ·exact b
   ·exact YL h
  ·cases h
def YM {p:α→Bool}:∀{l:List α} {a:α} {r:List α},l.dropWhile p=a::r→p a=false
 |[],_,_,h=>by cases h
 |b::q,a,r,h=>by
  rw [List.dropWhile_cons] at h
  split at h
  ·exact YM h
  ·grind
def q9y {id:Int} (hs:dW l) (k:∀t∈l,t.id≠id) (ht:t.id=id):dW ((l.takeWhile λt=>decide (t.id≤id))++t::(l.dropWhile λt=>decide (t.id≤id))):=by
 rw [PU] at hs⊢
 have j:∀u∈l.takeWhile (λt=>decide (t.id≤id)),u.id<id:=λu e=>by
  have h1:=YL e
  rw [decide_eq_true_eq] at h1
  have:=k u ((aef _).subset e)
  omega
 have f:=hs.sublist (List.dropWhile_sublist λt=>decide (t.id≤id))
 have h:∀u∈l.dropWhile (λt=>decide (t.id≤id)),id<u.id:=λu e=>by
  cases hdr:l.dropWhile (λt=>decide (t.id≤id)) with
  |nil=>rw [hdr] at e;cases e
  | cons a r =>
   have h1:¬decide (a.id≤id)=true:=by
    have:=YM hdr
    rw [this];decide
   rw [decide_eq_true_eq] at h1
   rw [hdr] at e f
   rcases ab0.1 e with rfl|e
   ·omega
   ·have:=(ad3.1 f).1 u e;omega
 rw [List.pairwise_append]
 refine ⟨hs.sublist (aef _),ad3.2 ⟨λu e=>?_,f⟩,λa m b n=>?_⟩
 ·have:=h u e;omega
 ·grind
def YN {p:Tk→Bool} {u:Tk}:u∈l.takeWhile p++t::l.dropWhile p↔u=t∨u∈l:=by grind [aeI]
theorem qzg (e : o.Ok) (h : GoodS s) (a : (xK s o).2.2 = 0) : GoodS (xK s o).1 := by
 unfold xK at a⊢
 split at a
 ·cases a
 ·split at a
  ·cases a
  ·split at a
   ·cases a
   ·split at a
    ·cases a
    ·split at a
     ·cases a
     ·split at a
      ·cases a
      ·rename_i h1 h2 h3 h4 h5 h6
       rw [if_neg h1,if_neg h2,if_neg h3,if_neg h4,if_neg h5,if_neg h6]
       have hc:=Dv h1
       have f:o.group.toNat<abl s.sp:=by omega
       have j:1≤o.task∧o.task≤65535:=by simpa [nV] using h2
       have k:0≤o.group∧o.group<abl s.sp:=Classical.not_not.1 h3
       have l:1≤o.weight∧o.weight≤65536:=by have:=λh=>h4 (.inl h);simpa [lN] using this
       have hm:wM o.mask s.ak=false:=by have:=λh=>h4 (.inr (.inr h));simpa using this
       have r:o.mask/2^o.cpu.toNat%2=1:=PS (by simpa using h6)
       have v:=(xU h.sh.ok o.group.toNat o.cpu.toNat).floor
       have m:eF (⟨o.task,o.group,o.weight,o.cpu,o.mask,true,(s.spot o.group.toNat o.cpu.toNat).floor,0⟩:Tk) s.ak (abl s.sp):=⟨j,k,hc,l,hm,r,by unfold bK;rw [decide_eq_true_eq];exact ⟨l.1,l.2,by show ((0:Nat):Int)<o.weight;omega,.inr rfl⟩⟩
       have n:(⟨o.task,o.group,o.weight,o.cpu,o.mask,true,(s.spot o.group.toNat o.cpu.toNat).floor,0⟩:Tk).Ok:=⟨e.task,e.group,e.weight,e.cpu,e.mask,v,by show 0<_;omega⟩
       have p:=h.sh.ts (q9y h.sh.sort (q4h h5) (t:=⟨o.task,o.group,o.weight,o.cpu,o.mask,true,(s.spot o.group.toNat o.cpu.toNat).floor,0⟩) rfl) (λu b=>by
        rcases YN.1 b with rfl|b
        ·exact ⟨m,n⟩
        ·exact ⟨h.sh.tasks u b,h.sh.ok.ts u b⟩)
       have q:jw {s with ts:=(s.ts.takeWhile λt=>decide (t.id≤o.task))++(⟨o.task,o.group,o.weight,o.cpu,o.mask,true,(s.spot o.group.toNat o.cpu.toNat).floor,0⟩::(s.ts.dropWhile λt=>decide (t.id≤o.task)))}:=λd w=>by
        rcases h.cur d w with h7|⟨u,b,h7⟩
        ·exact .inl h7
        ·exact .inr ⟨u,YN.2 (.inr b),h7⟩
       exact ⟨p.wake (by show ((o.cpu.toNat:Nat):Int)<s.ak;omega) _ (PO h.sh f),q.but (qc2 ..)⟩
theorem qzh (h:GoodS s) (n:(qX s o).2.2=0):GoodS (qX s o).1:=by
 unfold qX at n⊢
 split at n
 ·cases n
 ·split at n
  ·cases n
  ·rename_i h1 h2
   rw [if_neg h1,if_neg h2]
   have hc:=Dv h1
   dsimp only
   rcases h.cur o.cpu.toNat (by have:=h.sh.cu;omega) with h5|⟨t,x,p,E,y⟩
   ·exact absurd h5 h2
   ·obtain ⟨k,C,rfl⟩:=uT Tk.zero x
    have D:=YB h.sh.sort C
    have ht:=getD_at Tk.zero C
    obtain ⟨t,q⟩:∃t,s.ts.getD k Tk.zero=t:=⟨_,rfl⟩
    rw [q] at p E y D ht
    rw [←p,D,abG,q]
    obtain ⟨F,z⟩:=F5 h.sh ht
    have r:=YH F z false
    have A:iI {s with cu:=s.cu.set o.cpu.toNat 0}:=YI h.sh (by unfold aR;omega)
    have a:iI {s with cu:=s.cu.set o.cpu.toNat 0,ts:=s.ts.set k {t with ready:=false}}:=A.task (s:={s with cu:=s.cu.set o.cpu.toNat 0}) ht rfl r.2 r.1
    have f:∀d,d<abl (s.cu.set o.cpu.toNat 0)→(s.cu.set o.cpu.toNat 0).getD d 0=0∨∃j u,s.ts[j]?=some u∧j≠k∧u.id=(s.cu.set o.cpu.toNat 0).getD d 0∧u.ready=true∧u.cpu=(d:Int):=λd m=>by
     rw [abO] at m
     by_cases e:o.cpu.toNat=d
     ·grind
     ·rw [getD_set_ne _ _ e]
      rcases h.cur d m with h6|⟨u,B,h6,h7,h8⟩
      ·exact .inl h6
      ·obtain ⟨j,w,rfl⟩:=uT Tk.zero B
       grind
    split
    ·refine ⟨a.ts (s:={s with cu:=s.cu.set o.cpu.toNat 0,ts:=s.ts.set k {t with ready:=false}}) (l:=(s.ts.set k {t with ready:=false}).eraseIdx k) (PU.2 ((PU.1 a.sort).sublist (afL ..))) (λu B=>?_),λd m=>?_⟩
     ·have v:=(afL ..).subset B
      exact ⟨a.tasks u v,a.ok.ts u v⟩
     ·rcases f d m with h6|⟨j,u,w,b,h6⟩
      ·exact .inl h6
      ·refine .inr ⟨u,?_,h6⟩
       have h7:(s.ts.set k {t with ready:=false})[j]?=some u:=by rw [aeo (λe=>b e.symm)];exact w
       exact List.mem_eraseIdx_iff_getElem?.2 ⟨j,b,h7⟩
    ·refine ⟨a,λd m=>?_⟩
     rcases f d m with h6|⟨j,u,w,b,h6⟩
     ·exact .inl h6
     ·refine .inr ⟨u,?_,h6⟩
      have h7:(s.ts.set k {t with ready:=false})[j]?=some u:=by rw [aeo (λe=>b e.symm)];exact w
      exact abM h7
theorem PV (a:o.Ok) (h:GoodS s) (b:(bX s o).2.2=0):GoodS (bX s o).1:=by grind [qrh,qzh,qrg,q4f,qre,qoe,qzf,qzg,q4e,bX]
end
def Lg (w:World) (R:List Nat) (r:Ending) (a:World):Prop:=
 (∃A c,r= .returned (.slice A (abl R) c)∧a.ownsRow w.heap.size 3 1 (.slice A (abl R) c) (abl R) (R.map dD)∧abl R≤c)∧Below w.heap.size w a
def YO {q R:List Nat} (a:q=R) (b:W.ownsRow w.heap.size 3 1 (.slice A (abl q) c) (abl q) (q.map dD)) (hc:abl q≤c) (hb:Below w.heap.size w W):Lg w R (.returned (.slice A (abl q) c)) W:=by
 subst a
 exact ⟨⟨A,c,rfl,b,hc⟩,hb⟩
def zfk (b:x.av.Ok) (a:ShAt x) (e:aO x.av g c≠[]):(aJ bB (aO x.av g c)).id≤1000000:=by
 rcases K3 b e with ⟨_,t,ht,_,h2⟩|⟨_,h,h3,_,h5,_⟩
 ·obtain ⟨i,hi,rfl⟩:=acB ht
  have h4:=oW (a.tk i hi)
  rw [abo,abp (l:=x.ts) hi] at h4
  have h5:1≤(x.av.ts[i]).id∧(x.av.ts[i]).id≤65535:=h4
  rw [h2]
  show (x.av.ts[i]).id.toNat≤1000000
  omega
 ·rw [h3]
  rw [kQ,a.rs] at h5
  obtain ⟨_,_,_,d⟩:=lX a.cfg
  have:=(qp d).2.1
  omega
def YP (a:ShAt x):∀t∈x.ts,1≤t.weight∧t.weight≤65536:=by
 intro t ht
 obtain ⟨i,hi,rfl⟩:=acB ht
 have h1:=(Dg (a.tk i hi)).2
 rw [abo,abp hi] at h1
 unfold dH lN at h1
 simp only [abF,decide_eq_true_eq,Option.getD_some] at h1
 exact h1.2.1
def q4j (x:aC) (E g c:Nat) (w:World) (H:x.av.Ok) (F:bN x) (o:ShAt x) (I:dZ w x) (hm:w.heap[E]?=some (.cells #[vI x.ak,vQ x.aj,abh x.gA x.gs x.gc,abh x.lA x.cl x.lc,abh x.uA x.cu x.uc,abh x.tA x.ts x.tc,abh x.sA x.rs x.sc,.bool true] 273 (0,0))) (hc:(c:Int)<x.ak) (hg:g<abl x.rs):
    Calls abm 200 #[vP E 0,vI g,vI c] w (Lg w (kH x.av g c)):=by
 have P:=F.s;have Q:=F.t;have R:=F.g;have V:=o.rs
 obtain ⟨W,Y,_,r⟩:=lX o.cfg
 refine (xD Tryz.func200 35) ?_
 refine (JP∘Jp 1∘Jq∘JC (h:=by exact λb=>b.nil 3 1)∘JG∘JP∘Jp 1∘Jj∘JQ∘JB) λa Z b=>?_
 refine qg (λS aS wS=>∃(k:Nat) (q:List Nat) (X:Option Addr) (G:Nat),(k≤g)∧(q++kH x.av k c=kH x.av g c)∧(abl q≤g-k)∧(abl q≤G)∧S=0+k∧Fr aS 35 [] [(7,abh X q G),(6,vN),(0,vP E 0),(1,vI k),(2,vI c)]∧Mem w wS [abj X q G dD 3 1]) (m:=0+g) ⟨g,[],none,0,abq _,rfl,abw _,abq _,rfl,Z.sub kr,b.pk [0]⟩ ?_
 clear Z b;rintro S a w_ ⟨k,q,X,G,hk,J,YQ,u,rfl,Z,b⟩
 refine Jb Z b ((JQ∘JP∘Jp 2∘aK∘Jj) (Ji (λz=>?_) λz=>?_))
 ·
  have A:0<k:=by omega
  have K:=uE r (g:=k) om k A (abq _)
  intro a Z b
  unfold dP at K
  obtain ⟨y,T⟩:∃y:Nat,(x.gs.getD k Gr.zero).parent=(y:Int):=⟨(x.gs.getD k Gr.zero).parent.toNat,by omega⟩
  refine Jb Z b ((JT∘aD∘JQ∘JB∘JQ∘JP∘Jp 3∘JL (h:=by exact λb=>KS x H F o E c om _ k (abq _) om _ (I.old b) (b.kM hm))) ?_)
  rintro b _ F6 ⟨rfl,L⟩
  refine ⟨_,rfl,_,b.call L,?_⟩
  refine (Jp 1∘Jx∘Jx∘JA #[vQ 0,vQ 0,vQ 0]) λw8 g8=>(JV su aT (h1:=by exact Bl (aJ bB (aO x.av k c)))) λU=>(Jp 1∘aG∘Jr∘Jp 1∘Jj) (Ju (λe=>?_) λe=>?_)
  ·
   have p:q=kH x.av g c:=by rw [←J,X9 (by simpa using e),abU]
   exact (JT∘JX∘JG∘JP∘Jp 2∘aK∘Jj∘JZ∘aZ) λb=>YO p (b.own (i:=1) rfl) u b.below
  have M:aO x.av k c=[]:=by simpa using e
  have f:=X8 (s:=x.av) (c:=c) (g:=k) (uE r om) A M
  replace f:kH x.av k c=k::kH x.av (x.gs.getD k Gr.zero).parent.toNat c:=f
  rw [T,abG] at f
  refine (JF∘aD∘JR∘Jp 2∘JU zu #[vI k]) λw32 g32=>(JD ([k].map dD) 2 (λ_ _=>iM) zu (hr:=by exact λb=>b.aX (i:=0) (n:=1) (size:=1) rfl rfl) (h1:=by simp [acd,dD])) λKo B C j=>(Jp 1∘gu∘Jq) ?_
  have d:abl q+1=abl (q++[k]):=Pq rfl
  rw [d] at j
  refine (JC (h:=by exact λb=>b.aY (i:=2) (ys:=(q++[k]).map dD) rfl d (List.map_append.symm))∘Jk 7 (.slice B (abl (q++[k])) C) (h:=by exact iy d)∘JG∘JR∘Jp 1∘Jn∘Jf 0∘Jf 0∘Jf 2∘Jy (v:= .slice x.gA (abl x.gs) x.gc) (h:=by exact Pd rfl rfl kr (λ_ h=>h.zr hm rfl))∘Jp 1) ?_
  obtain ⟨N,O,D,_⟩:=Rd.sat I.g k
  have l:=I.g;rw [D] at l
  refine (Jk 17 (.slice (some ⟨N,O,none⟩) (abl x.gs) x.gc) (h:=by rw [D];try rfl)∘gV k 2∘Jf 0∘CW pR l k Gr.zero∘Jo (vI y) (by rw [T])∘Jp 1∘aG∘Jq) λa Z b=>?_
  exact ⟨_,om,y,(q++[k]),B,C,by omega,by rw [←J,f,aby];rfl,by rw [abn];show abl q+1≤g-y;omega,j,rfl,Z.sub kr,b.pk [2]⟩
 have p:q=kH x.av g c:=by rw [←J,show k=0 by omega,qtt,abU]
 exact (JF∘JX∘JG∘JP∘Jp 2∘aK∘Jj∘JZ∘aZ) λb=>YO p (b.own (i:=0) rfl) u b.below
def q4k (x:aC) (o c:Nat) (w:World) (i:x.av.Ok) (p:bN x) (f:ShAt x) (H:dZ w x) (hm:w.heap[o]?=some (.cells #[vI x.ak,vQ x.aj,abh x.gA x.gs x.gc,abh x.lA x.cl x.lc,abh x.uA x.cu x.uc,abh x.tA x.ts x.tc,abh x.sA x.rs x.sc,.bool true] 273 (0,0))) (hc:(c:Int)<x.ak):
    Calls abm 211 #[vP o 0,vI c] w (Is w (vI (oD x.av c:Int))):=by
 have B:=p.s;have C:=p.t;have D:=p.g;have I:=f.rs
 obtain ⟨J,K,_,q⟩:=lX f.cfg
 have E:0<abl x.rs:=by have h1:=(qp q).1;omega
 refine (iX Tryz.func211 28) ?_
 refine (JP∘Jp 1∘Jr∘Jp 1∘Jj∘JB) λa Z b=>?_
 refine qg (λF L M=>∃(g:Nat),(g<abl x.rs)∧(uQ x.av c g=oD x.av c)∧F=abl x.rs-g∧Fr L 28 [] [(5,vI g),(4,vI 0),(0,vP o 0),(1,vI c)]∧Mem w M []) (m:=abl x.rs-0) ⟨0,by omega,rfl,rfl,Z.sub kr,b.pk []⟩ ?_
 clear Z b;rintro F a S ⟨g,T,r,rfl,Z,b⟩
 refine Jb Z b ((JB∘JP∘Jp 3∘JL (h:=by exact λb=>KS x i p f o c om _ g (abq _) om _ (H.old b) (b.kM hm))) ?_)
 rintro b _ N ⟨rfl,u⟩
 refine ⟨_,rfl,_,b.call u,?_⟩
 refine (Jp 1∘Jx∘Jx∘JA #[vQ 0,vQ 0,vQ 0]) λU l=>(JV su aT (h1:=by exact Bl (aJ bB (aO x.av g c)))) λG=>(Jp 1∘Jj∘JQ∘JB∘JP∘Jp 3∘bH∘Jj) (Ju (λd=>?_) λd=>?_)
 ·
  have e:aO x.av g c=[]:=by simpa using d
  exact (JT∘JP∘Jp 1∘Jj∘JZ∘aZ) λb=>by exact ⟨by rw [←r,Yc (by rw [kQ];omega) e];rfl,b.below⟩
 have e:aO x.av g c≠[]:=by simpa using d
 have O:abl x.av.sp=abl x.rs:=kQ
 refine (JF∘JP∘Jy (v:=vP l 1) (h:=by exact Yl.tN (ad:=⟨l,0,none⟩) (m:=3) (y:=1) (sz:=1) rfl rfl rfl kr de)∘Jc O0∘Jp 2∘dQ∘Jj) (Je (λn=>?_) λn=>?_)
 ·
  have j:(aJ bB (aO x.av g c)).k=0:=by omega
  have P:=zfk i f e
  have z:=Yd (s:=x.av) (c:=c) (g:=g) om e j
  exact (JT∘JP∘Jy (v:=vP l 2) (h:=by exact Yl.tN (ad:=⟨l,0,none⟩) (m:=3) (y:=2) (sz:=1) rfl rfl rfl kr de)∘Jc O0∘Jv 1 [(24,vI (IntKind.i64.wrap ((aJ bB (aO x.av g c)).id:Int)))]∘Jo (vI ((aJ bB (aO x.av g c)).id)) (by exact q7 rfl om)∘Jp 1∘dQ∘Jj∘JZ∘aZ) λb=>by exact ⟨by rw [←r,z],b.below⟩
 have j:(aJ bB (aO x.av g c)).k≠0:=by omega
 obtain ⟨A,Q,R⟩:=Ye (s:=x.av) (c:=c) (g:=g) i om e j
 refine (JF∘aD∘JR∘Jy (v:=vP l 2) (h:=by exact Yl.tN (ad:=⟨l,0,none⟩) (m:=3) (y:=2) (sz:=1) rfl rfl rfl kr de)∘Jc O0∘Jv 1 [(27,vI (IntKind.i64.wrap ((aJ bB (aO x.av g c)).id:Int)))]∘Jo (vI ((aJ bB (aO x.av g c)).id)) (by exact q7 rfl om)∘Jp 1∘dQ∘Jq) λa Z b=>?_
 exact ⟨_,om,(aJ bB (aO x.av g c)).id,by omega,by rw [←A];exact r,rfl,Z.sub kr,b.pk []⟩
def qzi (x:aC) (C c:Nat) (w:World) (K:x.av.Ok) (y:bN x) (l:ShAt x) (D:dZ w x) (hm:w.heap[C]?=some (.cells #[vI x.ak,vQ x.aj,abh x.gA x.gs x.gc,abh x.lA x.cl x.lc,abh x.uA x.cu x.uc,abh x.tA x.ts x.tc,abh x.sA x.rs x.sc,.bool true] 273 (0,0))):
    Calls abm 215 #[vP C 0,vI c] w (Is w (vI (aI x.av c))):=by
 have E:=y.s;have F:=y.t;have G:=y.g;have L:=l.rs
 obtain ⟨M,N,_,O⟩:=lX l.cfg
 have n:=YP l
 refine (iX Tryz.func215 32) ?_
 refine (JP∘Jp 1∘Jr∘Jp 1∘Jj∘JQ∘JP∘Jp 1∘Jn∘Jf 0∘Jf 5∘Jy (v:= .slice x.tA (abl x.ts) x.tc) (h:=by exact Pd rfl rfl kr (λ_ h=>h.zr hm rfl))∘Jl∘Jp 1∘Jj∘JB) λa Z b=>?_
 refine qg (λH A B=>∃(i:Nat),(i≤abl x.ts)∧H=abl x.ts-i∧Fr A 32 [] [(14,vI i),(13,vI (abl x.ts)),(12,abh x.tA x.ts x.tc),(5,vI (gH (x.ts.take i) c)),(4,vI 0),(1,vI c)]∧Mem w B []) (m:=abl x.ts-0) ⟨0,abw _,rfl,Z.sub kr,b.pk []⟩ ?_
 clear Z b;rintro H a R ⟨i,hi,rfl,Z,b⟩
 refine Jb Z b ((JP∘Jp 1∘Jj∘JQ) (Ji (λo=>?_) λo=>?_))
 ·
  have p:i<abl x.ts:=by omega
  obtain ⟨t,ht⟩:∃z,(x.ts.getD i Tk.zero)=z:=⟨_,rfl⟩
  have d:=qy0 (c:=c) p
  rw [ht] at d
  have P:=Yg (c:=c) n i;have Q:=Yg (c:=c) n (i+1)
  refine (JT∘aD∘JQ∘JB∘JP) ?_
  obtain ⟨q,r,j,_⟩:=Rd.sat D.t i
  have k:=D.t;rw [j] at k
  refine (Jk 12 (.slice (some ⟨q,r,none⟩) (abl x.ts) x.tc) (h:=by rw [j];try rfl)∘gV i 8∘oK Tk.cells qk k eU i Tk.zero∘Jo (.agg t.cells) (by rw [ht])∘JA #[vI 0,vI 0,vI 0,vI 0,vQ 0,.bool false,vQ 0,vW 0]) λS I=>(JV eU aT (h1:=by exact E9 t)) λJ=>(bH∘Jj) λa Z b=>?_
  refine q9 (λA B=>Fr A 32 [] [(25,.bool (t.ready&&decide (t.cpu=(c:Int)))),(7,vP I 0),(12,abh (some ⟨q,r,none⟩) x.ts x.tc),(15,.bool true),(14,vI i),(13,vI (abl x.ts)),(5,vI (gH (x.ts.take i) c)),(4,vI 0),(1,vI c)]∧Mem w B [.blk I t.cells 232]) ?_ ?_
  ·
   refine zt ?_
   refine Jb Z b ((Jg 5 O0∘Jp 1) (Ju (λe=>?_) λe=>?_))
   ·
    refine (Jg 3 O0∘Jp 3∘l8∘Jq) λa Z b=>?_
    have Z:=Z.sp 25 (.bool (t.ready&&decide (t.cpu=(c:Int)))) rfl (congrArg abX (by rw [e,acz,ace,beq_iff_eq,decide_eq_true_eq]))
    exact ⟨Z.sub kr,b.pk [0]⟩
   refine (Jp 5∘aG∘Jq) λa Z b=>?_
   have Z:=Z.sp 25 (.bool (t.ready&&decide (t.cpu=(c:Int)))) rfl (congrArg abX (by rw [e];try rfl))
   exact ⟨Z.sub kr,b.pk [0]⟩
  clear Z b;rintro a T ⟨Z,b⟩
  refine Jb Z b (Ju (λf=>?_) λf=>?_)
  ·
   rw [if_pos f] at d
   refine (JT∘JR∘Jp 1∘Jg 2 O0∘Jp 1∘Jo (vI (gH (x.ts.take (i+1)) c)) (by rw [d];exact ou ⟨by omega,by omega⟩)∘Jp 1∘dQ∘Jj∘JR∘bT 1∘Jp 1∘aK∘Jq) λa Z b=>?_
   replace Z:=Z.sp 12 (abh x.tA x.ts x.tc) rfl (by rw [j])
   exact ⟨_,om,i+1,by omega,rfl,Z.sub kr,b.pk []⟩
  rw [if_neg (by rw [f];decide),Int.add_zero] at d
  refine (Jk 5 (vI (gH (x.ts.take (i+1)) c)) (h:=by rw [d])∘JF∘aD∘JR∘bT 1∘Jp 1∘aK∘Jq) λa Z b=>?_
  replace Z:=Z.sp 12 (abh x.tA x.ts x.tc) rfl (by rw [j])
  exact ⟨_,om,i+1,by omega,rfl,Z.sub kr,b.pk []⟩
 have u:gH (x.ts.take i) c=aI x.av c:=by rw [abP om];rfl
 exact (JF∘JX∘JG∘JP∘Jp 2∘aK∘Jj∘JZ∘aZ) λb=>by exact ⟨by rw [u],b.below⟩
def q9z (n:Nat) (i:Mem W w F) (j:F.drop n=jm d x m e f h b++T) (a:dz x m e f h b) (hc:(c:Int)<x.ak) (k:g<b):Calls abm 200 #[vP d 0,vI g,vI c] w (Lg w (kH x.av g c)):=
 q4j x d g c w a.ok a.few a.sh (i.sw n j a.ln) (i.nK n j a.ln) hc (by rw [a.ln.s];exact k)
theorem q90 (n:Nat) (h:Mem W w F) (i:F.drop n=jm b x m g d e f++T) (a:dz x m g d e f) (hc:(c:Int)<x.ak):Calls abm 211 #[vP b 0,vI c] w (Is w (vI (oD x.av c:Int))):=
 q4k x b c w a.ok a.few a.sh (h.sw n i a.ln) (h.nK n i a.ln) hc
def q4l (n:Nat) (h:Mem W w F) (i:F.drop n=jm b x m g d e f++T) (a:dz x m g d e f):Calls abm 215 #[vP b 0,vI c] w (Is w (vI (aI x.av c))):=
 qzi x b c w a.ok a.few a.sh (h.sw n i a.ln) (h.nK n i a.ln)
def PW (W:World) (c:Nat) (x:aC) (d e f g b:Nat) (T:List Fact) (s:aW) (r:Ending) (h:World):Prop:=∃a,r= .returned (.tuple #[])∧abl a=b∧dX x.gs x.ak a∧({x with rs:=a}:aC).av=s∧Mem W h (jm c {x with rs:=a} d e f g b++T)
def YR {a:List Rw} (e:a.length=b) (hs:dX x.gs x.ak a) (f:({x with rs:=a}:aC).av=s) (hm:Mem W w (jm c {x with rs:=a} m g n d b++T)):PW W c x m g n d b T s (.returned (.tuple #[])) w:=⟨a,rfl,e,hs,f,hm⟩
def Dw (x e:En) (b:x.Ok) (a cr:Nat) (c:a<18446744073709551616) (hc:cr<18446744073709551616) (d:x.woken a cr=e) (w:World):
  Calls abm 207 #[.agg x.cells,vQ a,vQ cr] w (Is w (.tuple #[.agg e.cells,vI 0])):=d▸q3z x b a cr c hc w
def qzj (W w:World) (x:aC) (K c:Nat) (u B C D t:Nat) (hx:qZ x u B C D t) (T:List Fact) (E:Option Addr) (ec:Nat) (l:List Nat) (hT: abj E l ec dD 3 1∈T) (hlm:∀g∈l,0<g∧g<t) (hln:abl l≤1000000)
    (L:bU x.gs=true) (hrg:abl x.rs=abl x.gs) (hsp:dX x.gs x.ak x.rs) (M:x.aj<18446744073709551616) (hcp:x.ak≤64) (hc:(c:Int)<x.ak) (b:Mem W w (jm K x u B C D t++T)):
    Calls abm 206 #[vP K 0,abh E l ec,vI c] w (PW W K x u B C D t T (fZ x.av l c)):=by
 obtain ⟨cp,cr,gA,gc,gs,lA,lc,cl,uA,uc,cu,tA,tc,ts,sA,sc,rs⟩:=x
 replace b:Mem W w (fM K cp cr gA u gc lA B lc uA C uc tA D tc sA t sc::fG gA u gc gs::fI lA B lc cl::fI uA C uc cu::fT tA D tc ts::fS sA t sc rs::(fR rs++(T))):=b
 obtain ⟨l5,hll,ny,hlt,hls⟩:=hx;replace l5:abl gs=u:=l5;replace hls:abl rs=t:=hls
 have hrE:Rd w w.heap.size 1 E (abl l) (l.map dD):=b.X6 6 rfl hT
 replace L:bU gs=true:=L;replace hrg:abl rs=abl gs:=hrg;replace M:cr<18446744073709551616:=M;replace hcp:cp≤64:=hcp;replace hc:(c:Int)<cp:=hc;replace hsp:dX gs cp rs:=hsp
 have hgl:=qp L
 have nA:=hgl.1;have nC:=hgl.2.1
 obtain ⟨pV,rfl⟩:=zj (b.own (i:=1) rfl) om
 obtain ⟨pW,rfl⟩:=zj (b.own (i:=5) rfl) om
 refine (xS b Tryz.func206 82) ?_
 refine (JP∘Jp 1∘Jl∘Jp 1∘Jj∘JB) λa Z b=>?_
 refine qg (λmS aS wS=>∃(i:Nat) (d:List Rw),(i≤abl l)∧(abl d=t)∧(dX gs cp d)∧((⟨cp,cr,some ⟨pV,0,none⟩,gc,gs,lA,lc,cl,uA,uc,cu,tA,tc,ts,some ⟨pW,0,none⟩,sc,d⟩:aC).av=fZ (⟨cp,cr,some ⟨pV,0,none⟩,gc,gs,lA,lc,cl,uA,uc,cu,tA,tc,ts,some ⟨pW,0,none⟩,sc,rs⟩:aC).av (l.take i) c)∧mS=abl l-i∧Fr aS 82 [] [(14,vI i),(13,vI (abl l)),(12,abh E l ec),(0,vP K 0),(2,vI c)]∧Mem W wS (fM K cp cr (some ⟨pV,0,none⟩) u gc lA B lc uA C uc tA D tc (some ⟨pW,0,none⟩) t sc::fG (some ⟨pV,0,none⟩) u gc gs::fI lA B lc cl::fI uA C uc cu::fT tA D tc ts::fS (some ⟨pW,0,none⟩) t sc d::(fR d++(T)))) (m:=abl l-0) ⟨0,rs,abw _,hls,hsp,rfl,rfl,Z.sub kr,b.pt 6 [0,1,2,3,4,5]⟩ ?_
 clear Z b;rintro mS a w_ ⟨i,d,hi,hl2,G,V,rfl,Z,b⟩
 refine Jb Z b ((JP∘Jp 1∘Jj∘JQ) (Ji (λA8=>?_) λA8=>?_))
 ·
  have X:i<abl l:=by omega
  obtain ⟨g,hge⟩:∃z,(l.getD i 0)=z:=⟨_,rfl⟩
  have hg0:=hlm g (by rw [←hge];exact qe 0 X)
  obtain ⟨⟨yA,yc,yl⟩,Y⟩:∃y,d.getD g Rw.zero=y:=⟨_,rfl⟩
  have hys:=G g om;rw [Y] at hys
  have hyl:(abl yl:Int)=cp:=hys.1
  repeat (first|clear Z|clear b)
  intro a Z b
  obtain ⟨gy,rfl⟩:=b.jv 6 rfl om Y om
  obtain ⟨o,H⟩:∃z,yl[c]?=some z:=⟨_,abp om⟩
  have I:=hys.2 o (abM H)
  have hyv:=I.1.v;have pU:=I.1.r;have rA:=I.1.floor
  have hpb:=uE L (g:=g) om g hg0.1 (abq _)
  unfold dP at hpb
  obtain ⟨p,hpp⟩:∃p:Nat,(gs.getD g Gr.zero).parent=(p:Int):=⟨(gs.getD g Gr.zero).parent.toNat,by omega⟩
  have hpg:p<g:=by omega
  obtain ⟨⟨pA,pc,pl⟩,hp⟩:∃y,d.getD p Rw.zero=y:=⟨_,rfl⟩
  have hps:=G p om;rw [hp] at hps
  have hpl:(abl pl:Int)=cp:=hps.1
  revert b;revert a;repeat (first|clear Z|clear b)
  intro a Z b
  obtain ⟨gp,rfl⟩:=b.jv 6 rfl om hp om
  obtain ⟨pz,hpz⟩:∃z,pl[c]?=some z:=⟨_,abp om⟩
  have hpo:=hps.2 pz (abM hpz)
  have hpv:=hpo.1.v;have hpr:=hpo.1.r;have P:=hpo.1.floor
  obtain ⟨J,Q,ajJ,ajK⟩:=Dn L (g:=g) om
  have R:(⟨o.v,o.r,J⟩:En).Ok:=⟨by have:=I.2;rw [Q] at this;exact this,I.1.v⟩
  obtain ⟨e,N⟩:∃e,(⟨o.v,o.r,J⟩:En).woken pz.floor cr=e:=⟨_,rfl⟩
  have S:e.Ok∧e.w=J:=by rw [←N];exact aaw R _ _ P
  have hev:=S.1.2;have her:e.r<4294967296:=by have:=zM S.1.1;omega
  refine Jb Z b ((JT∘aD∘JQ∘JB∘JP) ?_)
  obtain ⟨gE,oE,rfl,_⟩:=hrE.sat i
  refine (gV i 1∘Jy (v:=vI (l.getD i 0)) (h:=by exact Pd rfl rfl kr (λ_ h=>(h.X6 6 rfl hT).Er (k:=i) (xg (F:=dD) (k:=i) (x:=(l.getD i 0)) ((getD_at 0 om)))))∘Jo (vI g) (by rw [hge])∘Jp 1∘bH∘Jr∘Jp 1∘Jn∘Jf 0∘Jg 6 O0∘Jp 1∘l9 g 1∘Jy (v:= .slice ((d.getD g Rw.zero).A) ((d.getD g Rw.zero).l.length) ((d.getD g Rw.zero).c)) (h:=by exact aae 5 g Rw.zero om rfl rfl rfl)∘Jo (vS gy (abl yl) yc) (by rw [Y])∘Jp 1∘l9 c 3∘Jp 1∘aG∘Jr∘Jp 1∘Jn∘Jf 0∘Jf 0∘Jg 2 O0∘Jp 1∘l9 g 2∘Jy (v:= .agg ((gs.getD g Gr.zero).cells)) (h:=by exact Pe rfl rfl lq rfl (λ_ h=>h.CQ pR (i:=1) rfl ((getD_at Gr.zero om))))∘JA #[vI 0,vI 0]) λw9 g9=>(JV lq aT (h1:=by exact Xb (gs.getD g Gr.zero))) λYS=>(aG∘Jj) λa Z b=>?_
  refine q9 (λaS wS=>∃(q:Nat),Fr aS 82 [] [(10,vP q 0),(9,vP g9 0),(8,vP gy (c*3)),(7,vI g),(15,.bool true),(14,vI i),(13,vI (abl l)),(12,abh (some ⟨gE,oE,none⟩) l ec),(0,vP K 0),(2,vI c)]∧Mem W wS (.blk q e.cells 333:: .blk g9 ((gs.getD g Gr.zero).cells) 198::fM K cp cr (some ⟨pV,0,none⟩) u gc lA B lc uA C uc tA D tc (some ⟨pW,0,none⟩) t sc::fG (some ⟨pV,0,none⟩) u gc gs::fI lA B lc cl::fI uA C uc cu::fT tA D tc ts::fS (some ⟨pW,0,none⟩) t sc d::(fR d++(T)))) ?_ ?_
  ·
   refine Jb Z b ((Vs .n [35]) λwd5=>(Vp [0,4]∘Vf 8 1∘Vp [11]∘Vf 16 0∘Vp [20,24]∘Vn 1∘Vf 2 0∘Vy 3 (v:=vQ o.v) (h:=by exact Pd rfl rfl kr (λ_ h=>h.sU 7 (j:=0) rfl om Y (H) rfl))∘Vn 5∘Vf 6 1∘Vy 7 (v:=vW o.r) (h:=by exact Pd rfl rfl kr (λ_ h=>h.sU 7 (j:=1) rfl om Y (H) rfl))∘Vc 9 O0∘Vo (vI J) (by rw [Q])∘Vn 12∘Vf 13 0∘Vf 14 6∘Vc 15 O1∘Vc 17 O0∘Vo (vI p) (by rw [hpp])∘Vy 18 (h:=by exact Yl.iw pW p 1 rfl rfl rfl)∘Vy 19 (v:= .slice ((d.getD p Rw.zero).A) ((d.getD p Rw.zero).l.length) ((d.getD p Rw.zero).c)) (h:=by exact aae 6 p Rw.zero om rfl rfl rfl)∘Vo (vS gp (abl pl) pc) (by rw [hp])∘Vy 21 (h:=by exact Yl.iw gp c 3 rfl rfl rfl)∘Vf 22 2∘Vy 23 (v:=vQ pz.floor) (h:=by exact Pd rfl rfl kr (λ_ h=>h.sU 7 (j:=2) rfl om hp (hpz) rfl))∘Vn 25∘Vf 26 0∘Vf 27 0∘Vf 28 1∘Vc 29 O1) λa Z b s=>?_)
   refine zc [10,34] kr rfl ?_
   refine all_cons ?_ ?_
   ·refine qu Z (i:=10) rfl rfl ?_
    refine iR Z b [vQ o.v,vW o.r,vI J] (.agg #[vQ o.v,vW o.r,vW J]) rfl rfl (q8 o.v o.r (J:Int) om _) λC9 U b a Z=>?_
    refine ay (b.pt 7 [0,1,2,3,4,5,6]) (λs=>?_)
    refine zc [30,34] kr rfl ?_
    refine all_cons ?_ ?_
    ·refine qu Z (i:=30) rfl rfl ?_
     refine iR Z b [.agg #[vQ o.v,vW o.r,vW J],vQ pz.floor,vQ cr] (.tuple #[.agg e.cells,vI 0]) rfl rfl (Dw (⟨o.v,o.r,J⟩:En) e R pz.floor cr P M N _) λLh U b a Z=>?_
     refine ay (b.pt 7 [0,1,2,3,4,5,6]) (λs=>?_)
     refine Vb Z b s ((Vp [31]∘Vx 32∘Vx 33∘VA 34 .n #[vQ 0,vW 0,vW 0]) λtZ q=>λa Z b s=>?_)
     refine s_on Z 35 rfl (cK Z b 0 rfl rfl rfl rfl rfl qm rfl rfl (lS e) λO b=>?_)
     refine dJ kr ?_
     refine ap Z (bM kr) [36] (bt 37 []) [] λa Z=>?_
     refine qd kr ?_
     exact ⟨q,Z.sub kr,b.pt 8 [0,1,2,3,4,5,6,7]⟩
    refine all_cons ?_ all_nil
    refine qu Z (i:=34) rfl rfl ?_
    refine gN Z b #[vQ 0,vW 0,vW 0] ?_
    clear Z b;intro a tZ q Z b
    refine ay (b.pt 8 [1,2,3,4,5,6,7]) (λs=>?_)
    refine Vb Z b s ((VI 30 (.f .n) (h:=by exact λb=>Dw (⟨o.v,o.r,J⟩:En) e R pz.floor cr P M N _)) λLh U=>(Vp [31]∘Vx 32∘Vx 33) λa Z b s=>?_)
    refine s_on Z 35 rfl (cK Z b 0 rfl rfl rfl rfl rfl qm rfl rfl (lS e) λO b=>?_)
    refine dJ kr ?_
    refine ap Z (bM kr) [36] (bt 37 []) [] λa Z=>?_
    refine qd kr ?_
    exact ⟨q,Z.sub kr,b.pt 8 [0,1,2,3,4,5,6,7]⟩
   refine all_cons ?_ all_nil
   refine qu Z (i:=34) rfl rfl ?_
   refine gN Z b #[vQ 0,vW 0,vW 0] ?_
   clear Z b;intro a tZ q Z b
   refine ay (b.pt 8 [1,2,3,4,5,6,7]) (λs=>?_)
   refine Vb Z b s ((VI 10 (.f .n) (h:=by exact λb=>q8 o.v o.r (J:Int) om _)) λC9 U=>(VI 30 (.f .n) (h:=by exact λb=>Dw (⟨o.v,o.r,J⟩:En) e R pz.floor cr P M N _)) λLh U=>(Vp [31]∘Vx 32∘Vx 33) λa Z b s=>?_)
   refine s_on Z 35 rfl (cK Z b 0 rfl rfl rfl rfl rfl qm rfl rfl (lS e) λO b=>?_)
   refine dJ kr ?_
   refine ap Z (bM kr) [36] (bt 37 []) [] λa Z=>?_
   refine qd kr ?_
   exact ⟨q,Z.sub kr,b.pt 8 [0,1,2,3,4,5,6,7]⟩
  clear Z b;rintro a w5 ⟨q,Z,b⟩
  refine Em b [.blk q e.cells 333,.blk g9 ((gs.getD g Gr.zero).cells) 198,fM K cp cr (some ⟨pV,0,none⟩) u gc lA B lc uA C uc tA D tc (some ⟨pW,0,none⟩) t sc,fG (some ⟨pV,0,none⟩) u gc gs,fI lA B lc cl,fI uA C uc cu,fT tA D tc ts] [0,1,2,3,4,5,6] [11] λb s=>?_
  refine ap Z (λ_=>s) [0,1,2,4] (bf 12 [0,1,2,4]) [(75,vP q 1),(73,vP q 0),(72,vP gy (c*3)),(71,vP gy (c*3))] λa Z=>?_
  refine dO Z s 3 0 (v:=vQ e.v) λa Z=>?_
  refine dO Z s 5 0 (v:=vW e.r) λa Z=>?_
  refine nR Z s 6 λa Z=>?_
  refine ap Z (λ_=>s) [7] (bt 12 [8,9,10,11]) [(78,vP gy (c*3))] λa Z=>?_
  refine s_on Z 8 rfl ?_
  refine qc1 Z b 7 (c:=c) 0 ({o with v:=e.v}) rfl rfl rfl rfl kr rfl rfl om (Y) (H) rfl de rfl λBF b=>?_
  replace b:Mem W BF (.blk q e.cells 333:: .blk g9 ((gs.getD g Gr.zero).cells) 198::fM K cp cr (some ⟨pV,0,none⟩) u gc lA B lc uA C uc tA D tc (some ⟨pW,0,none⟩) t sc::fG (some ⟨pV,0,none⟩) u gc gs::fI lA B lc cl::fI uA C uc cu::fT tA D tc ts::fS (some ⟨pW,0,none⟩) t sc (aN d g c ({o with v:=e.v}))::(fR (aN d g c ({o with v:=e.v}))++(T))):=b
  refine ay (b.pk [0,1,2,3,4,5,6]) (λs=>?_)
  refine AL Z (λ_=>s) 9 λa Z=>?_
  refine ap Z (λ_=>s) [10] (bt 12 [11]) [(80,vP gy (c*3+1))] λa Z=>?_
  refine s_on Z 11 rfl ?_
  refine qc1 Z b 7 (c:=c) 1 ({o with v:=e.v,r:=e.r}) rfl rfl rfl rfl kr rfl rfl (by first|omega|(rw [zh];omega)) (K4 om Y) (wQ H) rfl de rfl λF7 b=>?_
  replace b:Mem W F7 (.blk q e.cells 333:: .blk g9 ((gs.getD g Gr.zero).cells) 198::fM K cp cr (some ⟨pV,0,none⟩) u gc lA B lc uA C uc tA D tc (some ⟨pW,0,none⟩) t sc::fG (some ⟨pV,0,none⟩) u gc gs::fI lA B lc cl::fI uA C uc cu::fT tA D tc ts::fS (some ⟨pW,0,none⟩) t sc (aN (aN d g c ({o with v:=e.v})) g c ({o with v:=e.v,r:=e.r}))::(fR (aN (aN d g c ({o with v:=e.v})) g c ({o with v:=e.v,r:=e.r}))++(T))):=b
  rw [Pn (by first|omega|(rw [zh];omega))] at b
  refine dJ kr ?_
  refine qd kr ?_
  refine Jb Z b ((JG∘JR∘bT 1∘Jp 1∘aG∘Jq) λa Z b=>?_)
  exact ⟨_,om,i+1,(aN d g c {o with v:=e.v,r:=e.r}),by omega,by rw [zh];exact hl2,G.put {o with v:=e.v,r:=e.r} ⟨hev,her,I.1.floor⟩ (by rw [Q];have:=S.1.1;rw [S.2] at this;exact this),by rw [qy1 X,←V,hge];exact q3s (x:=(⟨cp,cr,some ⟨pV,0,none⟩,gc,gs,lA,lc,cl,uA,uc,cu,tA,tc,ts,some ⟨pW,0,none⟩,sc,d⟩:aC)) (by show g<abl d;omega) Y H hpp (by show p<abl d;omega) hp hpz Q N,rfl,Z.sub kr,b.pt 8 [2,3,4,5,6,7]⟩
 refine (JF∘JX) λa Z b=>?_
 exact gM rfl Z (YR (x:=(⟨cp,cr,some ⟨pV,0,none⟩,gc,gs,lA,lc,cl,uA,uc,cu,tA,tc,ts,some ⟨pW,0,none⟩,sc,rs⟩:aC)) hl2 G (by rw [show ({(⟨cp,cr,some ⟨pV,0,none⟩,gc,gs,lA,lc,cl,uA,uc,cu,tA,tc,ts,some ⟨pW,0,none⟩,sc,rs⟩:aC) with rs:=d}:aC)=(⟨cp,cr,some ⟨pV,0,none⟩,gc,gs,lA,lc,cl,uA,uc,cu,tA,tc,ts,some ⟨pW,0,none⟩,sc,d⟩:aC) from rfl,V,abP om]) b)
def q91 {b:List Mb} (n:Nat) (i:Mem W w F) (j:F.drop n=jm h x m d e f a++T) (k:dz x m d e f a) (hc:(c:Int)<x.ak) (l:g<a) (hm:aO x.av g c=b):Calls abm 162 #[vP h 0,vI g,vI c] w (Is w (.tuple #[.agg (aJ bB b).cells,.bool (!b.isEmpty)])):=hm▸q9d n i j k hc l
def q92 (a:x.av.Ok) {g c:Nat} (b:aO x.av g c≠[]):(aJ bB (aO x.av g c)).v<18446744073709551616:=by
 rcases KZ (Pt a b) with ⟨t,ht,_,h2⟩|⟨h,_,_,_,_,h5⟩
 ·rw [h2];exact (a.ts t ht).v
 ·rw [h5];exact (xU a h c).v
def qzk (W w:World) (x:aC) (I:Nat) (s t u B k:Nat) (hx:dz x s t u B k) (T:List Fact) (e:Mem W w (jm I x s t u B k++T)):
    Calls abm 157 #[vP I 0] w (PW W I x s t u B k T (eX x.av)):=by
 obtain ⟨cp,cr,gA,gc,gs,lA,lc,cl,uA,uc,cu,tA,tc,ts,sA,sc,rs⟩:=x
 replace e:Mem W w (fM I cp cr gA s gc lA t lc uA u uc tA B tc sA k sc::fG gA s gc gs::fI lA t lc cl::fI uA u uc cu::fT tA B tc ts::fS sA k sc rs::(fR rs++(T))):=e
 obtain ⟨l5,hll,ny,hlt,Q⟩:=hx.ln
 replace l5:abl gs=s:=l5;replace hll:abl cl=t:=hll;replace ny:abl cu=u:=ny;replace hlt:abl ts=B:=hlt;replace Q:abl rs=k:=Q
 have hrg:=hx.sh.rs;replace hrg:abl rs=abl gs:=hrg
 obtain ⟨N,O,_,J⟩:=lX hx.sh.cfg
 replace N:1≤cp:=N;replace O:cp≤64:=O;replace J:bU gs=true:=J
 have nA:=(qp J).1;have nC:=(qp J).2.1
 obtain ⟨d,rfl⟩:=zj (e.own (i:=5) rfl) om
 refine (Pp e Tryz.func157 45) ?_
 refine (JP∘Jp 1∘Jn∘Jf 0∘Jg 6 O0∘Jl∘Jp 1∘Jj∘JB) λa Z e=>?_
 refine qg (λmS aS wS=>∃(g:Nat) (f:List Rw),(g≤k)∧(abl f=k)∧(dz (⟨cp,cr,gA,gc,gs,lA,lc,cl,uA,uc,cu,tA,tc,ts,some ⟨d,0,none⟩,sc,f⟩:aC) s t u B k)∧(jd (⟨cp,cr,gA,gc,gs,lA,lc,cl,uA,uc,cu,tA,tc,ts,some ⟨d,0,none⟩,sc,rs⟩:aC) f g 0)∧mS=k-g∧Fr aS 45 [] [(13,vI g),(12,vI k),(11,vS d k sc),(0,vP I 0)]∧Mem W wS (fM I cp cr gA s gc lA t lc uA u uc tA B tc (some ⟨d,0,none⟩) k sc::fG gA s gc gs::fI lA t lc cl::fI uA u uc cu::fT tA B tc ts::fS (some ⟨d,0,none⟩) k sc f::(fR f++(T)))) (m:=k-0) ⟨0,rs,abw _,Q,hx,qy2,rfl,Z.sub kr,e.pt 6 [0,1,2,3,4,5]⟩ ?_
 clear Z e;rintro mS a w_ ⟨g,f,hg,hl2,R,hR,rfl,Z,e⟩
 refine Jb Z e ((JP∘Jp 1∘Jj∘JQ) (Ji (λxY=>?_) λxY=>?_))
 ·
  have ajO:g<k:=by omega
  obtain ⟨⟨yA,yc,yl⟩,hy⟩:∃y,f.getD g Rw.zero=y:=⟨_,rfl⟩
  have K:=R.spots g (by show g<abl f;omega)
  replace K:((f.getD g Rw.zero).l.length:Int)=cp∧_:=K
  rw [hy] at K
  have hyl:(abl yl:Int)=cp:=K.1
  repeat (first|clear Z|clear e)
  intro a Z e
  obtain ⟨Y,rfl⟩:=e.jv 6 rfl om hy om
  have S:=hR.2.1 g
  rw [hy] at S
  replace S:abl yl=(rs.getD g Rw.zero).l.length:=S
  refine Jb Z e ((JT∘aD∘JQ∘JB∘JP∘Jp 1∘l9 g 1∘Jy (v:= .slice ((f.getD g Rw.zero).A) ((f.getD g Rw.zero).l.length) ((f.getD g Rw.zero).c)) (h:=by exact aae 5 g Rw.zero om rfl rfl rfl)∘Jo (vS Y (abl yl) yc) (by rw [hy])∘Jp 2∘Jr∘Jp 1∘Jl∘Jp 1∘Jj∘JB) λa Z e=>?_)
  refine qg (λmS aS wS=>∃(c:Nat) (b:List Rw) (p:List Sp),(abl b=k)∧(dz (⟨cp,cr,gA,gc,gs,lA,lc,cl,uA,uc,cu,tA,tc,ts,some ⟨d,0,none⟩,sc,b⟩:aC) s t u B k)∧(jd (⟨cp,cr,gA,gc,gs,lA,lc,cl,uA,uc,cu,tA,tc,ts,some ⟨d,0,none⟩,sc,rs⟩:aC) b g c)∧(b.getD g Rw.zero=⟨some ⟨Y,0,none⟩,yc,p⟩)∧(abl p=abl yl)∧mS=abl yl-c∧Fr aS 45 [] [(20,vI c),(19,vI (abl yl)),(3,vS Y (abl yl) yc),(2,vI g),(14,.bool true),(13,vI g),(12,vI k),(11,vS d k sc),(0,vP I 0)]∧Mem W wS (fM I cp cr gA s gc lA t lc uA u uc tA B tc (some ⟨d,0,none⟩) k sc::fG gA s gc gs::fI lA t lc cl::fI uA u uc cu::fT tA B tc ts::fS (some ⟨d,0,none⟩) k sc b::(fR b++(T)))) (m:=abl yl-0) ⟨0,f,yl,hl2,R,hR,hy,rfl,rfl,Z.sub kr,e.pt 6 [0,1,2,3,4,5]⟩ ?_
  clear Z e;rintro mS a w_ ⟨c,b,p,U,E,L,q,P,rfl,Z,e⟩
  refine Jb Z e ((JP∘Jp 1∘Jj∘JQ) (Ji (λPX=>?_) λPX=>?_))
  ·
   have hc21:c<abl yl:=by omega
   obtain ⟨o,F⟩:∃z,p[c]?=some z:=⟨_,abp om⟩
   obtain ⟨C,G⟩:∃z,aO (⟨cp,cr,gA,gc,gs,lA,lc,cl,uA,uc,cu,tA,tc,ts,some ⟨d,0,none⟩,sc,rs⟩:aC).av g c=z:=⟨_,rfl⟩
   have D:=E.spots g (by show g<abl b;omega)
   replace D:((b.getD g Rw.zero).l.length:Int)=cp∧∀z∈(b.getD g Rw.zero).l,z.Ok∧_:=D
   rw [q] at D
   have V:=(D.2 o (abM F)).1
   have hzf:=V.floor
   have M:=(Bj (x:=(⟨cp,cr,gA,gc,gs,lA,lc,cl,uA,uc,cu,tA,tc,ts,some ⟨d,0,none⟩,sc,b⟩:aC)) (by show g<abl b;omega) (E.sh.row g (by show g<abl b;omega))).2 c (by show c<(b.getD g Rw.zero).l.length;rw [q];show c<abl p;omega)
   replace M:dI _ g ((b.getD g Rw.zero).l.getD c Sp.zero)=true:=M
   rw [q,show (⟨some ⟨Y,0,none⟩,yc,p⟩:Rw).l.getD c Sp.zero=o from sV Sp.zero F] at M
   refine (JT∘aD∘JQ∘JB∘JP∘Jp 2∘aK∘Jr∘Jp 3∘JI (h:=by exact λe=>q91 0 e rfl E (by show (c:Int)<cp;omega) om ((q3u L g c).trans G))) λFV hbw=>(Jp 1∘Jx∘Jx∘JA #[vQ 0,vQ 0,vQ 0]) λw5 g5=>(JV su aT (h1:=by exact Bl (aJ bB C))) λBF=>(Jp 1∘Jr∘Jp 1∘Jj) (Ju (λH=>?_) λH=>?_)
   ·
    have hne:C≠[]:=by simpa using H
    have hbv:=q92 (x:=(⟨cp,cr,gA,gc,gs,lA,lc,cl,uA,uc,cu,tA,tc,ts,some ⟨d,0,none⟩,sc,rs⟩:aC)) hx.ok (g:=g) (c:=c) (by rw [G];exact hne)
    rw [G] at hbv
    have hr1:gQ (⟨cp,cr,gA,gc,gs,lA,lc,cl,uA,uc,cu,tA,tc,ts,some ⟨d,0,none⟩,sc,rs⟩:aC).av g c o={o with floor:=max o.floor (aJ bB C).v}:=by unfold gQ;rw [G,if_neg (by simpa using hne)]
    refine (JT∘Vs .n [12]) λLi=>(Vp [0,1,2,3]∘Vy 4 (h:=by exact Yl.iw Y c 3 rfl rfl rfl)∘Vf 5 2∘Vy 6 (v:=vQ o.floor) (h:=by exact Pd rfl rfl kr (λ_ h=>h.sU 7 (j:=2) rfl om q (F) rfl))∘qF 7 su O0∘VI 8 .n (h:=by exact λe=>XD (aJ bB C) _)) λLj hbw=>(Vy 9 (v:=vQ (if ((aJ bB C).v:Int)>(o.floor:Int) then ((aJ bB C).v:Int) else (o.floor:Int))) (h:=by exact Yl.max rfl rfl rfl)∘Vo (vQ (max o.floor (aJ bB C).v:Nat)) (by rw [afX];split<;>split<;>first|rfl|(congr 1;omega))∘Vu 10 (h:=by exact λ_=>Yl.iw Y c 3 rfl rfl rfl)∘Vf 11 2) λa Z e HS=>?_
    refine s_on Z 12 rfl ?_
    refine qc1 Z e 6 (c:=c) 2 ({o with floor:=max o.floor (aJ bB C).v}) rfl rfl rfl rfl kr rfl rfl om (q) (F) rfl de rfl λX e=>?_
    replace e:Mem W X (.blk g5 ((aJ bB C).cells) 283::fM I cp cr gA s gc lA t lc uA u uc tA B tc (some ⟨d,0,none⟩) k sc::fG gA s gc gs::fI lA t lc cl::fI uA u uc cu::fT tA B tc ts::fS (some ⟨d,0,none⟩) k sc (aN b g c ({o with floor:=max o.floor (aJ bB C).v}))::(fR (aN b g c ({o with floor:=max o.floor (aJ bB C).v}))++(T))):=e
    refine dJ kr ?_
    refine qd kr ?_
    refine Jb Z e ((JG∘JR∘bT 1∘Jp 1∘aG∘Jq) λa Z e=>?_)
    exact ⟨_,om,c+1,(aN b g c {o with floor:=max o.floor (aJ bB C).v}),(p.set c {o with floor:=max o.floor (aJ bB C).v}),by rw [zh];exact U,E.put (by show g<abl b;omega) {o with floor:=max o.floor (aJ bB C).v} ⟨V.v,V.r,by show max _ _<_;rw [afX];split<;>omega⟩ M,qy3 L (by show g<abl rs;omega) (by show c<(rs.getD g Rw.zero).l.length;omega) (by rw [q];exact F) hr1,K4 om q,by rw [abO];exact P,rfl,Z.sub kr,e.pt 7 [1,2,3,4,5,6]⟩
   have hem:aO (⟨cp,cr,gA,gc,gs,lA,lc,cl,uA,uc,cu,tA,tc,ts,some ⟨d,0,none⟩,sc,rs⟩:aC).av g c=[]:=by rw [G];simpa using H
   refine (JF∘aD∘JR∘bT 1∘Jp 1∘aK∘Jq) λa Z e=>?_
   exact ⟨_,om,c+1,b,p,U,E,qy4 L hem,q,P,rfl,Z.sub kr,e.pt 7 [1,2,3,4,5,6]⟩
  refine (JF∘JX∘JG∘JR∘bT 1∘Jp 1∘aK∘Jq) λa Z e=>?_
  exact ⟨_,om,g+1,b,by omega,U,E,q3v L (by show (rs.getD g Rw.zero).l.length≤c;omega),rfl,Z.sub kr,e.pt 6 [0,1,2,3,4,5]⟩
 refine (JF∘JX) λa Z e=>?_
 exact gM rfl Z (YR (x:=(⟨cp,cr,gA,gc,gs,lA,lc,cl,uA,uc,cu,tA,tc,ts,some ⟨d,0,none⟩,sc,rs⟩:aC)) hl2 R.spots (q3w hR (by show abl rs≤g;omega)) e)
theorem PY {l:List Nat} (n:Nat) (h:Mem W w F) (i:F.drop n=jm f x m b d e a++T) (j:dz x m b d e a) (hc:(c:Int)<x.ak) (k:g<a) (o:kH x.av g c=l):Calls abm 200 #[vP f 0,vI g,vI c] w (Lg w l):=o▸q9z n h i j hc k
def PZ {m n e f a g c:Nat} {l:List Nat} (b:dz x m n e f a) (k:g<a) (i:kH x.av g c=l):∀h∈l,0<h∧h<a:=by
 subst i
 intro h j
 obtain ⟨_,_,_,d⟩:=lX b.sh.cfg
 have h1:=b.sh.rs
 have h2:=b.ln.s
 have h3:=Ya (s:=x.av) (c:=c) (g:=g) (uE d om) h j
 exact ⟨h3.1,by omega⟩
theorem YT {s:aW} {c:Nat}:∀(f g:Nat),abl (qK s c f g)≤f
 |0,g=>abq _
 | f + 1, g => by
  rw [qK]
  split
  ·exact abw _
  ·split
   ·rw [ab1];have:=YT (s:=s) (c:=c) f (s.par g).toNat;omega
   ·exact abw _
def P5 {m n d e a g c:Nat} {l:List Nat} (b:dz x m n d e a) (h:g<a) (f:kH x.av g c=l):abl l≤1000000:=by
 subst f
 have h1:abl (kH x.av g c)≤g:=YT (s:=x.av) (c:=c) g g
 have h2:=b.few.s
 have h3:=b.ln.s
 omega
theorem Ll {E:Option Addr} {l:List Nat} (n:Nat) (y:Mem W w F) (z:F.drop n=jm h x m d e f b++T) {j:Nat} (A:F[j]?=some (.row (.slice E (abl l) i) (abl l) (l.map dD) 3 1)) (B:j<n) (C:qZ x m d e f b) (k:∀g∈l,0<g∧g<b) (o:abl l≤1000000)
  (p:bU x.gs=true) (q:abl x.rs=abl x.gs) (s:dX x.gs x.ak x.rs) (t:x.aj<18446744073709551616) (u:x.ak≤64) (hc:(c:Int)<x.ak):
  Calls abm 206 #[vP h 0,.slice E (abl l) i,vI c] w (λr v=>∃a,r= .returned (.tuple #[])∧abl a=b∧dX x.gs x.ak a∧({x with rs:=a}:aC).av=fZ x.av l c∧Mem W v (F.take n++(jm h {x with rs:=a} m d e f b++T))):=
 (qzj W w x h c m d e f b C (F.take n++T) E i l (List.mem_append_left _ (abM (by rw [List.getElem?_take_of_lt B];exact A))) k o p q s t u hc (y.front n z)).mono λr v ⟨a,h1,h2,h3,h4,h5⟩=>⟨a,h1,h2,h3,h4,h5.back⟩
def qlu (W w:World) (x:aC) (N:Nat) (H I J D K:Nat) (l:dz x H I J D K) (o:bC) (E:o.Ok) (T:List Fact) (b:Mem W w (jm N x H I J D K++T)):
    Calls abm 153 #[vP N 0,.agg o.cells] w (jX W N T (xM x.av o)):=by
 obtain ⟨cp,cr,gA,gc,gs,lA,lc,cl,uA,uc,cu,tA,tc,ts,sA,sc,rs⟩:=x
 replace b:Mem W w (fM N cp cr gA H gc lA I lc uA J uc tA D tc sA K sc::fG gA H gc gs::fI lA I lc cl::fI uA J uc cu::fT tA D tc ts::fS sA K sc rs::(fR rs++(T))):=b
 obtain ⟨O,P,Q,A,R⟩:=l.ln
 replace O:abl gs=H:=O;replace P:abl cl=I:=P;replace Q:abl cu=J:=Q;replace A:abl ts=D:=A;replace R:abl rs=K:=R
 have e:=l.ln
 have hsp:dX gs cp rs:=l.spots
 have hrg:abl rs=abl gs:=l.sh.rs
 have hcr:cr<18446744073709551616:=l.ok.aj
 obtain ⟨F,G,_,B⟩:=lX l.sh.cfg
 replace F:1≤cp:=F;replace G:cp≤64:=G;replace B:bU gs=true:=B
 have nA:=(qp B).1;have nC:=(qp B).2.1
 have o7:(abl cl:Int)=cp:=l.sh.cl;have nX:(abl cu:Int)=cp:=l.sh.cu
 have nD:abl ts≤1000000:=l.few.t
 have hoc:=E.cpu;have hot:=E.task;have hog:=E.group;have how:=E.weight;have S:=E.to;have U:=E.ticks;have xZ:=E.mask;have o8:=E.kind;unfold aR at hoc hot hog how S U
 refine (lQ b Tryz.func153 55) ?_
 refine (JP∘JE) λw3 g3=>(Jp 2∘Jr∘Jp 1∘Jj∘JQ∘JB∘JP∘Jg 2 O0∘JI (h:=by exact λb=>K8 o.task _)) λwL c=>(Jp 2∘dQ∘Jj) (oz (λd=>?_) λd=>?_)
 ·
  exact (JT∘JP∘Jp 2∘Jj∘JZ∘bG) λb=>by exact qt (y:=(⟨cp,cr,gA,gc,gs,lA,lc,cl,uA,uc,cu,tA,tc,ts,sA,sc,rs⟩:aC)) 1 b rfl e (if_pos (decide_eq_false d))
 refine (JF∘JP∘Jg 4 O0∘JL (h:=by exact λb=>KQ o.weight _)) ?_
 rintro b _ CY ⟨rfl,c⟩
 refine ⟨_,rfl,_,b.call c,?_⟩
 refine (Jp 2∘dQ∘Jj) (oz (λg=>?_) λg=>?_)
 ·
  exact (JT∘JP∘Jp 2∘Jj∘JZ∘bG) λb=>by exact qt (y:=(⟨cp,cr,gA,gc,gs,lA,lc,cl,uA,uc,cu,tA,tc,ts,sA,sc,rs⟩:aC)) 1 b rfl e ((if_neg (nf (decide_eq_true d))).trans (if_pos (decide_eq_false g)))
 refine (JF∘aD∘JQ∘JP∘Jp 1∘Jg 2 O0∘JI (h:=by exact λb=>FX 1 b rfl l o.task)) λNz c=>(Jp 1∘dQ∘Jr∘Jp 2∘aK∘Jj) (Ji (λm=>?_) λm=>?_)
 ·
  exact (JT∘JP∘Jp 2∘Jj∘JZ∘bG) λb=>by exact qt (y:=(⟨cp,cr,gA,gc,gs,lA,lc,cl,uA,uc,cu,tA,tc,ts,sA,sc,rs⟩:aC)) 1 b rfl e ((if_neg (nf (decide_eq_true d))).trans ((if_neg (nf (decide_eq_true g))).trans (if_pos (m))))
 obtain ⟨k,t,hk,ht,V,yg⟩:=FZ m
 replace hk:fidx ts o.task=(k:Int):=hk;replace ht:ts[k]?=some t:=ht;replace V:k<abl ts:=V
 obtain ⟨p,L⟩:=l.task ht
 have hti:=p.id;have uU:=p.group;have X:=p.cpu;have F8:=p.weight;have Y:=L.v;have htr:=L.r;have F9:=L.mask
 replace X:0≤t.cpu∧t.cpu<cp:=X
 obtain ⟨gt,hgt⟩:∃n:Nat,t.group=(n:Int):=⟨t.group.toNat,by omega⟩
 obtain ⟨ct,hct⟩:∃n:Nat,t.cpu=(n:Int):=⟨t.cpu.toNat,by omega⟩
 obtain ⟨s,hwt⟩:∃n:Nat,t.weight=(n:Int):=⟨t.weight.toNat,by omega⟩
 have M:(⟨t.v,t.r,s⟩:En).Ok:=aaj p.ent hwt Y
 obtain ⟨z,wU⟩:∃n:Nat,o.weight=(n:Int):=⟨o.weight.toNat,by omega⟩
 have hz:1≤z∧z≤65536:=by omega
 repeat (first|clear Z|clear b)
 intro a Z b
 obtain ⟨q,rfl⟩:=b.rat 5 k (hk:=(by omega:k<D))
 refine Jb Z b ((JF∘aD∘JP∘Jp 1∘Jn∘Jf 0∘Jg 5 O1∘Jp 1∘Jo (vI k) (by rw [hk])∘l9 k 8∘Jp 1∘aG∘Jj) λa Z b=>?_)
 refine q9 (λaS wS=>∃(C:Nat),Fr aS 55 [] [(8,vP C 0),(7,vP q (k*8)),(25,.bool false),(6,vI (fidx ts o.task)),(15,.bool false),(10,.bool false),(5,vI 0),(4,vI 0),(3,vP g3 0),(0,vP N 0)]∧Mem W wS (.blk C ((⟨t.v,0,z⟩:En).cells) 333:: .blk g3 o.cells 214::fM N cp cr gA H gc lA I lc uA J uc (some ⟨q,0,none⟩) D tc sA K sc::fG gA H gc gs::fI lA I lc cl::fI uA J uc cu::fT (some ⟨q,0,none⟩) D tc ts::fS sA K sc rs::(fR rs++(T)))) ?_ ?_
 ·
  refine Jb Z b ((Vs .n [20]) λqI=>(Vp [0,4,8]∘Vf 13 4∘Vn 1∘Vf 2 6∘Vy 3 (v:=vQ t.v) (h:=by exact Pd rfl rfl kr (λ_ h=>h.qq qk (i:=5) rfl (k:=k) (off:=6) (x:=t) (ht) rfl))∘Vn 5∘Vf 6 7∘Vy 7 (v:=vW t.r) (h:=by exact Pd rfl rfl kr (λ_ h=>h.qq qk (i:=5) rfl (k:=k) (off:=7) (x:=t) (ht) rfl))∘Vn 9∘Vf 10 2∘Vy 11 (v:=vI t.weight) (h:=by exact Pd rfl rfl kr (λ_ h=>h.qq qk (i:=5) rfl (k:=k) (off:=2) (x:=t) (ht) rfl))∘Vo (vI s) (by rw [hwt])∘Vc 14 O0∘Vo (vI z) (by rw [wU])) λa Z b u=>?_)
  refine zc [12,19] kr rfl ?_
  refine all_cons ?_ ?_
  ·refine qu Z (i:=12) rfl rfl ?_
   refine iR Z b [vQ t.v,vW t.r,vI s] (.agg #[vQ t.v,vW t.r,vW s]) rfl rfl (q8 t.v t.r (s:Int) om _) λEG c b a Z=>?_
   refine ay (b.pt 7 [0,1,2,3,4,5,6]) (λu=>?_)
   refine zc [15,19] kr rfl ?_
   refine all_cons ?_ ?_
   ·refine qu Z (i:=15) rfl rfl ?_
    refine iR Z b [.agg #[vQ t.v,vW t.r,vW s],vI z] (.tuple #[.agg ((⟨t.v,0,z⟩:En).cells),vI 0]) rfl rfl (Dp (⟨t.v,t.r,s⟩:En) M z hz _) λBv c b a Z=>?_
    refine ay (b.pt 7 [0,1,2,3,4,5,6]) (λu=>?_)
    refine Vb Z b u ((Vp [16]∘Vx 17∘Vx 18∘VA 19 .n #[vQ 0,vW 0,vW 0]) λw8 C=>λa Z b u=>?_)
    refine s_on Z 20 rfl (cK Z b 0 rfl rfl rfl rfl rfl qm rfl rfl (lS (⟨t.v,0,z⟩:En)) λj b=>?_)
    refine dJ kr ?_
    refine ap Z (bM kr) [21] (bt 22 []) [] λa Z=>?_
    refine qd kr ?_
    exact ⟨C,Z.sub kr,b.pt 8 [0,1,2,3,4,5,6,7]⟩
   refine all_cons ?_ all_nil
   refine qu Z (i:=19) rfl rfl ?_
   refine gN Z b #[vQ 0,vW 0,vW 0] ?_
   clear Z b;intro a w8 C Z b
   refine ay (b.pt 8 [1,2,3,4,5,6,7]) (λu=>?_)
   refine Vb Z b u ((VI 15 (.f .n) (h:=by exact λb=>Dp (⟨t.v,t.r,s⟩:En) M z hz _)) λBv c=>(Vp [16]∘Vx 17∘Vx 18) λa Z b u=>?_)
   refine s_on Z 20 rfl (cK Z b 0 rfl rfl rfl rfl rfl qm rfl rfl (lS (⟨t.v,0,z⟩:En)) λj b=>?_)
   refine dJ kr ?_
   refine ap Z (bM kr) [21] (bt 22 []) [] λa Z=>?_
   refine qd kr ?_
   exact ⟨C,Z.sub kr,b.pt 8 [0,1,2,3,4,5,6,7]⟩
  refine all_cons ?_ all_nil
  refine qu Z (i:=19) rfl rfl ?_
  refine gN Z b #[vQ 0,vW 0,vW 0] ?_
  clear Z b;intro a w8 C Z b
  refine ay (b.pt 8 [1,2,3,4,5,6,7]) (λu=>?_)
  refine Vb Z b u ((VI 12 (.f .n) (h:=by exact λb=>q8 t.v t.r (s:Int) om _)) λEG c=>(VI 15 (.f .n) (h:=by exact λb=>Dp (⟨t.v,t.r,s⟩:En) M z hz _)) λBv c=>(Vp [16]∘Vx 17∘Vx 18) λa Z b u=>?_)
  refine s_on Z 20 rfl (cK Z b 0 rfl rfl rfl rfl rfl qm rfl rfl (lS (⟨t.v,0,z⟩:En)) λj b=>?_)
  refine dJ kr ?_
  refine ap Z (bM kr) [21] (bt 22 []) [] λa Z=>?_
  refine qd kr ?_
  exact ⟨C,Z.sub kr,b.pt 8 [0,1,2,3,4,5,6,7]⟩
 clear Z b;rintro a tZ ⟨C,Z,b⟩
 exact Jb Z b ((JP∘Jp 1∘d9 qm O0∘JO (h:=by exact λb=>K7 t (⟨t.v,0,z⟩:En) xA b ht A (Px Y hz))) λw54=>(ow∘Jr∘Jp 2∘Jj∘JZ∘bG) λb=>by exact qt (y:=(⟨cp,cr,gA,gc,gs,lA,lc,cl,uA,uc,cu,some ⟨q,0,none⟩,tc,(ts.set k (t.put (⟨t.v,0,z⟩:En))),sA,sc,rs⟩:aC)) 2 b rfl (Dr e (by rw [abO];exact A)) (qq2 (x:=(⟨cp,cr,gA,gc,gs,lA,lc,cl,uA,uc,cu,some ⟨q,0,none⟩,tc,ts,sA,sc,rs⟩:aC)) (decide_eq_true d) (decide_eq_true g) hk ht wU))
def qt2 (W w:World) (x:aC) (O:Nat) (S U V P H:Nat) (q:dz x S U V P H) (o:bC) (ho:o.Ok) (T:List Fact) (b:Mem W w (jm O x S U V P H++T)):
    Calls abm 149 #[vP O 0,.agg o.cells] w (jX W O T (xL x.av o)):=by
 obtain ⟨cp,cr,gA,gc,gs,lA,lc,cl,uA,uc,cu,tA,tc,ts,sA,sc,rs⟩:=x
 replace b:Mem W w (fM O cp cr gA S gc lA U lc uA V uc tA P tc sA H sc::fG gA S gc gs::fI lA U lc cl::fI uA V uc cu::fT tA P tc ts::fS sA H sc rs::(fR rs++(T))):=b
 obtain ⟨l5,hll,ny,I,hls⟩:=q.ln
 replace l5:abl gs=S:=l5;replace hll:abl cl=U:=hll;replace ny:abl cu=V:=ny;replace I:abl ts=P:=I;replace hls:abl rs=H:=hls
 have m:=q.ln
 have hsp:dX gs cp rs:=q.spots
 have hrg:abl rs=abl gs:=q.sh.rs
 have X:cr<18446744073709551616:=q.ok.aj
 obtain ⟨hcp1,J,_,K⟩:=lX q.sh.cfg
 replace hcp1:1≤cp:=hcp1;replace J:cp≤64:=J;replace K:bU gs=true:=K
 have nA:=(qp K).1;have nC:=(qp K).2.1
 have o7:(abl cl:Int)=cp:=q.sh.cl;have nX:(abl cu:Int)=cp:=q.sh.cu
 have nD:abl ts≤1000000:=q.few.t
 have hoc:=ho.cpu;have hot:=ho.task;have hog:=ho.group;have how:=ho.weight;have nY:=ho.to;have nZ:=ho.ticks;have xZ:=ho.mask;have o8:=ho.kind;unfold aR at hoc hot hog how nY nZ
 obtain ⟨g,rfl⟩:=zj (b.own (i:=5) rfl) om
 refine (lQ b Tryz.func149 103) ?_
 refine (JP∘JE) λw3 g3=>(Jp 2∘Jj∘JQ∘JP∘Jg 2 O0∘JI (h:=by exact λb=>K8 o.task _)) λwL C=>(Jp 1∘bH∘Jj) (oz (λp=>?_) λp=>?_)
 ·
  exact (JT∘JP∘Jp 2∘Jj∘JZ∘bG) λb=>by exact qt (y:=(⟨cp,cr,gA,gc,gs,lA,lc,cl,uA,uc,cu,tA,tc,ts,some ⟨g,0,none⟩,sc,rs⟩:aC)) 1 b rfl m (if_pos (decide_eq_false p))
 refine (JF∘aD∘JP∘Jp 1∘Jg 2 O0∘JI (h:=by exact λb=>FX 1 b rfl q o.task)) λCY C=>(Jp 1∘dQ∘Jj∘JQ∘JB∘JP∘Jp 3∘bH∘Jj) (Ji (λu=>?_) λu=>?_)
 ·
  exact (JT∘JP∘Jp 2∘Jj∘JZ∘bG) λb=>by exact qt (y:=(⟨cp,cr,gA,gc,gs,lA,lc,cl,uA,uc,cu,tA,tc,ts,some ⟨g,0,none⟩,sc,rs⟩:aC)) 1 b rfl m ((if_neg (nf (decide_eq_true p))).trans (if_pos (u)))
 obtain ⟨k,t,hk,ht,hkl,yg⟩:=FZ u
 replace hk:fidx ts o.task=(k:Int):=hk;replace ht:ts[k]?=some t:=ht;replace hkl:k<abl ts:=hkl
 obtain ⟨L,hto⟩:=q.task ht
 have hti:=L.id;have uU:=L.group;have htc:=L.cpu;have F8:=L.weight;have yh:=hto.v;have htr:=hto.r;have F9:=hto.mask
 replace htc:0≤t.cpu∧t.cpu<cp:=htc
 obtain ⟨gt,hgt⟩:∃n:Nat,t.group=(n:Int):=⟨t.group.toNat,by omega⟩
 obtain ⟨ct,Y⟩:∃n:Nat,t.cpu=(n:Int):=⟨t.cpu.toNat,by omega⟩
 obtain ⟨G,hwt⟩:∃n:Nat,t.weight=(n:Int):=⟨t.weight.toNat,by omega⟩
 have uV:(⟨t.v,t.r,G⟩:En).Ok:=aaj L.ent hwt yh
 repeat (first|clear Z|clear b)
 intro a Z b
 obtain ⟨d,rfl⟩:=b.rat 5 k (hk:=(by omega:k<P))
 refine Jb Z b ((JF∘JP∘Jp 1∘Jn∘Jf 0∘Jg 5 O1∘Jp 1∘Jo (vI k) (by rw [hk])∘l9 k 8∘Jf 5∘Jy (v:= .bool t.ready) (h:=by exact Pd rfl rfl kr (λ_ h=>h.qq qk (i:=5) rfl (k:=k) (off:=5) (x:=t) (ht) rfl))∘Jp 1∘aG∘Jj) (Ju (λM=>?_) λM=>?_))
 ·
  exact (JT∘JP∘Jp 2∘Jj∘JZ∘bG) λb=>by exact qt (y:=(⟨cp,cr,gA,gc,gs,lA,lc,cl,uA,uc,cu,some ⟨d,0,none⟩,tc,ts,some ⟨g,0,none⟩,sc,rs⟩:aC)) 1 b rfl m ((if_neg (nf (decide_eq_true p))).trans ((if_neg (u)).trans (if_pos (by rw [wR (s:=aC.av (⟨cp,cr,gA,gc,gs,lA,lc,cl,uA,uc,cu,some ⟨d,0,none⟩,tc,ts,some ⟨g,0,none⟩,sc,rs⟩:aC)) hk ht];exact M))))
 have hnr:t.ready=false:=by simpa using M
 obtain ⟨Q,hem⟩:∃l,kH (⟨cp,cr,gA,gc,gs,lA,lc,cl,uA,uc,cu,some ⟨d,0,none⟩,tc,ts,some ⟨g,0,none⟩,sc,rs⟩:aC).av gt ct=l:=⟨_,rfl⟩
 have sD:=λh hh=>PZ (x:=(⟨cp,cr,gA,gc,gs,lA,lc,cl,uA,uc,cu,some ⟨d,0,none⟩,tc,ts,some ⟨g,0,none⟩,sc,rs⟩:aC)) q (by omega:gt<H) hem h hh
 have sF:=P5 (x:=(⟨cp,cr,gA,gc,gs,lA,lc,cl,uA,uc,cu,some ⟨d,0,none⟩,tc,ts,some ⟨g,0,none⟩,sc,rs⟩:aC)) q (by omega:gt<H) hem
 obtain ⟨⟨yA,yc,yl⟩,hy⟩:∃y,rs.getD gt Rw.zero=y:=⟨_,rfl⟩
 have hys:=hsp gt om;rw [hy] at hys
 have hyl:(abl yl:Int)=cp:=hys.1
 repeat (first|clear Z|clear b)
 intro a Z b
 obtain ⟨gy,rfl⟩:=b.jv 7 rfl om hy om
 obtain ⟨yz,hyz⟩:∃z,yl[ct]?=some z:=⟨_,abp om⟩
 have mK:=hys.2 yz (abM hyz)
 have hyv:=mK.1.v;have pU:=mK.1.r;have rA:=mK.1.floor
 obtain ⟨e,N⟩:∃e,(⟨t.v,t.r,G⟩:En).woken yz.floor cr=e:=⟨_,rfl⟩
 have tY:e.Ok∧e.w=G:=by rw [←N];exact aaw uV _ _ rA
 have hev:=tY.1.2;have her:=zM tY.1.1
 refine Jb Z b ((JF∘aD∘JP∘Jp 1∘Jn∘Jf 0∘Jg 5 O1∘Jp 1∘Jo (vI k) (by rw [hk])∘l9 k 8∘Jp 1∘aG∘Jj) λa Z b=>?_)
 refine wp_seq ?_
 refine Jb Z b ((Vs .n []) λOl=>(Vp [0,1,5]∘Vn 2∘Vf 3 1∘Vy 4 (v:=vI t.group) (h:=by exact Pd rfl rfl kr (λ_ h=>h.qq qk (i:=5) rfl (k:=k) (off:=1) (x:=t) (ht) rfl))∘Vo (vI gt) (by rw [hgt])∘Vn 6∘Vf 7 3∘Vy 8 (v:=vI t.cpu) (h:=by exact Pd rfl rfl kr (λ_ h=>h.qq qk (i:=5) rfl (k:=k) (off:=3) (x:=t) (ht) rfl))∘Vo (vI ct) (by rw [Y])∘VK 9 .n (h:=by exact λb=>PY 1 b rfl q (by show ((ct:Nat):Int)<cp;omega) om hem)) λD E C9 ajR=>(Vp [10]∘Vd∘aG) λa Z b=>?_)
 refine q9 (λaS wS=>∃(F:Nat),Fr aS 103 [] [(9,vP F 0),(8,abh D Q E),(7,vP d (k*8)),(22,.bool false),(19,.bool false),(6,vI (fidx ts o.task)),(14,.bool false),(5,vI 0),(4,vI 0),(3,vP g3 0),(0,vP O 0)]∧Mem W wS (.blk F e.cells 333:: abj D Q E dD 3 1:: .blk g3 o.cells 214::fM O cp cr gA S gc lA U lc uA V uc (some ⟨d,0,none⟩) P tc (some ⟨g,0,none⟩) H sc::fG gA S gc gs::fI lA U lc cl::fI uA V uc cu::fT (some ⟨d,0,none⟩) P tc ts::fS (some ⟨g,0,none⟩) H sc rs::(fR rs++(T)))) ?_ ?_
 ·
  refine Jb Z b ((Vs .n [42]) λqI=>(Vp [0,4,8,13,18,24,31]∘Vn 1∘Vf 2 6∘Vy 3 (v:=vQ t.v) (h:=by exact Pd rfl rfl kr (λ_ h=>h.qq qk (i:=6) rfl (k:=k) (off:=6) (x:=t) (ht) rfl))∘Vn 5∘Vf 6 7∘Vy 7 (v:=vW t.r) (h:=by exact Pd rfl rfl kr (λ_ h=>h.qq qk (i:=6) rfl (k:=k) (off:=7) (x:=t) (ht) rfl))∘Vn 9∘Vf 10 2∘Vy 11 (v:=vI t.weight) (h:=by exact Pd rfl rfl kr (λ_ h=>h.qq qk (i:=6) rfl (k:=k) (off:=2) (x:=t) (ht) rfl))∘Vo (vI G) (by rw [hwt])∘Vn 14∘Vf 15 0∘Vf 16 6∘Vc 17 O2∘Vn 19∘Vf 20 1∘Vy 21 (v:=vI t.group) (h:=by exact Pd rfl rfl kr (λ_ h=>h.qq qk (i:=6) rfl (k:=k) (off:=1) (x:=t) (ht) rfl))∘Vo (vI gt) (by rw [hgt])∘Vy 22 (h:=by exact Yl.iw g gt 1 rfl rfl rfl)∘Vy 23 (v:= .slice ((rs.getD gt Rw.zero).A) ((rs.getD gt Rw.zero).l.length) ((rs.getD gt Rw.zero).c)) (h:=by exact aae 7 gt Rw.zero om rfl rfl rfl)∘Vo (vS gy (abl yl) yc) (by rw [hy])∘Vn 25∘Vf 26 3∘Vy 27 (v:=vI t.cpu) (h:=by exact Pd rfl rfl kr (λ_ h=>h.qq qk (i:=6) rfl (k:=k) (off:=3) (x:=t) (ht) rfl))∘Vo (vI ct) (by rw [Y])∘Vy 28 (h:=by exact Yl.iw gy ct 3 rfl rfl rfl)∘Vf 29 2∘Vy 30 (v:=vQ yz.floor) (h:=by exact Pd rfl rfl kr (λ_ h=>h.sU 8 (j:=2) rfl om hy (hyz) rfl))∘Vn 32∘Vf 33 0∘Vf 34 0∘Vf 35 1∘Vc 36 O2) λa Z b R=>?_)
  refine zc [12,41] kr rfl ?_
  refine all_cons ?_ ?_
  ·refine qu Z (i:=12) rfl rfl ?_
   refine iR Z b [vQ t.v,vW t.r,vI G] (.agg #[vQ t.v,vW t.r,vW G]) rfl rfl (q8 t.v t.r (G:Int) om _) λw62 C b a Z=>?_
   refine ay (b.pt 8 [0,1,2,3,4,5,6,7]) (λR=>?_)
   refine zc [37,41] kr rfl ?_
   refine all_cons ?_ ?_
   ·refine qu Z (i:=37) rfl rfl ?_
    refine iR Z b [.agg #[vQ t.v,vW t.r,vW G],vQ yz.floor,vQ cr] (.tuple #[.agg e.cells,vI 0]) rfl rfl (Dw (⟨t.v,t.r,G⟩:En) e uV yz.floor cr rA X N _) λLm C b a Z=>?_
    refine ay (b.pt 8 [0,1,2,3,4,5,6,7]) (λR=>?_)
    refine Vb Z b R ((Vp [38]∘Vx 39∘Vx 40∘VA 41 .n #[vQ 0,vW 0,vW 0]) λw9 F=>λa Z b R=>?_)
    refine s_on Z 42 rfl (cK Z b 0 rfl rfl rfl rfl rfl qm rfl rfl (lS e) λB b=>?_)
    refine dJ kr ?_
    refine ap Z (bM kr) [43] (bt 44 []) [] λa Z=>?_
    refine qd kr ?_
    replace Z:=Z.to [(9,vP F 0),(8,abh D Q E),(7,vP d (k*8)),(22,.bool false),(19,.bool false),(6,vI (fidx ts o.task)),(14,.bool false),(5,vI 0),(4,vI 0),(3,vP g3 0),(0,vP O 0)]
    exact ⟨F,Z.sub kr,b.pt 9 [0,1,2,3,4,5,6,7,8]⟩
   refine all_cons ?_ all_nil
   refine qu Z (i:=41) rfl rfl ?_
   refine gN Z b #[vQ 0,vW 0,vW 0] ?_
   clear Z b;intro a w9 F Z b
   refine ay (b.pt 9 [1,2,3,4,5,6,7,8]) (λR=>?_)
   refine Vb Z b R ((VI 37 (.f .n) (h:=by exact λb=>Dw (⟨t.v,t.r,G⟩:En) e uV yz.floor cr rA X N _)) λLm C=>(Vp [38]∘Vx 39∘Vx 40) λa Z b R=>?_)
   refine s_on Z 42 rfl (cK Z b 0 rfl rfl rfl rfl rfl qm rfl rfl (lS e) λB b=>?_)
   refine dJ kr ?_
   refine ap Z (bM kr) [43] (bt 44 []) [] λa Z=>?_
   refine qd kr ?_
   replace Z:=Z.to [(9,vP F 0),(8,abh D Q E),(7,vP d (k*8)),(22,.bool false),(19,.bool false),(6,vI (fidx ts o.task)),(14,.bool false),(5,vI 0),(4,vI 0),(3,vP g3 0),(0,vP O 0)]
   exact ⟨F,Z.sub kr,b.pt 9 [0,1,2,3,4,5,6,7,8]⟩
  refine all_cons ?_ all_nil
  refine qu Z (i:=41) rfl rfl ?_
  refine gN Z b #[vQ 0,vW 0,vW 0] ?_
  clear Z b;intro a w9 F Z b
  refine ay (b.pt 9 [1,2,3,4,5,6,7,8]) (λR=>?_)
  refine Vb Z b R ((VI 12 (.f .n) (h:=by exact λb=>q8 t.v t.r (G:Int) om _)) λw62 C=>(VI 37 (.f .n) (h:=by exact λb=>Dw (⟨t.v,t.r,G⟩:En) e uV yz.floor cr rA X N _)) λLm C=>(Vp [38]∘Vx 39∘Vx 40) λa Z b R=>?_)
  refine s_on Z 42 rfl (cK Z b 0 rfl rfl rfl rfl rfl qm rfl rfl (lS e) λB b=>?_)
  refine dJ kr ?_
  refine ap Z (bM kr) [43] (bt 44 []) [] λa Z=>?_
  refine qd kr ?_
  replace Z:=Z.to [(9,vP F 0),(8,abh D Q E),(7,vP d (k*8)),(22,.bool false),(19,.bool false),(6,vI (fidx ts o.task)),(14,.bool false),(5,vI 0),(4,vI 0),(3,vP g3 0),(0,vP O 0)]
  exact ⟨F,Z.sub kr,b.pt 9 [0,1,2,3,4,5,6,7,8]⟩
 clear Z b;rintro a tZ ⟨F,Z,b⟩
 refine Jb Z b ((JP∘Jp 1∘d9 qm O0∘JO (h:=by exact λb=>K7 t e xB b ht I tY.1)) λP6=>(ow∘Jr∘Jp 1∘Jn∘Jf 5) λa Z b=>?_)
 refine fo Z 3 rfl rfl ?_
 refine zd Z b (i:=7) rfl rfl rfl rfl kr rfl rfl (by rw [pO bI 8 qk,abO];omega) λFB b=>?_
 replace b:=b.bR (i:=7) (ys:=(ts.set k {t.put e with ready:=true}).flatMap bI) rfl ((tL bI 8 qk (ts.set k (t.put e)) k (t.put e) {t.put e with ready:=true} (wQ ht) 5 de _ rfl).trans (by rw [adX]))
 refine Jb Z b ((ow∘Jr∘Jp 3∘Jn∘Jf 3∘Jy (v:=vI (({t.put e with ready:=true}:Tk).cpu)) (h:=by exact Pd rfl rfl kr (λ_ h=>h.qq qk (i:=7) rfl (k:=k) (off:=3) (x:=({t.put e with ready:=true}:Tk)) ((wQ ht)) rfl))∘Jo (vI ct) (by rw [←Y];try rfl)∘JL (h:=by exact λb=>Ll 3 b rfl (j:=1) rfl de (Dr (ts':=ts.set k {t.put e with ready:=true}) m (by rw [abO];exact I)) (sD) (sF) K hrg hsp X J (by show ((ct:Nat):Int)<cp;omega))) ?_)
 rintro b _ P7 ⟨jE,rfl,hl2,hsp2,nE,BG⟩
 refine ⟨_,rfl,_,(show Mem W P7 (.blk F e.cells 333:: abj D Q E dD 3 1:: .blk g3 o.cells 214::fM O cp cr gA S gc lA U lc uA V uc (some ⟨d,0,none⟩) P tc (some ⟨g,0,none⟩) H sc::fG gA S gc gs::fI lA U lc cl::fI uA V uc cu::fT (some ⟨d,0,none⟩) P tc (ts.set k {t.put e with ready:=true})::fS (some ⟨g,0,none⟩) H sc jE::(fR jE++(T))) from BG),?_⟩
 exact (iE∘Jr∘Jp 2∘Jj∘JZ∘bG) λb=>by exact qt (y:=(⟨cp,cr,gA,gc,gs,lA,lc,cl,uA,uc,cu,some ⟨d,0,none⟩,tc,(ts.set k {t.put e with ready:=true}),some ⟨g,0,none⟩,sc,jE⟩:aC)) 3 b rfl (K9 (Dr m (by rw [abO];exact I)) hl2) ((q32 (x:=(⟨cp,cr,gA,gc,gs,lA,lc,cl,uA,uc,cu,some ⟨d,0,none⟩,tc,ts,some ⟨g,0,none⟩,sc,rs⟩:aC)) (decide_eq_true p) hk ht hnr hgt Y hwt (wP (x:=(⟨cp,cr,gA,gc,gs,lA,lc,cl,uA,uc,cu,some ⟨d,0,none⟩,tc,ts,some ⟨g,0,none⟩,sc,rs⟩:aC)) (by show gt<abl rs;omega) hy hyz) N hem).trans (by rw [←nE]))
def qzl (W w:World) (x:aC) (M:Nat) (B C A D E:Nat) (j:dz x B C A D E) (o:bC) (q:o.Ok) (T:List Fact) (d:Mem W w (jm M x B C A D E++T)):
    Calls abm 152 #[vP M 0,.agg o.cells] w (jX W M T (ku x.av o)):=by
 obtain ⟨cp,cr,gA,gc,gs,lA,lc,cl,uA,uc,cu,tA,tc,ts,sA,sc,rs⟩:=x
 replace d:Mem W w (fM M cp cr gA B gc lA C lc uA A uc tA D tc sA E sc::fG gA B gc gs::fI lA C lc cl::fI uA A uc cu::fT tA D tc ts::fS sA E sc rs::(fR rs++(T))):=d
 obtain ⟨G,H,z,I,J⟩:=j.ln
 replace G:abl gs=B:=G;replace H:abl cl=C:=H;replace z:abl cu=A:=z;replace I:abl ts=D:=I;replace J:abl rs=E:=J
 have e:=j.ln
 have hsp:dX gs cp rs:=j.spots
 have hrg:abl rs=abl gs:=j.sh.rs
 have hcr:cr<18446744073709551616:=j.ok.aj
 obtain ⟨r,u,_,m⟩:=lX j.sh.cfg
 replace r:1≤cp:=r;replace u:cp≤64:=u;replace m:bU gs=true:=m
 have U:=(qp m).1;have V:=(qp m).2.1
 have X:(abl cl:Int)=cp:=j.sh.cl;have Y:(abl cu:Int)=cp:=j.sh.cu
 have nD:abl ts≤1000000:=j.few.t
 have N:=q.cpu;have O:=q.task;have P:=q.group;have Q:=q.weight;have K:=q.to;have L:=q.ticks;have xZ:=q.mask;have o8:=q.kind;unfold aR at N O P Q K L
 obtain ⟨b,rfl⟩:=zj (d.own (i:=3) rfl) om
 refine (lQ d Tryz.func152 32) ?_
 refine (JP∘JE) λw3 g3=>(Jp 2∘Jj∘JQ∘JP∘Jp 1∘Jg 1 O0∘JI (h:=by exact λd=>Dq 1 d rfl j o.cpu)) λw9 R=>(Jp 1∘dQ∘Jj) (oz (λf=>?_) λf=>?_)
 ·
  exact (JT∘JP∘Jp 2∘Jj∘JZ∘bG) λd=>by exact qt (y:=(⟨cp,cr,gA,gc,gs,lA,lc,cl,some ⟨b,0,none⟩,uc,cu,tA,tc,ts,sA,sc,rs⟩:aC)) 1 d rfl e (if_pos (decide_eq_false f))
 replace f:0≤o.cpu∧o.cpu<cp:=f
 obtain ⟨c,p⟩:∃n:Nat,o.cpu=(n:Int):=⟨o.cpu.toNat,by omega⟩
 have qL:((c:Nat):Int)<cp:=by omega
 refine (JF∘aD) λa Z d=>?_
 refine wp_seq ?_
 refine Jb Z d ((Vs .n [12]) λwd3=>(Vp [0]∘Vf 5 1∘Vp [7]∘Vf 8 1∘Vn 1∘Vf 2 0∘Vf 3 4∘Vc 4 O1∘Vc 6 O0∘Vo (vI c) (by rw [p])∘Vc 9 O0∘Vo (vI c) (by rw [p])∘VI 10 .n (h:=by exact λd=>q90 1 d rfl j (by show ((c:Nat):Int)<cp;omega))) λGa R=>(Vy 11 (h:=by exact Yl.iw b c 1 rfl rfl rfl)) λa Z d HS=>?_)
 refine s_on Z 12 rfl ?_
 refine zd Z d (i:=4) rfl rfl rfl rfl kr rfl rfl (by rw [abu];omega) λS d=>?_
 replace d:=d.bR (i:=4) (ys:=(cu.set c (oD (⟨cp,cr,gA,gc,gs,lA,lc,cl,some ⟨b,0,none⟩,uc,cu,tA,tc,ts,sA,sc,rs⟩:aC).av c:Int)).map aP) rfl (Ka aP cu c (oD (⟨cp,cr,gA,gc,gs,lA,lc,cl,some ⟨b,0,none⟩,uc,cu,tA,tc,ts,sA,sc,rs⟩:aC).av c:Int) om)
 refine dJ kr ?_
 refine qd kr ?_
 refine wp_seq ?_
 exact Jb Z d ((Vs .n []) λwd4=>(Vp [0]∘Vf 5 1∘Vn 1∘Vf 2 0∘Vf 3 4∘Vc 4 O1∘Vc 6 O0∘Vo (vI c) (by rw [p])∘Vy 7 (h:=by exact Yl.iw b c 1 rfl rfl rfl)∘Vy 8 (v:=vI (oD (⟨cp,cr,gA,gc,gs,lA,lc,cl,some ⟨b,0,none⟩,uc,cu,tA,tc,ts,sA,sc,rs⟩:aC).av c)) (h:=by exact Pd rfl rfl kr (λ_ h=>h.Un (i:=4) rfl (k:=c) (xg (F:=aP) (k:=c) (x:=(oD (⟨cp,cr,gA,gc,gs,lA,lc,cl,some ⟨b,0,none⟩,uc,cu,tA,tc,ts,sA,sc,rs⟩:aC).av c:Int)) ((acO om)))))∘Vp [9,10]∘Vd∘JZ∘bG) λd=>by exact qt (y:=(⟨cp,cr,gA,gc,gs,lA,lc,cl,some ⟨b,0,none⟩,uc,(cu.set c (oD (⟨cp,cr,gA,gc,gs,lA,lc,cl,some ⟨b,0,none⟩,uc,cu,tA,tc,ts,sA,sc,rs⟩:aC).av c:Int)),tA,tc,ts,sA,sc,rs⟩:aC)) 1 d rfl ⟨e.g,e.l,by show abl (cu.set _ _)=A;rw [abO];exact z,e.t,e.s⟩ (q9h (x:=(⟨cp,cr,gA,gc,gs,lA,lc,cl,some ⟨b,0,none⟩,uc,cu,tA,tc,ts,sA,sc,rs⟩:aC)) p (decide_eq_true f)))
def Dx (x e:En) (a:x.Ok) (d:Nat) (b:d≤4294967295) (c:x.add d=e) (w:World):Calls abm 210 #[.agg x.cells,vI d] w (Is w (.tuple #[.agg e.cells,vI 0])):=c▸q9g x a d b w
def YU (n:Nat) (e:Mem W w F) (f:F.drop n=jm d x c m g a b++T) (h:dz x c m g a b) (id:Int) (k:Nat) (hk:fidx x.ts id=(k:Int)):Calls abm 161 #[vP d 0,vI id] w (Is w (vI k)):=hk▸FX n e f h id
def q93 (h:dz x m n b f i) (v:Int) (j:0≤v∧v≤281474976710656):dz ({x with cl:=x.cl.set c v}:aC) m n b f i:=by
 refine ⟨⟨h.ok.ak,h.ok.aj,h.ok.gs,λz hz=>?_,h.ok.cu,h.ok.ts,h.ok.sp⟩,⟨h.few.g,by show abl (x.cl.set c v)≤_;rw [abO];exact h.few.l,h.few.u,h.few.t,h.few.s,h.few.r⟩,⟨h.sh.cfg,by show (abl (x.cl.set c v):Int)=_;rw [abO];exact h.sh.cl,h.sh.cu,h.sh.rs,λd k=>?_,h.sh.row,h.sh.tk⟩,⟨h.ln.g,by show abl (x.cl.set c v)=_;rw [abO];exact h.ln.l,h.ln.u,h.ln.t,h.ln.s⟩⟩
 ·rcases ab3 hz with h1|rfl
  ·exact h.ok.cl z h1
  ·unfold aR;omega
 ·have a:d<abl (x.cl.set c v):=k
  show gP ((x.cl.set c v).getD d 0)=true
  rw [abO] at a
  by_cases e:c=d
  ·subst e
   rw [q6 _ _ a]
   unfold gP
   rw [decide_eq_true j]
  ·rw [getD_set_ne _ _ e]
   exact h.sh.cls d a
def YV (h:dR x.av c=true) (h0:x.cu.getD c 0≠0):∃(k:Nat) (t:Tk),fidx x.ts (x.cu.getD c 0)=(k:Int)∧x.ts[k]?=some t∧k<abl x.ts∧t.id=x.cu.getD c 0:=by
 refine FZ λa=>?_
 rw [Xq h0 (X0 a)] at h
 cases h
def qzm (W w:World) (x:aC) (M:Nat) (R N S O Q:Nat) (U:dz x R N S O Q) (o:bC) (ho:o.Ok) (T:List Fact) (b:Mem W w (jm M x R N S O Q++T)) (hcur:∀c,c<abl x.cu→dR x.av c=true):
    Calls abm 151 #[vP M 0,.agg o.cells] w (jX W M T (jq x.av o)):=by
 obtain ⟨cp,cr,gA,gc,gs,lA,lc,cl,uA,uc,cu,tA,tc,ts,sA,sc,rs⟩:=x
 replace b:Mem W w (fM M cp cr gA R gc lA N lc uA S uc tA O tc sA Q sc::fG gA R gc gs::fI lA N lc cl::fI uA S uc cu::fT tA O tc ts::fS sA Q sc rs::(fR rs++(T))):=b
 obtain ⟨l5,hll,ny,hlt,hls⟩:=U.ln
 replace l5:abl gs=R:=l5;replace hll:abl cl=N:=hll;replace ny:abl cu=S:=ny;replace hlt:abl ts=O:=hlt;replace hls:abl rs=Q:=hls
 have H:=U.ln
 have hsp:dX gs cp rs:=U.spots
 have hrg:abl rs=abl gs:=U.sh.rs
 have hcr:cr<18446744073709551616:=U.ok.aj
 obtain ⟨hcp1,hcp2,_,V⟩:=lX U.sh.cfg
 replace hcp1:1≤cp:=hcp1;replace hcp2:cp≤64:=hcp2;replace V:bU gs=true:=V
 have nA:=(qp V).1;have nC:=(qp V).2.1
 have o7:(abl cl:Int)=cp:=U.sh.cl;have nX:(abl cu:Int)=cp:=U.sh.cu
 have nD:abl ts≤1000000:=U.few.t
 have hoc:=ho.cpu;have hot:=ho.task;have hog:=ho.group;have how:=ho.weight;have nY:=ho.to;have nZ:=ho.ticks;have xZ:=ho.mask;have o8:=ho.kind;unfold aR at hoc hot hog how nY nZ
 have P8:=U.ok.cu;have ajW:=U.ok.cl
 have hcls:=U.sh.cls
 obtain ⟨B,rfl⟩:=zj (b.own (i:=1) rfl) om
 obtain ⟨q,rfl⟩:=zj (b.own (i:=2) rfl) om
 obtain ⟨C,rfl⟩:=zj (b.own (i:=3) rfl) om
 obtain ⟨D,rfl⟩:=zj (b.own (i:=5) rfl) om
 refine (lQ b Tryz.func151 158) ?_
 refine (JP∘JE) λw3 g3=>(Jp 2∘Jr∘Jp 1∘Jn∘Jf 0∘Jp 1∘dQ∘Jj∘JQ∘JB∘JP∘Jp 1∘Jg 1 O0∘JI (h:=by exact λb=>Dq 1 b rfl U o.cpu)) λNC L=>(Jp 2∘gu∘Jj) (oz (λJ=>?_) λJ=>?_)
 ·
  exact (JT∘JP∘Jp 2∘Jj∘JZ∘bG) λb=>by exact qt (y:=(⟨cp,cr,some ⟨B,0,none⟩,gc,gs,some ⟨q,0,none⟩,lc,cl,some ⟨C,0,none⟩,uc,cu,tA,tc,ts,some ⟨D,0,none⟩,sc,rs⟩:aC)) 1 b rfl H (if_pos (decide_eq_false J))
 replace J:0≤o.cpu∧o.cpu<cp:=J
 obtain ⟨c,X⟩:∃n:Nat,o.cpu=(n:Int):=⟨o.cpu.toNat,by omega⟩
 have qL:((c:Nat):Int)<cp:=by omega
 have Y:=hcls c (by show c<abl cl;omega);replace Y:0≤(cl.getD c 0)∧(cl.getD c 0)≤281474976710656:=by unfold gP at Y;simpa using Y
 obtain ⟨v,hv⟩:∃z,(cl.getD c 0)=z:=⟨_,rfl⟩
 rw [hv] at Y
 refine (JF∘JP∘Jg 6 O0∘Jp 2) (Ji (λhd28=>?_) λhd28=>?_)
 ·
  exact (Jp 5∘aG∘Jj∘JT∘JP∘Jp 2∘Jj∘JZ∘bG) λb=>by exact qt (y:=(⟨cp,cr,some ⟨B,0,none⟩,gc,gs,some ⟨q,0,none⟩,lc,cl,some ⟨C,0,none⟩,uc,cu,tA,tc,ts,some ⟨D,0,none⟩,sc,rs⟩:aC)) 1 b rfl H ((if_neg (nf (decide_eq_true J))).trans (if_pos om))
 refine (Jg 6 O0∘Jp 3∘aG∘Jj) (Ji (λhd24=>?_) λhd24=>?_)
 ·
  exact (JT∘JP∘Jp 2∘Jj∘JZ∘bG) λb=>by exact qt (y:=(⟨cp,cr,some ⟨B,0,none⟩,gc,gs,some ⟨q,0,none⟩,lc,cl,some ⟨C,0,none⟩,uc,cu,tA,tc,ts,some ⟨D,0,none⟩,sc,rs⟩:aC)) 1 b rfl H ((if_neg (nf (decide_eq_true J))).trans (if_pos om))
 have htk:1≤o.ticks∧o.ticks≤4294967295:=by omega
 obtain ⟨d,hod⟩:∃n:Nat,o.ticks=(n:Int):=⟨o.ticks.toNat,by omega⟩
 have hd0:d≤4294967295:=by omega
 refine (JF) λa Z b=>?_
 refine wp_seq ?_
 refine Jb Z b ((Vs .n []) λLp=>(Vp [0]∘Vf 4 1∘Vf 8 6∘Vn 1∘Vf 2 3∘Vc 3 O1∘Vc 5 O0∘Vo (vI c) (by rw [X])∘Vy 6 (h:=by exact Yl.iw q c 1 rfl rfl rfl)∘Vy 7 (v:=vI (cl.getD c 0)) (h:=by exact aae 3 c 0 om rfl rfl rfl)∘Vo (vI v) (by rw [hv])∘Vc 9 O0∘Vo (vI d) (by rw [hod])∘Vp [10]∘Vo (vI (v+d)) (by exact ou ⟨by omega,by omega⟩)∘Vp [11,12]∘Vd∘aG) (Ji (λP9=>?_) λP9=>?_))
 ·
  exact (JT∘JP∘Jp 2∘Jj∘JZ∘bG) λb=>by exact qt (y:=(⟨cp,cr,some ⟨B,0,none⟩,gc,gs,some ⟨q,0,none⟩,lc,cl,some ⟨C,0,none⟩,uc,cu,tA,tc,ts,some ⟨D,0,none⟩,sc,rs⟩:aC)) 1 b rfl H ((if_neg (nf (decide_eq_true J))).trans ((if_neg om).trans (if_pos (by show 281474976710656<cl.getD o.cpu.toNat 0+o.ticks;rw [X,abG,hv];omega))))
 obtain ⟨id,hid⟩:∃z,cu.getD c 0=z:=⟨_,rfl⟩
 have hxk:=q93 (x:=(⟨cp,cr,some ⟨B,0,none⟩,gc,gs,some ⟨q,0,none⟩,lc,cl,some ⟨C,0,none⟩,uc,cu,tA,tc,ts,some ⟨D,0,none⟩,sc,rs⟩:aC)) (c:=c) U (v+d) ⟨by omega,by omega⟩
 have Qa:aR id:=by rw [←hid];exact P8 _ (qe 0 (by show c<abl cu;omega))
 intro a Z b
 unfold aR at Qa
 refine Jb Z b ((JF∘aD) λa Z b=>?_)
 refine wp_seq ?_
 refine Jb Z b ((Vs .n [12]) λLi=>(Vp [0]∘Vf 4 1∘Vf 8 6∘Vn 1∘Vf 2 3∘Vc 3 O1∘Vc 5 O0∘Vo (vI c) (by rw [X])∘Vy 6 (h:=by exact Yl.iw q c 1 rfl rfl rfl)∘Vy 7 (v:=vI (cl.getD c 0)) (h:=by exact aae 3 c 0 om rfl rfl rfl)∘Vo (vI v) (by rw [hv])∘Vc 9 O0∘Vo (vI d) (by rw [hod])∘Vp [10]∘Vo (vI (v+d)) (by exact ou ⟨by omega,by omega⟩)∘Vy 11 (h:=by exact Yl.iw q c 1 rfl rfl rfl)) λa Z b I=>?_)
 refine s_on Z 12 rfl ?_
 refine zd Z b (i:=3) rfl rfl rfl rfl kr rfl rfl (by rw [abu];omega) λYW b=>?_
 replace b:=b.bR (i:=3) (ys:=(cl.set c (v+d)).map aP) rfl (Ka aP cl c (v+d) om)
 refine dJ kr ?_
 refine qd kr ?_
 refine wp_seq ?_
 refine Jb Z b ((Vs .n []) λOl=>(Vp [0]∘Vf 4 1∘Vn 1∘Vf 2 4∘Vc 3 O1∘Vc 5 O0∘Vo (vI c) (by rw [X])∘Vy 6 (h:=by exact Yl.iw C c 1 rfl rfl rfl)∘Vy 7 (v:=vI (cu.getD c 0)) (h:=by exact aae 4 c 0 om rfl rfl rfl)∘Vo (vI id) (by rw [hid])∘Vp [8]∘Vd∘aG∘JQ∘JP∘Jp 2∘aK∘Jj) (Je (λBH=>?_) λBH=>?_))
 ·
  exact (JT∘JP∘Jp 2∘Jj∘JZ∘bG) λb=>by exact qt (y:=(⟨cp,cr,some ⟨B,0,none⟩,gc,gs,some ⟨q,0,none⟩,lc,(cl.set c (v+d)),some ⟨C,0,none⟩,uc,cu,tA,tc,ts,some ⟨D,0,none⟩,sc,rs⟩:aC)) 1 b rfl ⟨H.g,by show abl (cl.set _ _)=N;rw [abO];exact hll,H.u,H.t,H.s⟩ ((q33 (x:=(⟨cp,cr,some ⟨B,0,none⟩,gc,gs,some ⟨q,0,none⟩,lc,cl,some ⟨C,0,none⟩,uc,cu,tA,tc,ts,some ⟨D,0,none⟩,sc,rs⟩:aC)) (decide_eq_true J) htk X hv om (hid.trans om)).trans (by rw [hod]))
 have Gb:id≠0:=by omega
 have Gc:=YV (x:=(⟨cp,cr,some ⟨B,0,none⟩,gc,gs,some ⟨q,0,none⟩,lc,cl,some ⟨C,0,none⟩,uc,cu,tA,tc,ts,some ⟨D,0,none⟩,sc,rs⟩:aC)) (hcur c (by show c<abl cu;omega)) (by show cu.getD c 0≠0;rw [hid];exact Gb)
 rw [show (⟨cp,cr,some ⟨B,0,none⟩,gc,gs,some ⟨q,0,none⟩,lc,cl,some ⟨C,0,none⟩,uc,cu,tA,tc,ts,some ⟨D,0,none⟩,sc,rs⟩:aC).cu.getD c 0=id from hid] at Gc
 obtain ⟨k,t,hk,ht,hkl,yg⟩:=Gc
 replace hk:fidx ts id=(k:Int):=hk;replace ht:ts[k]?=some t:=ht;replace hkl:k<abl ts:=hkl
 obtain ⟨Gd,hto⟩:=U.task ht
 have hti:=Gd.id;have uU:=Gd.group;have htc:=Gd.cpu;have F8:=Gd.weight;have yh:=hto.v;have htr:=hto.r;have F9:=hto.mask
 replace htc:0≤t.cpu∧t.cpu<cp:=htc
 obtain ⟨gt,hgt⟩:∃n:Nat,t.group=(n:Int):=⟨t.group.toNat,by omega⟩
 obtain ⟨ct,hct⟩:∃n:Nat,t.cpu=(n:Int):=⟨t.cpu.toNat,by omega⟩
 obtain ⟨wt,hwt⟩:∃n:Nat,t.weight=(n:Int):=⟨t.weight.toNat,by omega⟩
 have uV:(⟨t.v,t.r,wt⟩:En).Ok:=aaj Gd.ent hwt yh
 obtain ⟨e,Gf⟩:∃e,(⟨t.v,t.r,wt⟩:En).add d=e:=⟨_,rfl⟩
 have tY:e.Ok∧e.w=wt:=by rw [←Gf];exact aav uV d
 repeat (first|clear Z|clear b)
 intro a Z b
 obtain ⟨E,rfl⟩:=b.rat 5 k (hk:=(by omega:k<O))
 refine Jb Z b ((JF∘aD) λa Z b=>?_)
 refine wp_seq ?_
 refine Jb Z b ((Vs .n []) λQb=>(Vp [0,4,5]∘Vn 1∘Vf 2 5∘Vc 3 O1∘VI 6 .n (h:=by exact λb=>YU 1 b rfl hxk id k hk)) λYX L=>(Vy 7 (h:=by exact Yl.iw E k 8 rfl rfl rfl)∘Vp [8]∘Vd∘aG) λa Z b=>?_)
 refine q9 (λaS wS=>∃(P:Nat),Fr aS 158 [] [(9,vP P 0),(8,vP E (k*8)),(67,.bool false),(7,vI id),(33,.bool false),(24,.bool false),(18,.bool false),(6,vP M 0),(5,vI 0),(4,vI 0),(3,vP g3 0),(0,vP M 0)]∧Mem W wS (.blk P e.cells 333:: .blk g3 o.cells 214::fM M cp cr (some ⟨B,0,none⟩) R gc (some ⟨q,0,none⟩) N lc (some ⟨C,0,none⟩) S uc (some ⟨E,0,none⟩) O tc (some ⟨D,0,none⟩) Q sc::fG (some ⟨B,0,none⟩) R gc gs::fI (some ⟨q,0,none⟩) N lc (cl.set c (v+d))::fI (some ⟨C,0,none⟩) S uc cu::fT (some ⟨E,0,none⟩) O tc ts::fS (some ⟨D,0,none⟩) Q sc rs::(fR rs++(T)))) ?_ ?_
 ·
  refine Jb Z b ((Vs .n [20]) λFC=>(Vp [0,4,8]∘Vf 13 6∘Vn 1∘Vf 2 6∘Vy 3 (v:=vQ t.v) (h:=by exact Pd rfl rfl kr (λ_ h=>h.qq qk (i:=5) rfl (k:=k) (off:=6) (x:=t) (ht) rfl))∘Vn 5∘Vf 6 7∘Vy 7 (v:=vW t.r) (h:=by exact Pd rfl rfl kr (λ_ h=>h.qq qk (i:=5) rfl (k:=k) (off:=7) (x:=t) (ht) rfl))∘Vn 9∘Vf 10 2∘Vy 11 (v:=vI t.weight) (h:=by exact Pd rfl rfl kr (λ_ h=>h.qq qk (i:=5) rfl (k:=k) (off:=2) (x:=t) (ht) rfl))∘Vo (vI wt) (by rw [hwt])∘Vc 14 O0∘Vo (vI d) (by rw [hod])) λa Z b I=>?_)
  refine zc [12,19] kr rfl ?_
  refine all_cons ?_ ?_
  ·refine qu Z (i:=12) rfl rfl ?_
   refine iR Z b [vQ t.v,vW t.r,vI wt] (.agg #[vQ t.v,vW t.r,vW wt]) rfl rfl (q8 t.v t.r (wt:Int) om _) λQc L b a Z=>?_
   refine ay (b.pt 7 [0,1,2,3,4,5,6]) (λI=>?_)
   refine zc [15,19] kr rfl ?_
   refine all_cons ?_ ?_
   ·refine qu Z (i:=15) rfl rfl ?_
    refine iR Z b [.agg #[vQ t.v,vW t.r,vW wt],vI d] (.tuple #[.agg e.cells,vI 0]) rfl rfl (Dx (⟨t.v,t.r,wt⟩:En) e uV d hd0 Gf _) λP6 L b a Z=>?_
    refine ay (b.pt 7 [0,1,2,3,4,5,6]) (λI=>?_)
    refine Vb Z b I ((Vp [16]∘Vx 17∘Vx 18∘VA 19 .n #[vQ 0,vW 0,vW 0]) λw9 P=>λa Z b I=>?_)
    refine s_on Z 20 rfl (cK Z b 0 rfl rfl rfl rfl rfl qm rfl rfl (lS e) λuW b=>?_)
    refine dJ kr ?_
    refine ap Z (bM kr) [21] (bt 22 []) [] λa Z=>?_
    refine qd kr ?_
    replace Z:=Z.to [(9,vP P 0),(8,vP E (k*8)),(67,.bool false),(7,vI id),(33,.bool false),(24,.bool false),(18,.bool false),(6,vP M 0),(5,vI 0),(4,vI 0),(3,vP g3 0),(0,vP M 0)]
    exact ⟨P,Z.sub kr,b.pt 8 [0,1,2,3,4,5,6,7]⟩
   refine all_cons ?_ all_nil
   refine qu Z (i:=19) rfl rfl ?_
   refine gN Z b #[vQ 0,vW 0,vW 0] ?_
   clear Z b;intro a w9 P Z b
   refine ay (b.pt 8 [1,2,3,4,5,6,7]) (λI=>?_)
   refine Vb Z b I ((VI 15 (.f .n) (h:=by exact λb=>Dx (⟨t.v,t.r,wt⟩:En) e uV d hd0 Gf _)) λP6 L=>(Vp [16]∘Vx 17∘Vx 18) λa Z b I=>?_)
   refine s_on Z 20 rfl (cK Z b 0 rfl rfl rfl rfl rfl qm rfl rfl (lS e) λuW b=>?_)
   refine dJ kr ?_
   refine ap Z (bM kr) [21] (bt 22 []) [] λa Z=>?_
   refine qd kr ?_
   replace Z:=Z.to [(9,vP P 0),(8,vP E (k*8)),(67,.bool false),(7,vI id),(33,.bool false),(24,.bool false),(18,.bool false),(6,vP M 0),(5,vI 0),(4,vI 0),(3,vP g3 0),(0,vP M 0)]
   exact ⟨P,Z.sub kr,b.pt 8 [0,1,2,3,4,5,6,7]⟩
  refine all_cons ?_ all_nil
  refine qu Z (i:=19) rfl rfl ?_
  refine gN Z b #[vQ 0,vW 0,vW 0] ?_
  clear Z b;intro a w9 P Z b
  refine ay (b.pt 8 [1,2,3,4,5,6,7]) (λI=>?_)
  refine Vb Z b I ((VI 12 (.f .n) (h:=by exact λb=>q8 t.v t.r (wt:Int) om _)) λQc L=>(VI 15 (.f .n) (h:=by exact λb=>Dx (⟨t.v,t.r,wt⟩:En) e uV d hd0 Gf _)) λP6 L=>(Vp [16]∘Vx 17∘Vx 18) λa Z b I=>?_)
  refine s_on Z 20 rfl (cK Z b 0 rfl rfl rfl rfl rfl qm rfl rfl (lS e) λuW b=>?_)
  refine dJ kr ?_
  refine ap Z (bM kr) [21] (bt 22 []) [] λa Z=>?_
  refine qd kr ?_
  replace Z:=Z.to [(9,vP P 0),(8,vP E (k*8)),(67,.bool false),(7,vI id),(33,.bool false),(24,.bool false),(18,.bool false),(6,vP M 0),(5,vI 0),(4,vI 0),(3,vP g3 0),(0,vP M 0)]
  exact ⟨P,Z.sub kr,b.pt 8 [0,1,2,3,4,5,6,7]⟩
 clear Z b;rintro a wL ⟨P,Z,b⟩
 refine Jb Z b ((JP∘Jp 1∘d9 qm O0∘JO (h:=by exact λb=>K7 t e xA b ht hlt tY.1)) λw97=>(ow∘Jj∘JQ∘JP∘Jp 1∘Jn∘Jf 1∘Jy (v:=vI ((t.put e).group)) (h:=by exact Pd rfl rfl kr (λ_ h=>h.qq qk (i:=6) rfl (k:=k) (off:=1) (x:=(t.put e)) ((wQ ht)) rfl))∘Jo (vI gt) (by rw [←hgt];try rfl)∘Jp 1∘gu∘Jj∘JB) λa Z b=>?_)
 refine qg (λmS aS wS=>∃(g:Nat) (F:List Rw),(g<Q)∧(abl F=Q)∧(dX gs cp F)∧(Dt c d g (⟨cp,cr,some ⟨B,0,none⟩,gc,gs,some ⟨q,0,none⟩,lc,cl.set c (v+d),some ⟨C,0,none⟩,uc,cu,some ⟨E,0,none⟩,tc,ts.set k (t.put e),some ⟨D,0,none⟩,sc,F⟩:aC).av=Dt c d gt (⟨cp,cr,some ⟨B,0,none⟩,gc,gs,some ⟨q,0,none⟩,lc,cl.set c (v+d),some ⟨C,0,none⟩,uc,cu,some ⟨E,0,none⟩,tc,ts.set k (t.put e),some ⟨D,0,none⟩,sc,rs⟩:aC).av)∧mS=0+g∧Fr aS 158 [] [(11,vI g),(9,vP P 0),(8,vP E (k*8)),(67,.bool false),(7,vI id),(33,.bool false),(24,.bool false),(18,.bool false),(6,vP M 0),(5,vI 0),(4,vI 0),(3,vP g3 0),(0,vP M 0)]∧Mem W wS (.blk P e.cells 333:: .blk g3 o.cells 214::fM M cp cr (some ⟨B,0,none⟩) R gc (some ⟨q,0,none⟩) N lc (some ⟨C,0,none⟩) S uc (some ⟨E,0,none⟩) O tc (some ⟨D,0,none⟩) Q sc::fG (some ⟨B,0,none⟩) R gc gs::fI (some ⟨q,0,none⟩) N lc (cl.set c (v+d))::fI (some ⟨C,0,none⟩) S uc cu::fT (some ⟨E,0,none⟩) O tc (ts.set k (t.put e))::fS (some ⟨D,0,none⟩) Q sc F::(fR F++(T)))) (m:=0+gt) ⟨gt,rs,by omega,hls,hsp,rfl,rfl,Z.sub kr,b.pt 8 [0,1,2,3,4,5,6,7]⟩ ?_
 clear Z b;rintro mS a w_ ⟨g,F,hg,hl2,hsp2,nE,rfl,Z,b⟩
 refine Jb Z b ((JQ∘JP∘Jp 2∘aK∘Jj) (Ji (λGg=>?_) λGg=>?_))
 ·
  have hg0:0<g:=by omega
  obtain ⟨⟨yA,yc,yl⟩,hy⟩:∃y,F.getD g Rw.zero=y:=⟨_,rfl⟩
  have hys:=hsp2 g om;rw [hy] at hys
  have hyl:(abl yl:Int)=cp:=hys.1
  repeat (first|clear Z|clear b)
  intro a Z b
  obtain ⟨gy,rfl⟩:=b.jv 8 rfl om hy om
  obtain ⟨G,hyz⟩:∃z,yl[c]?=some z:=⟨_,abp om⟩
  have mK:=hys.2 G (abM hyz)
  have hyv:=mK.1.v;have pU:=mK.1.r;have rA:=mK.1.floor
  have hpb:=uE V (g:=g) om g hg0 (abq _)
  unfold dP at hpb
  obtain ⟨p,hpp⟩:∃p:Nat,(gs.getD g Gr.zero).parent=(p:Int):=⟨(gs.getD g Gr.zero).parent.toNat,by omega⟩
  have hpg:p<g:=by omega
  obtain ⟨zw,zN,Qd,Qe⟩:=Dn V (g:=g) om
  have zO:(⟨G.v,G.r,zw⟩:En).Ok:=aaj mK.2 zN mK.1.v
  obtain ⟨f,hfw⟩:∃e,(⟨G.v,G.r,zw⟩:En).add d=e:=⟨_,rfl⟩
  have hfo:f.Ok∧f.w=zw:=by rw [←hfw];exact aav zO d
  have hfv:=hfo.1.2;have hfr:f.r<4294967296:=by have:=zM hfo.1.1;omega
  refine Jb Z b ((JT∘aD∘JQ∘JB) λa Z b=>?_)
  refine wp_seq ?_
  refine Jb Z b ((Vs .n []) λQf=>(Vp [0,4]∘Vf 7 1∘Vn 1∘Vf 2 6∘Vc 3 O2∘Vy 5 (h:=by exact Yl.iw D g 1 rfl rfl rfl)∘Vy 6 (v:= .slice ((F.getD g Rw.zero).A) ((F.getD g Rw.zero).l.length) ((F.getD g Rw.zero).c)) (h:=by exact aae 7 g Rw.zero om rfl rfl rfl)∘Vo (vS gy (abl yl) yc) (by rw [hy])∘Vc 8 O1∘Vo (vI c) (by rw [X])∘Vy 9 (h:=by exact Yl.iw gy c 3 rfl rfl rfl)∘Vp [10]∘Vd∘aG) λa Z b=>?_)
  refine q9 (λaS wS=>∃(K:Nat),Fr aS 158 [] [(13,vP K 0),(12,vP gy (c*3)),(103,.bool true),(11,vI g),(9,vP P 0),(8,vP E (k*8)),(67,.bool false),(7,vI id),(33,.bool false),(24,.bool false),(18,.bool false),(6,vP M 0),(5,vI 0),(4,vI 0),(3,vP g3 0),(0,vP M 0)]∧Mem W wS (.blk K f.cells 333:: .blk P e.cells 333:: .blk g3 o.cells 214::fM M cp cr (some ⟨B,0,none⟩) R gc (some ⟨q,0,none⟩) N lc (some ⟨C,0,none⟩) S uc (some ⟨E,0,none⟩) O tc (some ⟨D,0,none⟩) Q sc::fG (some ⟨B,0,none⟩) R gc gs::fI (some ⟨q,0,none⟩) N lc (cl.set c (v+d))::fI (some ⟨C,0,none⟩) S uc cu::fT (some ⟨E,0,none⟩) O tc (ts.set k (t.put e))::fS (some ⟨D,0,none⟩) Q sc F::(fR F++(T)))) ?_ ?_
  ·
   refine Jb Z b ((Vs .n [25]) λajY=>(Vp [0,4,8,13]∘Vf 18 6∘Vn 1∘Vf 2 0∘Vy 3 (v:=vQ G.v) (h:=by exact Pd rfl rfl kr (λ_ h=>h.sU 8 (j:=0) rfl om hy (hyz) rfl))∘Vn 5∘Vf 6 1∘Vy 7 (v:=vW G.r) (h:=by exact Pd rfl rfl kr (λ_ h=>h.sU 8 (j:=1) rfl om hy (hyz) rfl))∘Vn 9∘Vf 10 0∘Vf 11 2∘Vc 12 O2∘Vy 14 (h:=by exact Yl.iw B g 2 rfl rfl rfl)∘Vf 15 1∘Vy 16 (v:=vI ((gs.getD g Gr.zero).weight)) (h:=by exact Pd rfl rfl kr (λ_ h=>h.qq pR (i:=3) rfl (k:=g) (off:=1) (x:=(gs.getD g Gr.zero)) ((getD_at Gr.zero om)) rfl))∘Vo (vI zw) (by rw [zN])∘Vc 19 O1∘Vo (vI d) (by rw [hod])) λa Z b I=>?_)
   refine zc [17,24] kr rfl ?_
   refine all_cons ?_ ?_
   ·refine qu Z (i:=17) rfl rfl ?_
    refine iR Z b [vQ G.v,vW G.r,vI zw] (.agg #[vQ G.v,vW G.r,vW zw]) rfl rfl (q8 G.v G.r (zw:Int) om _) λBI L b a Z=>?_
    refine ay (b.pt 8 [0,1,2,3,4,5,6,7]) (λI=>?_)
    refine zc [20,24] kr rfl ?_
    refine all_cons ?_ ?_
    ·refine qu Z (i:=20) rfl rfl ?_
     refine iR Z b [.agg #[vQ G.v,vW G.r,vW zw],vI d] (.tuple #[.agg f.cells,vI 0]) rfl rfl (Dx (⟨G.v,G.r,zw⟩:En) f zO d hd0 hfw _) λBJ L b a Z=>?_
     refine ay (b.pt 8 [0,1,2,3,4,5,6,7]) (λI=>?_)
     refine Vb Z b I ((Vp [21]∘Vx 22∘Vx 23∘VA 24 .n #[vQ 0,vW 0,vW 0]) λwL K=>λa Z b I=>?_)
     refine s_on Z 25 rfl (cK Z b 0 rfl rfl rfl rfl rfl qm rfl rfl (lS f) λuX b=>?_)
     refine dJ kr ?_
     refine ap Z (bM kr) [26] (bt 27 []) [] λa Z=>?_
     refine qd kr ?_
     exact ⟨K,Z.sub kr,b.pt 9 [0,1,2,3,4,5,6,7,8]⟩
    refine all_cons ?_ all_nil
    refine qu Z (i:=24) rfl rfl ?_
    refine gN Z b #[vQ 0,vW 0,vW 0] ?_
    clear Z b;intro a wL K Z b
    refine ay (b.pt 9 [1,2,3,4,5,6,7,8]) (λI=>?_)
    refine Vb Z b I ((VI 20 (.f .n) (h:=by exact λb=>Dx (⟨G.v,G.r,zw⟩:En) f zO d hd0 hfw _)) λBJ L=>(Vp [21]∘Vx 22∘Vx 23) λa Z b I=>?_)
    refine s_on Z 25 rfl (cK Z b 0 rfl rfl rfl rfl rfl qm rfl rfl (lS f) λuX b=>?_)
    refine dJ kr ?_
    refine ap Z (bM kr) [26] (bt 27 []) [] λa Z=>?_
    refine qd kr ?_
    exact ⟨K,Z.sub kr,b.pt 9 [0,1,2,3,4,5,6,7,8]⟩
   refine all_cons ?_ all_nil
   refine qu Z (i:=24) rfl rfl ?_
   refine gN Z b #[vQ 0,vW 0,vW 0] ?_
   clear Z b;intro a wL K Z b
   refine ay (b.pt 9 [1,2,3,4,5,6,7,8]) (λI=>?_)
   refine Vb Z b I ((VI 17 (.f .n) (h:=by exact λb=>q8 G.v G.r (zw:Int) om _)) λBI L=>(VI 20 (.f .n) (h:=by exact λb=>Dx (⟨G.v,G.r,zw⟩:En) f zO d hd0 hfw _)) λBJ L=>(Vp [21]∘Vx 22∘Vx 23) λa Z b I=>?_)
   refine s_on Z 25 rfl (cK Z b 0 rfl rfl rfl rfl rfl qm rfl rfl (lS f) λuX b=>?_)
   refine dJ kr ?_
   refine ap Z (bM kr) [26] (bt 27 []) [] λa Z=>?_
   refine qd kr ?_
   exact ⟨K,Z.sub kr,b.pt 9 [0,1,2,3,4,5,6,7,8]⟩
  clear Z b;rintro a Qg ⟨K,Z,b⟩
  refine Em b [.blk K f.cells 333,.blk P e.cells 333,.blk g3 o.cells 214,fM M cp cr (some ⟨B,0,none⟩) R gc (some ⟨q,0,none⟩) N lc (some ⟨C,0,none⟩) S uc (some ⟨E,0,none⟩) O tc (some ⟨D,0,none⟩) Q sc,fG (some ⟨B,0,none⟩) R gc gs,fI (some ⟨q,0,none⟩) N lc (cl.set c (v+d)),fI (some ⟨C,0,none⟩) S uc cu,fT (some ⟨E,0,none⟩) O tc (ts.set k (t.put e))] [0,1,2,3,4,5,6,7] [11] λb I=>?_
  refine ap Z (λ_=>I) [0,1,2,4] (bf 12 [0,1,2,4]) [(151,vP K 1),(149,vP K 0),(148,vP gy (c*3)),(147,vP gy (c*3))] λa Z=>?_
  refine dO Z I 3 0 (v:=vQ f.v) λa Z=>?_
  refine dO Z I 5 0 (v:=vW f.r) λa Z=>?_
  refine nR Z I 6 λa Z=>?_
  refine ap Z (λ_=>I) [7] (bt 12 [8,9,10,11]) [(154,vP gy (c*3))] λa Z=>?_
  refine s_on Z 8 rfl ?_
  refine qc1 Z b 8 (c:=c) 0 ({G with v:=f.v}) rfl rfl rfl rfl kr rfl rfl om (hy) (hyz) rfl de rfl λGh b=>?_
  replace b:Mem W Gh (.blk K f.cells 333:: .blk P e.cells 333:: .blk g3 o.cells 214::fM M cp cr (some ⟨B,0,none⟩) R gc (some ⟨q,0,none⟩) N lc (some ⟨C,0,none⟩) S uc (some ⟨E,0,none⟩) O tc (some ⟨D,0,none⟩) Q sc::fG (some ⟨B,0,none⟩) R gc gs::fI (some ⟨q,0,none⟩) N lc (cl.set c (v+d))::fI (some ⟨C,0,none⟩) S uc cu::fT (some ⟨E,0,none⟩) O tc (ts.set k (t.put e))::fS (some ⟨D,0,none⟩) Q sc (aN F g c ({G with v:=f.v}))::(fR (aN F g c ({G with v:=f.v}))++(T))):=b
  refine ay (b.pk [0,1,2,3,4,5,6,7]) (λI=>?_)
  refine AL Z (λ_=>I) 9 λa Z=>?_
  refine ap Z (λ_=>I) [10] (bt 12 [11]) [(156,vP gy (c*3+1))] λa Z=>?_
  refine s_on Z 11 rfl ?_
  refine qc1 Z b 8 (c:=c) 1 ({G with v:=f.v,r:=f.r}) rfl rfl rfl rfl kr rfl rfl (by first|omega|(rw [zh];omega)) (K4 om hy) (wQ hyz) rfl de rfl λBK b=>?_
  replace b:Mem W BK (.blk K f.cells 333:: .blk P e.cells 333:: .blk g3 o.cells 214::fM M cp cr (some ⟨B,0,none⟩) R gc (some ⟨q,0,none⟩) N lc (some ⟨C,0,none⟩) S uc (some ⟨E,0,none⟩) O tc (some ⟨D,0,none⟩) Q sc::fG (some ⟨B,0,none⟩) R gc gs::fI (some ⟨q,0,none⟩) N lc (cl.set c (v+d))::fI (some ⟨C,0,none⟩) S uc cu::fT (some ⟨E,0,none⟩) O tc (ts.set k (t.put e))::fS (some ⟨D,0,none⟩) Q sc (aN (aN F g c ({G with v:=f.v})) g c ({G with v:=f.v,r:=f.r}))::(fR (aN (aN F g c ({G with v:=f.v})) g c ({G with v:=f.v,r:=f.r}))++(T))):=b
  rw [Pn (by first|omega|(rw [zh];omega))] at b
  refine dJ kr ?_
  refine qd kr ?_
  refine Jb Z b ((JG∘JR∘Jp 1∘Jn∘Jf 0∘Jg 2 O3∘Jp 1∘l9 g 2∘Jf 0∘Jy (v:=vI ((gs.getD g Gr.zero).parent)) (h:=by exact Pd rfl rfl kr (λ_ h=>(by have:=h.qq pR (i:=4) rfl (k:=g) (off:=0) (x:=(gs.getD g Gr.zero)) ((getD_at Gr.zero om)) rfl;simpa using this)))∘Jo (vI p) (by rw [hpp])∘Jp 1∘aG∘Jq) λa Z b=>?_)
  exact ⟨_,om,p,(aN F g c {G with v:=f.v,r:=f.r}),by omega,by rw [zh];exact hl2,hsp2.put {G with v:=f.v,r:=f.r} ⟨hfv,hfr,mK.1.floor⟩ (by rw [zN];have:=hfo.1.1;rw [hfo.2] at this;exact this),by rw [←nE,qq4 (c:=c) (d:=d) (g:=g) (p:=p) (uE V om) hg0 hpp,qtx (x:=(⟨cp,cr,some ⟨B,0,none⟩,gc,gs,some ⟨q,0,none⟩,lc,(cl.set c (v+d)),some ⟨C,0,none⟩,uc,cu,some ⟨E,0,none⟩,tc,(ts.set k (t.put e)),some ⟨D,0,none⟩,sc,F⟩:aC)) (by show g<abl F;omega) hy hyz zN hfw],rfl,Z.sub kr,b.pt 9 [1,2,3,4,5,6,7,8]⟩
 exact (JF∘JX∘JG∘JP∘Jp 3∘Jj∘JZ∘bG) λb=>by exact qt (y:=(⟨cp,cr,some ⟨B,0,none⟩,gc,gs,some ⟨q,0,none⟩,lc,(cl.set c (v+d)),some ⟨C,0,none⟩,uc,cu,some ⟨E,0,none⟩,tc,(ts.set k (t.put e)),some ⟨D,0,none⟩,sc,F⟩:aC)) 2 b rfl ⟨H.g,by show abl (cl.set _ _)=N;rw [abO];exact hll,H.u,by show abl (ts.set _ _)=O;rw [abO];exact hlt,hl2⟩ ((q9i (x:=(⟨cp,cr,some ⟨B,0,none⟩,gc,gs,some ⟨q,0,none⟩,lc,cl,some ⟨C,0,none⟩,uc,cu,some ⟨E,0,none⟩,tc,ts,some ⟨D,0,none⟩,sc,rs⟩:aC)) (decide_eq_true J) htk X hod hv om hid Gb hk ht hgt hwt Gf).trans (by rw [←show Dt c d g (⟨cp,cr,some ⟨B,0,none⟩,gc,gs,some ⟨q,0,none⟩,lc,cl.set c (v+d),some ⟨C,0,none⟩,uc,cu,some ⟨E,0,none⟩,tc,ts.set k (t.put e),some ⟨D,0,none⟩,sc,F⟩:aC).av=_ from nE,show g=0 by omega];rfl))
def Qh (x e:En) (a:x.Ok) (fr to:Nat) (b:fr<18446744073709551616) (ht:to<18446744073709551616) (c:x.moved fr to=e) (w:World):Calls abm 269 #[.agg x.cells,vQ fr,vQ to] w (Is w (.tuple #[.agg e.cells,vI 0])):=c▸q30 x a fr to b ht w
def uY (w:World) (l:List Int) (v:Int) (r:Ending) (a:World):Prop:=(∃i:Int,r= .returned (vI i)∧decide (i≥0)=decide (v∈l))∧Below w.heap.size w a
def qzn {l:List Int} {v:Int} (hk:k<abl l) (h:l.getD k 0=v) (hb:Below w.heap.size w W):uY w l v (.returned (vI k)) W:=⟨⟨k,rfl,decide_eq_decide.2 ⟨λ_=>h▸qe 0 hk,λ_=>by omega⟩⟩,hb⟩
def qzo {l:List Int} {v:Int} (h:∀i,i<abl l→l.getD i 0≠v) (hb:Below w.heap.size w W):uY w l v (.returned (vI (-1))) W:=by
 refine ⟨⟨-1,rfl,decide_eq_decide.2 ⟨λh1=>by omega,λh1=>?_⟩⟩,hb⟩
 obtain ⟨i,hi,rfl⟩:=acB h1
 exact absurd (by rw [abo,abp hi];rfl) (h i hi)
theorem zfl {l:List Int} {v:Int} (h:∀i,i<k→l.getD i 0≠v) (hk:l.getD k 0≠v):∀i,i<k+1→l.getD i 0≠v:=λi hi=>by
 rcases ab7 i k with h1|h1
 ·exact h i h1
 ·obtain rfl:i=k:=by omega
  exact hk
theorem YZ {s:Nat} {v:Int} (hs:s=m) (hc:v=(c:Int)) (h:¬(m/2^c)%2=1):iY s v=false:=by
 subst hs;subst hc
 unfold iY
 rw [abG,decide_eq_false h]
theorem Qi {v:Int} (hc:v=(c:Int)) (h:(m/2^c)%2=1):iY m v=true:=by
 subst hc
 unfold iY
 rw [abG,decide_eq_true h]
def qoj (W w:World) (x:aC) (H:Nat) (B D E F C:Nat) (Y:dz x B D E F C) (o:bC) (ho:o.Ok) (T:List Fact) (b:Mem W w (jm H x B D E F C++T)):
    Calls abm 154 #[vP H 0,.agg o.cells] w (jX W H T (xO x.av o)):=by
 obtain ⟨cp,cr,gA,gc,gs,lA,lc,cl,uA,uc,cu,tA,tc,ts,sA,sc,rs⟩:=x
 replace b:Mem W w (fM H cp cr gA B gc lA D lc uA E uc tA F tc sA C sc::fG gA B gc gs::fI lA D lc cl::fI uA E uc cu::fT tA F tc ts::fS sA C sc rs::(fR rs++(T))):=b
 obtain ⟨l5,hll,ny,hlt,hls⟩:=Y.ln
 replace l5:abl gs=B:=l5;replace hll:abl cl=D:=hll;replace ny:abl cu=E:=ny;replace hlt:abl ts=F:=hlt;replace hls:abl rs=C:=hls
 have G:=Y.ln
 have hsp:dX gs cp rs:=Y.spots
 have hrg:abl rs=abl gs:=Y.sh.rs
 have hcr:cr<18446744073709551616:=Y.ok.aj
 obtain ⟨hcp1,hcp2,_,M⟩:=lX Y.sh.cfg
 replace hcp1:1≤cp:=hcp1;replace hcp2:cp≤64:=hcp2;replace M:bU gs=true:=M
 have nA:=(qp M).1;have nC:=(qp M).2.1
 have o7:(abl cl:Int)=cp:=Y.sh.cl;have nX:(abl cu:Int)=cp:=Y.sh.cu
 have nD:abl ts≤1000000:=Y.few.t
 have hoc:=ho.cpu;have hot:=ho.task;have hog:=ho.group;have how:=ho.weight;have nY:=ho.to;have nZ:=ho.ticks;have xZ:=ho.mask;have o8:=ho.kind;unfold aR at hoc hot hog how nY nZ
 obtain ⟨e,rfl⟩:=zj (b.own (i:=1) rfl) om
 obtain ⟨p,rfl⟩:=zj (b.own (i:=5) rfl) om
 refine (lQ b Tryz.func154 102) ?_
 refine (JP∘JE) λw3 U=>(Jp 2∘Jr∘Jp 1∘Jn∘Jf 0∘Jp 1∘dQ∘Jj∘JQ∘JB) λa Z b=>?_
 refine q9 (λaS wS=>Fr aS 102 [] [(14,.bool (!(decide (1≤o.group∧o.group<abl rs)))),(6,vP H 0),(5,vI 0),(4,vI 0),(3,vP U 0)]∧Mem W wS (.blk U o.cells 214::fM H cp cr (some ⟨e,0,none⟩) B gc lA D lc uA E uc tA F tc (some ⟨p,0,none⟩) C sc::fG (some ⟨e,0,none⟩) B gc gs::fI lA D lc cl::fI uA E uc cu::fT tA F tc ts::fS (some ⟨p,0,none⟩) C sc rs::(fR rs++(T)))) ?_ ?_
 ·
  refine Jb Z b ((Vs .n []) λwd2=>(Vf 0 3∘Vc 1 O0∘Vp [2,3]) λa Z b s=>?_)
  rcases Z.tf 18 rfl with ⟨N,Z⟩|⟨N,Z⟩
  ·
   have Qj:=of_decide_eq_true N
   refine Vb Z b s ((Vq [4,5,6,7,8,9,10,11,12,13] [(14,.bool true)]∘Vd∘l8) λa Z b=>?_)
   have Z:=Z.sp 14 (.bool (!(decide (1≤o.group∧o.group<abl rs)))) rfl (congrArg abX (by rw [decide_eq_false om];rfl))
   exact ⟨Z.sub kr,b.pt 7 [0,1,2,3,4,5,6]⟩
  have Qj:=of_decide_eq_false N
  refine ap Z (λ_=>s) [4,6] (bf 14 [0,1,2,3,4,6]) [(21,vP H 0),(19,vP U 3)] λa Z=>?_
  refine dO Z s 5 0 (v:=vI o.group) λa Z=>?_
  refine nR Z s 7 λa Z=>?_
  refine ap Z (λ_=>s) [8] (bt 14 [9,10,11,12,13]) [(23,vP H 6)] λa Z=>?_
  refine dO Z s 9 1 λa Z=>?_
  refine xw Z s 10 λa Z=>?_
  refine ap Z (λ_=>s) [11,12,13] (bt 14 []) [(14,.bool (decide ((o.group:Int)≥(C:Int))))] λa Z=>?_
  refine qd kr ?_
  have Z:=Z.sp 14 (.bool (!(decide (1≤o.group∧o.group<abl rs)))) rfl (congrArg abX (by rw [←decide_not];exact decide_eq_decide.2 om))
  exact ⟨Z.sub kr,b.pt 7 [0,1,2,3,4,5,6]⟩
 clear Z b;rintro a w2 ⟨Z,b⟩
 refine Jb Z b (oz (λxY=>?_) λxY=>?_)
 ·
  exact (JT∘JP∘Jp 2∘Jj∘JZ∘bG) λb=>by exact qt (y:=(⟨cp,cr,some ⟨e,0,none⟩,gc,gs,lA,lc,cl,uA,uc,cu,tA,tc,ts,some ⟨p,0,none⟩,sc,rs⟩:aC)) 1 b rfl G (if_pos (by show ¬(1≤o.group∧o.group<(abl (rs.map Rw.l):Nat));rw [abu];exact xY))
 refine (JF∘JP∘Jg 4 O0∘JL (h:=by exact λb=>KQ o.weight _)) ?_
 rintro b _ Kz ⟨rfl,L⟩
 refine ⟨_,rfl,_,b.call L,?_⟩
 refine (Jp 2∘dQ∘Jj) (oz (λO=>?_) λO=>?_)
 ·
  exact (JT∘JP∘Jp 2∘Jj∘JZ∘bG) λb=>by exact qt (y:=(⟨cp,cr,some ⟨e,0,none⟩,gc,gs,lA,lc,cl,uA,uc,cu,tA,tc,ts,some ⟨p,0,none⟩,sc,rs⟩:aC)) 1 b rfl G ((if_neg (by show ¬¬(1≤o.group∧o.group<(abl (rs.map Rw.l):Nat));rw [abu];omega)).trans (if_pos (decide_eq_false O)))
 have hgb:1≤o.group∧o.group<abl rs:=by omega
 obtain ⟨z,wU⟩:∃n:Nat,o.weight=(n:Int):=⟨o.weight.toNat,by omega⟩
 have hz:1≤z∧z≤65536:=by omega
 obtain ⟨g,P⟩:∃n:Nat,o.group=(n:Int):=⟨o.group.toNat,by omega⟩
 obtain ⟨⟨yA,yc,yl⟩,hy⟩:∃y,rs.getD g Rw.zero=y:=⟨_,rfl⟩
 have hys:=hsp g om;rw [hy] at hys
 have hyl:(abl yl:Int)=cp:=hys.1
 obtain ⟨gr,hgr⟩:∃z,gs[g]?=some z:=⟨_,abp om⟩
 obtain ⟨V,zN,Qd,Qe⟩:=Dn M (g:=g) om
 have Q:=sV Gr.zero hgr
 rw [Q] at zN
 repeat (first|clear Z|clear b)
 intro a Z b
 obtain ⟨X,rfl⟩:=b.jv 7 rfl om hy om
 refine Jb Z b ((JF∘aD∘JQ) λa Z b=>?_)
 refine wp_seq ?_
 refine Jb Z b ((Vs .n []) λLp=>(Vp [0]∘Vf 4 3∘Vp [9]∘Vn 1∘Vf 2 6∘Vc 3 O1∘Vc 5 O0∘Vo (vI g) (by rw [P])∘Vy 6 (h:=by exact Yl.iw p g 1 rfl rfl rfl)∘Vy 7 (v:= .slice ((rs.getD g Rw.zero).A) ((rs.getD g Rw.zero).l.length) ((rs.getD g Rw.zero).c)) (h:=by exact aae 6 g Rw.zero om rfl rfl rfl)∘Vo (vS X (abl yl) yc) (by rw [hy])∘Vl 8∘Vd∘aG∘JB) λa Z b=>?_)
 refine qg (λmS aS wS=>∃(c:Nat) (q:List Rw),(c≤abl yl)∧(abl q=C)∧(q=(rs.set g ⟨some ⟨X,0,none⟩,yc,upd r0 yl c⟩))∧mS=abl yl-c∧Fr aS 102 [] [(41,vI (abl yl)),(42,vI c),(28,.bool false),(14,.bool false),(6,vP H 0),(5,vI 0),(4,vI 0),(3,vP U 0)]∧Mem W wS (.blk U o.cells 214::fM H cp cr (some ⟨e,0,none⟩) B gc lA D lc uA E uc tA F tc (some ⟨p,0,none⟩) C sc::fG (some ⟨e,0,none⟩) B gc gs::fI lA D lc cl::fI uA E uc cu::fT tA F tc ts::fS (some ⟨p,0,none⟩) C sc q::(fR q++(T)))) (m:=abl yl-0) ⟨0,rs,abw _,hls,by rw [q9j,←hy];exact (X5 _ om).symm,rfl,Z.sub kr,b.pt 7 [0,1,2,3,4,5,6]⟩ ?_
 clear Z b;rintro mS a w_ ⟨c,q,hc,hl2,hr2,rfl,Z,b⟩
 refine Jb Z b ((JP∘Jp 1∘Jj∘JQ) (Ji (λQk=>?_) λQk=>?_))
 ·
  have aj3:c<abl yl:=by omega
  obtain ⟨d,hyz⟩:∃z,yl[c]?=some z:=⟨_,abp om⟩
  have I:=(zff r0 (abq c)).trans hyz
  have R:=hys.2 d (abM hyz)
  rw [Q] at R
  have hyv:=R.1.v;have pU:=R.1.r
  have zO:(⟨d.v,d.r,V⟩:En).Ok:=aaj R.2 zN R.1.v
  have S:q.getD g Rw.zero=⟨some ⟨X,0,none⟩,yc,upd r0 yl c⟩:=by rw [hr2];exact q6 _ _ om
  refine (JT∘aD∘JQ∘JB∘JP∘Jp 2∘aK∘Jj) λa Z b=>?_
  refine wp_seq ?_
  refine Jb Z b ((Vs .n []) λOl=>(Vp [0]∘Vf 4 3∘Vp [8]∘Vn 1∘Vf 2 6∘Vc 3 O1∘Vc 5 O0∘Vo (vI g) (by rw [P])∘Vy 6 (h:=by exact Yl.iw p g 1 rfl rfl rfl)∘Vy 7 (v:= .slice ((q.getD g Rw.zero).A) ((q.getD g Rw.zero).l.length) ((q.getD g Rw.zero).c)) (h:=by exact aae 6 g Rw.zero om rfl rfl rfl)∘Vo (vS X (abl yl) yc) (by rw [S];show ad6 _ (abl (upd r0 yl c)) _=_;rw [zfd])∘Vy 9 (h:=by exact Yl.iw X c 3 rfl rfl rfl)∘Vp [10]∘Vd∘aG) λa Z b=>?_)
  refine q9 (λaS wS=>∃(J:Nat),Fr aS 102 [] [(9,vP J 0),(8,vP X (c*3)),(7,vI c),(43,.bool true),(41,vI (abl yl)),(42,vI c),(28,.bool false),(14,.bool false),(6,vP H 0),(5,vI 0),(4,vI 0),(3,vP U 0)]∧Mem W wS (.blk J ((⟨d.v,0,z⟩:En).cells) 333:: .blk U o.cells 214::fM H cp cr (some ⟨e,0,none⟩) B gc lA D lc uA E uc tA F tc (some ⟨p,0,none⟩) C sc::fG (some ⟨e,0,none⟩) B gc gs::fI lA D lc cl::fI uA E uc cu::fT tA F tc ts::fS (some ⟨p,0,none⟩) C sc q::(fR q++(T)))) ?_ ?_
  ·
   refine Jb Z b ((Vs .n [26]) λqI=>(Vp [0,4,8]∘Vf 13 3∘Vf 19 4∘Vn 1∘Vf 2 0∘Vy 3 (v:=vQ d.v) (h:=by exact Pd rfl rfl kr (λ_ h=>h.sU 7 (j:=0) rfl om S (I) rfl))∘Vn 5∘Vf 6 1∘Vy 7 (v:=vW d.r) (h:=by exact Pd rfl rfl kr (λ_ h=>h.sU 7 (j:=1) rfl om S (I) rfl))∘Vn 9∘Vf 10 0∘Vf 11 2∘Vc 12 O1∘Vc 14 O0∘Vo (vI g) (by rw [P])∘Vy 15 (h:=by exact Yl.iw e g 2 rfl rfl rfl)∘Vf 16 1∘Vy 17 (v:=vI gr.weight) (h:=by exact Pd rfl rfl kr (λ_ h=>h.qq pR (i:=2) rfl (k:=g) (off:=1) (x:=gr) (hgr) rfl))∘Vo (vI V) (by rw [zN])∘Vc 20 O0∘Vo (vI z) (by rw [wU])) λa Z b s=>?_)
   refine zc [18,25] kr rfl ?_
   refine all_cons ?_ ?_
   ·refine qu Z (i:=18) rfl rfl ?_
    refine iR Z b [vQ d.v,vW d.r,vI V] (.agg #[vQ d.v,vW d.r,vW V]) rfl rfl (q8 d.v d.r (V:Int) om _) λYX L b a Z=>?_
    refine ay (b.pt 7 [0,1,2,3,4,5,6]) (λs=>?_)
    refine zc [21,25] kr rfl ?_
    refine all_cons ?_ ?_
    ·refine qu Z (i:=21) rfl rfl ?_
     refine iR Z b [.agg #[vQ d.v,vW d.r,vW V],vI z] (.tuple #[.agg ((⟨d.v,0,z⟩:En).cells),vI 0]) rfl rfl (Dp (⟨d.v,d.r,V⟩:En) zO z hz _) λQl L b a Z=>?_
     refine ay (b.pt 7 [0,1,2,3,4,5,6]) (λs=>?_)
     refine Vb Z b s ((Vp [22]∘Vx 23∘Vx 24∘VA 25 .n #[vQ 0,vW 0,vW 0]) λw9 J=>λa Z b s=>?_)
     refine s_on Z 26 rfl (cK Z b 0 rfl rfl rfl rfl rfl qm rfl rfl (lS (⟨d.v,0,z⟩:En)) λK b=>?_)
     refine dJ kr ?_
     refine ap Z (bM kr) [27] (bt 28 []) [] λa Z=>?_
     refine qd kr ?_
     exact ⟨J,Z.sub kr,b.pt 8 [0,1,2,3,4,5,6,7]⟩
    refine all_cons ?_ all_nil
    refine qu Z (i:=25) rfl rfl ?_
    refine gN Z b #[vQ 0,vW 0,vW 0] ?_
    clear Z b;intro a w9 J Z b
    refine ay (b.pt 8 [1,2,3,4,5,6,7]) (λs=>?_)
    refine Vb Z b s ((VI 21 (.f .n) (h:=by exact λb=>Dp (⟨d.v,d.r,V⟩:En) zO z hz _)) λQl L=>(Vp [22]∘Vx 23∘Vx 24) λa Z b s=>?_)
    refine s_on Z 26 rfl (cK Z b 0 rfl rfl rfl rfl rfl qm rfl rfl (lS (⟨d.v,0,z⟩:En)) λK b=>?_)
    refine dJ kr ?_
    refine ap Z (bM kr) [27] (bt 28 []) [] λa Z=>?_
    refine qd kr ?_
    exact ⟨J,Z.sub kr,b.pt 8 [0,1,2,3,4,5,6,7]⟩
   refine all_cons ?_ all_nil
   refine qu Z (i:=25) rfl rfl ?_
   refine gN Z b #[vQ 0,vW 0,vW 0] ?_
   clear Z b;intro a w9 J Z b
   refine ay (b.pt 8 [1,2,3,4,5,6,7]) (λs=>?_)
   refine Vb Z b s ((VI 18 (.f .n) (h:=by exact λb=>q8 d.v d.r (V:Int) om _)) λYX L=>(VI 21 (.f .n) (h:=by exact λb=>Dp (⟨d.v,d.r,V⟩:En) zO z hz _)) λQl L=>(Vp [22]∘Vx 23∘Vx 24) λa Z b s=>?_)
   refine s_on Z 26 rfl (cK Z b 0 rfl rfl rfl rfl rfl qm rfl rfl (lS (⟨d.v,0,z⟩:En)) λK b=>?_)
   refine dJ kr ?_
   refine ap Z (bM kr) [27] (bt 28 []) [] λa Z=>?_
   refine qd kr ?_
   exact ⟨J,Z.sub kr,b.pt 8 [0,1,2,3,4,5,6,7]⟩
  clear Z b;rintro a tZ ⟨J,Z,b⟩
  refine Em b [.blk J ((⟨d.v,0,z⟩:En).cells) 333,.blk U o.cells 214,fM H cp cr (some ⟨e,0,none⟩) B gc lA D lc uA E uc tA F tc (some ⟨p,0,none⟩) C sc,fG (some ⟨e,0,none⟩) B gc gs,fI lA D lc cl,fI uA E uc cu,fT tA F tc ts] [0,1,2,3,4,5,6] [11] λb s=>?_
  refine ap Z (λ_=>s) [0,1,2,4] (bf 12 [0,1,2,4]) [(84,vP J 1),(82,vP J 0),(81,vP X (c*3)),(80,vP X (c*3))] λa Z=>?_
  refine dO Z s 3 0 (v:=vQ ((⟨d.v,0,z⟩:En).v)) λa Z=>?_
  refine dO Z s 5 0 (v:=vW ((⟨d.v,0,z⟩:En).r)) λa Z=>?_
  refine nR Z s 6 λa Z=>?_
  refine ap Z (λ_=>s) [7] (bt 12 [8,9,10,11]) [(87,vP X (c*3))] λa Z=>?_
  refine s_on Z 8 rfl ?_
  refine qc1 Z b 7 (c:=c) 0 ({d with v:=d.v}) rfl rfl rfl rfl kr rfl rfl om (S) (I) rfl de rfl λGi b=>?_
  replace b:Mem W Gi (.blk J ((⟨d.v,0,z⟩:En).cells) 333:: .blk U o.cells 214::fM H cp cr (some ⟨e,0,none⟩) B gc lA D lc uA E uc tA F tc (some ⟨p,0,none⟩) C sc::fG (some ⟨e,0,none⟩) B gc gs::fI lA D lc cl::fI uA E uc cu::fT tA F tc ts::fS (some ⟨p,0,none⟩) C sc (aN q g c ({d with v:=d.v}))::(fR (aN q g c ({d with v:=d.v}))++(T))):=b
  refine ay (b.pk [0,1,2,3,4,5,6]) (λs=>?_)
  refine AL Z (λ_=>s) 9 λa Z=>?_
  refine ap Z (λ_=>s) [10] (bt 12 [11]) [(89,vP X (c*3+1))] λa Z=>?_
  refine s_on Z 11 rfl ?_
  refine qc1 Z b 7 (c:=c) 1 (r0 d) rfl rfl rfl rfl kr rfl rfl (by first|omega|(rw [zh];omega)) (K4 om S) (wQ I) rfl de rfl λBL b=>?_
  replace b:Mem W BL (.blk J ((⟨d.v,0,z⟩:En).cells) 333:: .blk U o.cells 214::fM H cp cr (some ⟨e,0,none⟩) B gc lA D lc uA E uc tA F tc (some ⟨p,0,none⟩) C sc::fG (some ⟨e,0,none⟩) B gc gs::fI lA D lc cl::fI uA E uc cu::fT tA F tc ts::fS (some ⟨p,0,none⟩) C sc (aN (aN q g c ({d with v:=d.v})) g c (r0 d))::(fR (aN (aN q g c ({d with v:=d.v})) g c (r0 d))++(T))):=b
  rw [Pn (by first|omega|(rw [zh];omega))] at b
  refine dJ kr ?_
  refine qd kr ?_
  refine Jb Z b ((JG∘JR∘bT 1∘Jp 1∘aG∘Jq) λa Z b=>?_)
  exact ⟨_,om,c+1,(aN q g c (r0 d)),by omega,by rw [zh];exact hl2,q35 om hyz hr2,rfl,Z.sub kr,b.pt 8 [1,2,3,4,5,6,7]⟩
 refine (JF∘JX) λa Z b=>?_
 refine wp_seq ?_
 refine Jb Z b ((Vs .n [11]) λFC=>(Vp [0]∘Vf 5 3∘Vf 7 4∘Vn 1∘Vf 2 0∘Vf 3 2∘Vc 4 O1∘Vc 6 O0∘Vo (vI g) (by rw [P])∘Vc 8 O0∘Vo (vI z) (by rw [wU])∘Vu 9 (h:=by exact λ_=>Yl.iw e g 2 rfl rfl rfl)∘Vf 10 1) λa Z b s=>?_)
 refine s_on Z 11 rfl ?_
 refine zd Z b (i:=2) rfl rfl rfl rfl kr rfl rfl (by rw [pO eO 2 pR];omega) λQm b=>?_
 replace b:=b.bR (i:=2) (ys:=(gs.set g {gr with weight:=(z:Int)}).flatMap eO) rfl (tL eO 2 pR gs g gr {gr with weight:=(z:Int)} hgr 1 de _ rfl)
 refine dJ kr ?_
 refine qd kr ?_
 exact Jb Z b ((JP∘Jp 2∘Jj∘JZ∘bG) λb=>by exact qt (y:=(⟨cp,cr,some ⟨e,0,none⟩,gc,(gs.set g {gr with weight:=(z:Int)}),lA,lc,cl,uA,uc,cu,tA,tc,ts,some ⟨p,0,none⟩,sc,q⟩:aC)) 1 b rfl ⟨by show abl (gs.set _ _)=B;rw [abO];exact l5,G.l,G.u,G.t,hl2⟩ ((qty (x:=(⟨cp,cr,some ⟨e,0,none⟩,gc,gs,lA,lc,cl,uA,uc,cu,tA,tc,ts,some ⟨p,0,none⟩,sc,rs⟩:aC)) P hgb (decide_eq_true O) hy Q).trans (by rw [wU];exact congrArg (λr=>(aC.av (⟨cp,cr,some ⟨e,0,none⟩,gc,(gs.set g {gr with weight:=(z:Int)}),lA,lc,cl,uA,uc,cu,tA,tc,ts,some ⟨p,0,none⟩,sc,r⟩:aC),(0:Int),0)) (show _=q by rw [hr2,zfe r0 yl om]))))
def qzp (W w:World) (x:aC) (U k to:Nat) (t:Tk) (I J K L q:Nat) (m:dz x I J K L q) (ht:x.ts[k]?=some t) (R:(to:Int)<x.ak) (T:List Fact) (b:Mem W w (jm U x I J K L q++T)):
    Calls abm 214 #[vP U 0,vI k,vI to] w (F3 W U T (iZ x.av k (to:Int))):=by
 obtain ⟨cp,cr,gA,gc,gs,lA,lc,cl,uA,uc,cu,tA,tc,ts,sA,sc,rs⟩:=x
 replace b:Mem W w (fM U cp cr gA I gc lA J lc uA K uc tA L tc sA q sc::fG gA I gc gs::fI lA J lc cl::fI uA K uc cu::fT tA L tc ts::fS sA q sc rs::(fR rs++(T))):=b
 obtain ⟨l5,hll,ny,o,hls⟩:=m.ln
 replace l5:abl gs=I:=l5;replace hll:abl cl=J:=hll;replace ny:abl cu=K:=ny;replace o:abl ts=L:=o;replace hls:abl rs=q:=hls
 have s:=m.ln
 have hsp:dX gs cp rs:=m.spots
 have hrg:abl rs=abl gs:=m.sh.rs
 have hcr:cr<18446744073709551616:=m.ok.aj
 obtain ⟨S,u,_,B⟩:=lX m.sh.cfg
 replace S:1≤cp:=S;replace u:cp≤64:=u;replace B:bU gs=true:=B
 have nA:=(qp B).1;have nC:=(qp B).2.1
 have o7:(abl cl:Int)=cp:=m.sh.cl;have nX:(abl cu:Int)=cp:=m.sh.cu
 have nD:abl ts≤1000000:=m.few.t
 replace ht:ts[k]?=some t:=ht;replace R:(to:Int)<cp:=R
 have hkl:=(abv.1 ht).1
 obtain ⟨C,V⟩:=m.task ht
 have hti:=C.id;have uU:=C.group;have htc:=C.cpu;have F8:=C.weight;have yh:=V.v;have htr:=V.r;have F9:=V.mask
 replace htc:0≤t.cpu∧t.cpu<cp:=htc
 obtain ⟨gt,X⟩:∃n:Nat,t.group=(n:Int):=⟨t.group.toNat,by omega⟩
 obtain ⟨ct,hct⟩:∃n:Nat,t.cpu=(n:Int):=⟨t.cpu.toNat,by omega⟩
 obtain ⟨p,Y⟩:∃n:Nat,t.weight=(n:Int):=⟨t.weight.toNat,by omega⟩
 have M:(⟨t.v,t.r,p⟩:En).Ok:=aaj C.ent Y yh
 obtain ⟨d,rfl⟩:=zj (b.own (i:=5) rfl) om
 obtain ⟨g,rfl⟩:=zj (b.own (i:=4) rfl) om
 obtain ⟨em,N⟩:∃l,kH (⟨cp,cr,gA,gc,gs,lA,lc,cl,uA,uc,cu,some ⟨g,0,none⟩,tc,ts,some ⟨d,0,none⟩,sc,rs⟩:aC).av gt to=l:=⟨_,rfl⟩
 have sD:=λh hh=>PZ (x:=(⟨cp,cr,gA,gc,gs,lA,lc,cl,uA,uc,cu,some ⟨g,0,none⟩,tc,ts,some ⟨d,0,none⟩,sc,rs⟩:aC)) m (by omega:gt<q) N h hh
 have sF:=P5 (x:=(⟨cp,cr,gA,gc,gs,lA,lc,cl,uA,uc,cu,some ⟨g,0,none⟩,tc,ts,some ⟨d,0,none⟩,sc,rs⟩:aC)) m (by omega:gt<q) N
 obtain ⟨⟨yA,yc,yl⟩,hy⟩:∃y,rs.getD gt Rw.zero=y:=⟨_,rfl⟩
 have O:=hsp gt om;rw [hy] at O
 have hyl:(abl yl:Int)=cp:=O.1
 obtain ⟨gy,rfl⟩:=b.jv 6 rfl om hy om
 obtain ⟨yz,hyz⟩:∃z,yl[ct]?=some z:=⟨_,abp om⟩
 have mK:=O.2 yz (abM hyz)
 have hyv:=mK.1.v;have pU:=mK.1.r;have rA:=mK.1.floor
 obtain ⟨z2,hz2⟩:∃z,yl[to]?=some z:=⟨_,abp om⟩
 have P:=(O.2 z2 (abM hz2)).1.floor
 obtain ⟨e,D⟩:∃e,(⟨t.v,t.r,p⟩:En).moved yz.floor z2.floor=e:=⟨_,rfl⟩
 have tY:e.Ok∧e.w=p:=by rw [←D];exact aaK M _ _ P
 have hev:=tY.1.2;have her:=zM tY.1.1
 have hmo:=q9k (x:=(⟨cp,cr,gA,gc,gs,lA,lc,cl,uA,uc,cu,some ⟨g,0,none⟩,tc,ts,some ⟨d,0,none⟩,sc,rs⟩:aC)) (to:=to) ht X hct Y (wP (x:=(⟨cp,cr,gA,gc,gs,lA,lc,cl,uA,uc,cu,some ⟨g,0,none⟩,tc,ts,some ⟨d,0,none⟩,sc,rs⟩:aC)) (by show gt<abl rs;omega) hy hyz) (wP (x:=(⟨cp,cr,gA,gc,gs,lA,lc,cl,uA,uc,cu,some ⟨g,0,none⟩,tc,ts,some ⟨d,0,none⟩,sc,rs⟩:aC)) (by show gt<abl rs;omega) hy hz2) D N
 refine (xS b Tryz.func214 81) ?_
 refine (JP∘Jp 1∘Jn∘Jf 0∘Jg 5 O0∘Jp 1∘l9 k 8∘Jp 1∘aG∘Jr∘Jp 2∘Jn∘Jf 1∘Jy (v:=vI t.group) (h:=by exact Pd rfl rfl kr (λ_ h=>h.qq qk (i:=4) rfl (k:=k) (off:=1) (x:=t) (ht) rfl))∘Jo (vI gt) (by rw [X])∘Jp 1∘JK (h:=by exact λb=>PY 0 b rfl m (by show ((to:Nat):Int)<cp;omega) om N)) λQn c24 w24 hc24=>(Jp 1∘aG∘Jj) λa Z b=>?_
 refine wp_seq ?_
 refine Jb Z b ((Vs .n []) λwd2=>(Vp [0,5]∘Vn 1∘Vf 2 0∘Vf 3 6∘Vc 4 O1∘Vn 6∘Vf 7 1∘Vy 8 (v:=vI t.group) (h:=by exact Pd rfl rfl kr (λ_ h=>h.qq qk (i:=5) rfl (k:=k) (off:=1) (x:=t) (ht) rfl))∘Vo (vI gt) (by rw [X])∘Vy 9 (h:=by exact Yl.iw d gt 1 rfl rfl rfl)∘Vy 10 (v:= .slice ((rs.getD gt Rw.zero).A) ((rs.getD gt Rw.zero).l.length) ((rs.getD gt Rw.zero).c)) (h:=by exact aae 6 gt Rw.zero om rfl rfl rfl)∘Vo (vS gy (abl yl) yc) (by rw [hy])∘Vp [11]∘Vd∘aG) λa Z b=>?_)
 refine q9 (λaS wS=>∃(G:Nat),Fr aS 81 [] [(9,vP G 0),(7,abh Qn em c24),(6,vP g (k*8)),(0,vP U 0),(2,vI to)]∧Mem W wS (.blk G e.cells 333:: abj Qn em c24 dD 3 1::fM U cp cr gA I gc lA J lc uA K uc (some ⟨g,0,none⟩) L tc (some ⟨d,0,none⟩) q sc::fG gA I gc gs::fI lA J lc cl::fI uA K uc cu::fT (some ⟨g,0,none⟩) L tc ts::fS (some ⟨d,0,none⟩) q sc rs::(fR rs++(T)))) ?_ ?_
 ·
  refine Jb Z b ((Vs .n [31]) λwd3=>(Vp [0,4,8,13,14,21,22]∘Vn 1∘Vf 2 6∘Vy 3 (v:=vQ t.v) (h:=by exact Pd rfl rfl kr (λ_ h=>h.qq qk (i:=5) rfl (k:=k) (off:=6) (x:=t) (ht) rfl))∘Vn 5∘Vf 6 7∘Vy 7 (v:=vW t.r) (h:=by exact Pd rfl rfl kr (λ_ h=>h.qq qk (i:=5) rfl (k:=k) (off:=7) (x:=t) (ht) rfl))∘Vn 9∘Vf 10 2∘Vy 11 (v:=vI t.weight) (h:=by exact Pd rfl rfl kr (λ_ h=>h.qq qk (i:=5) rfl (k:=k) (off:=2) (x:=t) (ht) rfl))∘Vo (vI p) (by rw [Y])∘Vn 15∘Vf 16 3∘Vy 17 (v:=vI t.cpu) (h:=by exact Pd rfl rfl kr (λ_ h=>h.qq qk (i:=5) rfl (k:=k) (off:=3) (x:=t) (ht) rfl))∘Vo (vI ct) (by rw [hct])∘Vy 18 (h:=by exact Yl.iw gy ct 3 rfl rfl rfl)∘Vf 19 2∘Vy 20 (v:=vQ yz.floor) (h:=by exact Pd rfl rfl kr (λ_ h=>h.sU 7 (j:=2) rfl om hy (hyz) rfl))∘Vy 23 (h:=by exact Yl.iw gy to 3 rfl rfl rfl)∘Vf 24 2∘Vy 25 (v:=vQ z2.floor) (h:=by exact Pd rfl rfl kr (λ_ h=>h.sU 7 (j:=2) rfl om hy (hz2) rfl))) λa Z b H=>?_)
  refine zc [12,30] kr rfl ?_
  refine all_cons ?_ ?_
  ·refine qu Z (i:=12) rfl rfl ?_
   refine iR Z b [vQ t.v,vW t.r,vI p] (.agg #[vQ t.v,vW t.r,vW p]) rfl rfl (q8 t.v t.r (p:Int) om _) λBv Q b a Z=>?_
   refine ay (b.pt 7 [0,1,2,3,4,5,6]) (λH=>?_)
   refine zc [26,30] kr rfl ?_
   refine all_cons ?_ ?_
   ·refine qu Z (i:=26) rfl rfl ?_
    refine iR Z b [.agg #[vQ t.v,vW t.r,vW p],vQ yz.floor,vQ z2.floor] (.tuple #[.agg e.cells,vI 0]) rfl rfl (Qh (⟨t.v,t.r,p⟩:En) e M yz.floor z2.floor rA P D _) λQo Q b a Z=>?_
    refine ay (b.pt 7 [0,1,2,3,4,5,6]) (λH=>?_)
    refine Vb Z b H ((Vp [27]∘Vx 28∘Vx 29∘VA 30 .n #[vQ 0,vW 0,vW 0]) λw9 G=>λa Z b H=>?_)
    refine s_on Z 31 rfl (cK Z b 0 rfl rfl rfl rfl rfl qm rfl rfl (lS e) λE b=>?_)
    refine dJ kr ?_
    refine ap Z (bM kr) [32] (bt 33 []) [] λa Z=>?_
    refine qd kr ?_
    exact ⟨G,Z.sub kr,b.pt 8 [0,1,2,3,4,5,6,7]⟩
   refine all_cons ?_ all_nil
   refine qu Z (i:=30) rfl rfl ?_
   refine gN Z b #[vQ 0,vW 0,vW 0] ?_
   clear Z b;intro a w9 G Z b
   refine ay (b.pt 8 [1,2,3,4,5,6,7]) (λH=>?_)
   refine Vb Z b H ((VI 26 (.f .n) (h:=by exact λb=>Qh (⟨t.v,t.r,p⟩:En) e M yz.floor z2.floor rA P D _)) λQo Q=>(Vp [27]∘Vx 28∘Vx 29) λa Z b H=>?_)
   refine s_on Z 31 rfl (cK Z b 0 rfl rfl rfl rfl rfl qm rfl rfl (lS e) λE b=>?_)
   refine dJ kr ?_
   refine ap Z (bM kr) [32] (bt 33 []) [] λa Z=>?_
   refine qd kr ?_
   exact ⟨G,Z.sub kr,b.pt 8 [0,1,2,3,4,5,6,7]⟩
  refine all_cons ?_ all_nil
  refine qu Z (i:=30) rfl rfl ?_
  refine gN Z b #[vQ 0,vW 0,vW 0] ?_
  clear Z b;intro a w9 G Z b
  refine ay (b.pt 8 [1,2,3,4,5,6,7]) (λH=>?_)
  refine Vb Z b H ((VI 12 (.f .n) (h:=by exact λb=>q8 t.v t.r (p:Int) om _)) λBv Q=>(VI 26 (.f .n) (h:=by exact λb=>Qh (⟨t.v,t.r,p⟩:En) e M yz.floor z2.floor rA P D _)) λQo Q=>(Vp [27]∘Vx 28∘Vx 29) λa Z b H=>?_)
  refine s_on Z 31 rfl (cK Z b 0 rfl rfl rfl rfl rfl qm rfl rfl (lS e) λE b=>?_)
  refine dJ kr ?_
  refine ap Z (bM kr) [32] (bt 33 []) [] λa Z=>?_
  refine qd kr ?_
  exact ⟨G,Z.sub kr,b.pt 8 [0,1,2,3,4,5,6,7]⟩
 clear Z b;rintro a w3 ⟨G,Z,b⟩
 refine Jb Z b ((JP∘Jp 1∘d9 qm O0∘JO (h:=by exact λb=>K7 t e xA b ht o tY.1)) λLh=>(ow∘Jr∘Jp 2∘Jn∘Jf 3) λa Z b=>?_)
 refine fo Z 4 rfl rfl ?_
 refine zd Z b (i:=6) rfl rfl rfl rfl kr rfl rfl (by rw [pO bI 8 qk,abO];omega) λaj6 b=>?_
 replace b:=b.bR (i:=6) (ys:=(ts.set k {t.put e with cpu:=(to:Int)}).flatMap bI) rfl ((tL bI 8 qk (ts.set k (t.put e)) k (t.put e) {t.put e with cpu:=(to:Int)} (wQ ht) 3 de _ rfl).trans (by rw [adX]))
 refine Jb Z b ((wI∘Jr∘Jp 1∘Jn∘Jf 5∘Jy (v:= .bool (({t.put e with cpu:=(to:Int)}:Tk).ready)) (h:=by exact Pd rfl rfl kr (λ_ h=>h.qq qk (i:=6) rfl (k:=k) (off:=5) (x:=({t.put e with cpu:=(to:Int)}:Tk)) ((wQ ht)) rfl))∘Jo (.bool t.ready) (by exact rfl)∘dQ∘Jj) (Ju (λF=>?_) λF=>?_))
 ·
  refine (JT∘JR∘Jp 3∘JL (h:=by exact λb=>Ll 2 b rfl (j:=1) rfl de (Dr (ts':=ts.set k {t.put e with cpu:=(to:Int)}) s (by rw [abO];exact o)) (sD) (sF) B hrg hsp hcr u (by show ((to:Nat):Int)<cp;omega))) ?_
  rintro b _ Y0 ⟨jE,rfl,hl2,hsp2,nE,BG⟩
  refine ⟨_,rfl,_,(show Mem W Y0 (.blk G e.cells 333:: abj Qn em c24 dD 3 1::fM U cp cr gA I gc lA J lc uA K uc (some ⟨g,0,none⟩) L tc (some ⟨d,0,none⟩) q sc::fG gA I gc gs::fI lA J lc cl::fI uA K uc cu::fT (some ⟨g,0,none⟩) L tc (ts.set k {t.put e with cpu:=(to:Int)})::fS (some ⟨d,0,none⟩) q sc jE::(fR jE++(T))) from BG),?_⟩
  refine (wI∘Jq) λa Z b=>?_
  exact gM rfl Z (Yo (y:=(⟨cp,cr,gA,gc,gs,lA,lc,cl,uA,uc,cu,some ⟨g,0,none⟩,tc,(ts.set k {t.put e with cpu:=(to:Int)}),some ⟨d,0,none⟩,sc,jE⟩:aC)) 2 b rfl (K9 (Dr s (by rw [abO];exact o)) hl2) (by rw [hmo,if_pos F];exact nE))
 refine (JF∘JS) λa Z b=>?_
 exact gM rfl Z (Yo (y:=(⟨cp,cr,gA,gc,gs,lA,lc,cl,uA,uc,cu,some ⟨g,0,none⟩,tc,(ts.set k {t.put e with cpu:=(to:Int)}),some ⟨d,0,none⟩,sc,rs⟩:aC)) 2 b rfl (Dr s (by rw [abO];exact o)) (by rw [hmo,if_neg (xV F)]))
theorem Y1 {to:Nat} (n:Nat) (h:Mem W w F) (i:F.drop n=jm a x c m g b d++T) (j:dz x c m g b d) (ht:x.ts[k]?=some t) (e:(to:Int)<x.ak):
  Calls abm 214 #[vP a 0,vI k,vI to] w (λr f=>∃y:aC,r= .returned (.tuple #[])∧y.av=iZ x.av k (to:Int)∧Mem W f (F.take n++(mo a y++T))):=
 (qzp W w x a k to t c m g b d j ht e (F.take n++T) (h.front n i)).mono λr f ⟨y,h1,h2,h3⟩=>⟨y,h1,h2,h3.back⟩
def qzq (A:Option Addr) (c:Nat) (l:List Int) (v:Int) (w:World) (hr:Rd w w.heap.size 1 A (abl l) (l.map aP)) (p:abl l≤1000000):
    Calls abm 268 #[abh A l c,vI v] w (uY w l v):=by
 refine (iX Tryz.func268 19) ?_
 refine (JP∘Jp 1∘Jj∘JQ∘JP∘Jp 1∘Jl∘Jp 1∘Jj∘JB) λa Z d=>?_
 refine qg (λg n o=>∃(k:Nat),(k≤abl l)∧(∀i,i<k→l.getD i 0≠v)∧g=abl l-k∧Fr n 19 [] [(8,vI k),(7,vI (abl l)),(4,vI 0),(0,abh A l c),(1,vI v)]∧Mem w o []) (m:=abl l-0) ⟨0,abw _,λi h=>by omega,rfl,Z.sub kr,d.pk []⟩ ?_
 clear Z d;rintro g a q ⟨k,r,j,rfl,Z,d⟩
 refine Jb Z d ((JP∘Jp 1∘Jj∘JQ) (Ji (λe=>?_) λe=>?_))
 ·
  have f:k<abl l:=by omega
  refine (JT∘aD∘JQ∘JB∘JP∘Jp 2∘aK∘Jr∘Jp 3) ?_
  obtain ⟨gA,s,rfl,_⟩:=hr.sat k
  refine (gV k 1∘Jy (h:=by exact aad hr k 0 om rfl rfl)∘Jp 1∘l8∘Jj) (Je (λb=>?_) λb=>?_)
  ·
   exact (JT∘JP∘Jp 2∘aK∘Jj∘JZ∘aZ) λd=>qzn f b.symm d.below
  refine (JF∘aD∘JR∘bT 1∘Jp 1∘aK∘Jq) λa Z d=>?_
  exact ⟨_,om,k+1,by omega,zfl j (λh=>b h.symm),rfl,Z.sub kr,d.pk []⟩
 exact (JF∘JX∘JG∘JP∘Jp 1∘Jj∘JZ∘aZ) λd=>qzo (λi hi=>j i om) d.below
def qok (A:Option Addr) (c:Nat) (l:List Int) (v:Int) (w:World) (hr:Rd w w.heap.size 1 A (abl l) (l.map aP)) (d:abl l≤1000000):
    Calls abm 213 #[abh A l c,vI v] w (Is w (.bool (decide (v∈l)))):=by
 refine (iX Tryz.func213 9) ?_
 refine (JP∘Jp 1∘Jr∘Jp 2∘JL (h:=by exact λa=>qzq A c l v _ (a.old hr) d)) ?_
 rintro a _ f ⟨⟨i,rfl,e⟩,b⟩
 refine ⟨_,rfl,_,a.call b,?_⟩
 exact (Jp 2∘gu∘Jj∘JZ∘aZ) λa=>bP e a.below
def qt4 {l:List Int} {v:Int} (a:abl l=n) (hr:Rd w w.heap.size 1 A n (l.map aP)) (b:abl l≤1000000):Calls abm 213 #[.slice A n c,vI v] w (Is w (.bool (decide (v∈l)))):=by
 subst a
 exact qok A c l v w hr b
def qol (W w:World) (x:aC) (M:Nat) (N O P L Q:Nat) (q:dz x N O P L Q) (o:bC) (F:o.Ok) (T:List Fact) (b:Mem W w (jm M x N O P L Q++T)):
    Calls abm 155 #[vP M 0,.agg o.cells] w (jX W M T (xP x.av o)):=by
 obtain ⟨cp,cr,gA,gc,gs,lA,lc,cl,uA,uc,cu,tA,tc,ts,sA,sc,rs⟩:=x
 replace b:Mem W w (fM M cp cr gA N gc lA O lc uA P uc tA L tc sA Q sc::fG gA N gc gs::fI lA O lc cl::fI uA P uc cu::fT tA L tc ts::fS sA Q sc rs::(fR rs++(T))):=b
 obtain ⟨R,S,I,U,V⟩:=q.ln
 replace R:abl gs=N:=R;replace S:abl cl=O:=S;replace I:abl cu=P:=I;replace U:abl ts=L:=U;replace V:abl rs=Q:=V
 have g:=q.ln
 have hsp:dX gs cp rs:=q.spots
 have hrg:abl rs=abl gs:=q.sh.rs
 have hcr:cr<18446744073709551616:=q.ok.aj
 obtain ⟨G,H,_,E⟩:=lX q.sh.cfg
 replace G:1≤cp:=G;replace H:cp≤64:=H;replace E:bU gs=true:=E
 have nA:=(qp E).1;have nC:=(qp E).2.1
 have o7:(abl cl:Int)=cp:=q.sh.cl;have nX:(abl cu:Int)=cp:=q.sh.cu
 have nD:abl ts≤1000000:=q.few.t
 have hoc:=F.cpu;have hot:=F.task;have hog:=F.group;have how:=F.weight;have X:=F.to;have Y:=F.ticks;have xZ:=F.mask;have o8:=F.kind;unfold aR at hoc hot hog how X Y
 obtain ⟨e,rfl⟩:=zj (b.own (i:=3) rfl) om
 refine (lQ b Tryz.func155 67) ?_
 refine (JP∘JE) λw3 g3=>(Jp 2∘Jj∘JQ∘JB∘JP∘Jp 1∘Jg 5 O0∘JI (h:=by exact λb=>Dq 1 b rfl q o.to)) λwK J=>(Jp 2∘gu∘Jj) (oz (λf=>?_) λf=>?_)
 ·
  exact (JT∘JP∘Jp 2∘Jj∘JZ∘bG) λb=>by exact qt (y:=(⟨cp,cr,gA,gc,gs,lA,lc,cl,some ⟨e,0,none⟩,uc,cu,tA,tc,ts,sA,sc,rs⟩:aC)) 1 b rfl g (if_pos (decide_eq_false f))
 replace f:0≤o.to∧o.to<cp:=f
 obtain ⟨c,B⟩:∃n:Nat,o.to=(n:Int):=⟨o.to.toNat,by omega⟩
 have qL:((c:Nat):Int)<cp:=by omega
 have Qp:abl cu≤1000000:=q.few.u
 refine (JF∘JP∘Jg 2 O0∘JI (h:=by exact λb=>K8 o.task _)) λw16 J=>(Jp 2∘dQ∘Jj) (oz (λd=>?_) λd=>?_)
 ·
  exact (JT∘JP∘Jp 2∘Jj∘JZ∘bG) λb=>by exact qt (y:=(⟨cp,cr,gA,gc,gs,lA,lc,cl,some ⟨e,0,none⟩,uc,cu,tA,tc,ts,sA,sc,rs⟩:aC)) 1 b rfl g ((if_neg (nf (decide_eq_true f))).trans (if_pos (decide_eq_false d)))
 refine (JF∘aD∘JP∘Jp 1∘Jg 2 O0∘JI (h:=by exact λb=>FX 1 b rfl q o.task)) λGa J=>(Jp 1∘dQ∘Jj∘JQ∘JB∘JP∘Jp 3∘bH∘Jj) (Ji (λC=>?_) λC=>?_)
 ·
  exact (JT∘JP∘Jp 2∘Jj∘JZ∘bG) λb=>by exact qt (y:=(⟨cp,cr,gA,gc,gs,lA,lc,cl,some ⟨e,0,none⟩,uc,cu,tA,tc,ts,sA,sc,rs⟩:aC)) 1 b rfl g ((if_neg (nf (decide_eq_true f))).trans ((if_neg (nf (decide_eq_true d))).trans (if_pos (C))))
 obtain ⟨k,t,A,ht,hkl,yg⟩:=FZ C
 replace A:fidx ts o.task=(k:Int):=A;replace ht:ts[k]?=some t:=ht;replace hkl:k<abl ts:=hkl
 obtain ⟨D,K⟩:=q.task ht
 have hti:=D.id;have uU:=D.group;have htc:=D.cpu;have F8:=D.weight;have yh:=K.v;have htr:=K.r;have F9:=K.mask
 replace htc:0≤t.cpu∧t.cpu<cp:=htc
 obtain ⟨gt,hgt⟩:∃n:Nat,t.group=(n:Int):=⟨t.group.toNat,by omega⟩
 obtain ⟨ct,hct⟩:∃n:Nat,t.cpu=(n:Int):=⟨t.cpu.toNat,by omega⟩
 obtain ⟨wt,hwt⟩:∃n:Nat,t.weight=(n:Int):=⟨t.weight.toNat,by omega⟩
 have uV:(⟨t.v,t.r,wt⟩:En).Ok:=aaj D.ent hwt yh
 repeat (first|clear Z|clear b)
 intro a Z b
 obtain ⟨l,rfl⟩:=b.rat 5 k (hk:=(by omega:k<L))
 refine Jb Z b ((JF) λa Z b=>?_)
 refine wp_seq ?_
 refine Jb Z b ((Vs .n []) λLi=>(Vp [0]∘Vf 5 2∘Vn 1∘Vf 2 0∘Vf 3 4∘Vc 4 O1∘Vc 6 O0∘VI 7 .n (h:=by exact λb=>qt4 I (b.rd (i:=4) rfl) Qp)) λKo J=>(Vp [8]∘Vd∘aG) (Ji (λp=>?_) λp=>?_))
 ·
  exact (JT∘JP∘Jp 2∘Jj∘JZ∘bG) λb=>by exact qt (y:=(⟨cp,cr,gA,gc,gs,lA,lc,cl,some ⟨e,0,none⟩,uc,cu,some ⟨l,0,none⟩,tc,ts,sA,sc,rs⟩:aC)) 1 b rfl g ((if_neg (nf (decide_eq_true f))).trans ((if_neg (nf (decide_eq_true d))).trans ((if_neg (by show ¬fidx ts o.task<0;rw [A];omega)).trans (if_pos (p)))))
 refine (JF) λa Z b=>?_
 refine wp_seq ?_
 refine Jb Z b ((Vs .n []) λqI=>(Vp [0]∘Vf 9 5∘Vn 1∘Vf 2 0∘Vf 3 5∘Vc 4 O1∘Vp [5]∘Vo (vI k) (by rw [A])∘Vy 6 (h:=by exact Yl.iw l k 8 rfl rfl rfl)∘Vf 7 3∘Vy 8 (v:=vI t.cpu) (h:=by exact Pd rfl rfl kr (λ_ h=>h.qq qk (i:=5) rfl (k:=k) (off:=3) (x:=t) (ht) rfl))∘Vc 10 O0∘Vp [11,12]∘Vd∘aG) (Je (λz=>?_) λz=>?_))
 ·
  exact (JT∘JP∘Jp 2∘Jj∘JZ∘bG) λb=>by exact qt (y:=(⟨cp,cr,gA,gc,gs,lA,lc,cl,some ⟨e,0,none⟩,uc,cu,some ⟨l,0,none⟩,tc,ts,sA,sc,rs⟩:aC)) 1 b rfl g ((if_neg (nf (decide_eq_true f))).trans ((if_neg (nf (decide_eq_true d))).trans ((if_neg (by show ¬fidx ts o.task<0;rw [A];omega)).trans ((if_neg (p)).trans (if_pos (by rw [wR (s:=aC.av (⟨cp,cr,gA,gc,gs,lA,lc,cl,some ⟨e,0,none⟩,uc,cu,some ⟨l,0,none⟩,tc,ts,sA,sc,rs⟩:aC)) A ht];exact z))))))
 have hmb:=aew t.mask (2^c)
 refine (JF) λa Z b=>?_
 refine wp_seq ?_
 refine Jb Z b ((Vs .n []) λQb=>(Vp [0]∘Vf 9 5∘Vn 1∘Vf 2 0∘Vf 3 5∘Vc 4 O1∘Vp [5]∘Vo (vI k) (by rw [A])∘Vy 6 (h:=by exact Yl.iw l k 8 rfl rfl rfl)∘Vf 7 4∘Vy 8 (v:=vQ t.mask) (h:=by exact Pd rfl rfl kr (λ_ h=>h.qq qk (i:=5) rfl (k:=k) (off:=4) (x:=t) (ht) rfl))∘Vc 10 O0∘Vo (vI c) (by rw [B])∘Vy 11 (v:=vQ (t.mask/2^c:Nat)) (h:=by exact aao (m:=t.mask) (n:=c) rfl rfl rfl (by show _≤64;omega))∘Vp [12]∘Vo (vQ ((t.mask/2^c)%2:Nat)) (by exact Ke (n:=1) (j:=1) rfl de om)∘Vp [13,14]∘Vd∘aG) (Je (λQq=>?_) λQq=>?_))
 ·
  exact (JT∘JP∘Jp 2∘Jj∘JZ∘bG) λb=>by exact qt (y:=(⟨cp,cr,gA,gc,gs,lA,lc,cl,some ⟨e,0,none⟩,uc,cu,some ⟨l,0,none⟩,tc,ts,sA,sc,rs⟩:aC)) 1 b rfl g ((if_neg (nf (decide_eq_true f))).trans ((if_neg (nf (decide_eq_true d))).trans ((if_neg (by show ¬fidx ts o.task<0;rw [A];omega)).trans ((if_neg (p)).trans ((if_neg (by rw [wR (s:=aC.av (⟨cp,cr,gA,gc,gs,lA,lc,cl,some ⟨e,0,none⟩,uc,cu,some ⟨l,0,none⟩,tc,ts,sA,sc,rs⟩:aC)) A ht];exact z)).trans (if_pos (YZ (by rw [wR (s:=aC.av (⟨cp,cr,gA,gc,gs,lA,lc,cl,some ⟨e,0,none⟩,uc,cu,some ⟨l,0,none⟩,tc,ts,sA,sc,rs⟩:aC)) A ht]) B om)))))))
 refine (JF∘aD∘JP∘Jp 2∘Jo (vI k) (by rw [A])∘Jf 5∘Jc O0∘Jo (vI c) (by rw [B])∘JL (h:=by exact λb=>Y1 1 b rfl q ht qL)) ?_
 rintro b _ w66 ⟨y,rfl,hys,BG⟩
 refine ⟨_,rfl,_,(show Mem W w66 (.blk g3 o.cells 214::(mo M y++(T))) from BG),?_⟩
 exact (qE∘Jr∘Jp 2∘Jj∘JZ∘bG) λb=>by exact Yp 1 b rfl ((qtz (x:=(⟨cp,cr,gA,gc,gs,lA,lc,cl,some ⟨e,0,none⟩,uc,cu,some ⟨l,0,none⟩,tc,ts,sA,sc,rs⟩:aC)) (decide_eq_true f) (decide_eq_true d) A ht p z (Qi B om)).trans (by rw [hys,B]))
theorem zfm {a b:Int}:(a !=b)=decide (a≠b):=by rw [ace,bne_iff_ne,decide_eq_true_eq]
theorem Y2 {v:Int} (n:Nat) (f:Mem W w F) (h:F.drop n=jm e x m g a b d++T) (i:dz x m g a b d) (j:aI x.av c=v):Calls abm 215 #[vP e 0,vI c] w (Is w (vI v)):=j▸q4l n f h i
def q94 {o:bC} {fr v lc:Int} {i:Bool} (a:o.cpu=(c:Int)) (b:iB x.av o.cpu x.ak.toNat=(fr,v)) (d:aI x.av c=lc) (e:t.cpu=(m:Int)) (f:be.toNat=g) (h:(t.ready&& (decide (t.cpu=fr)&& (decide ((t.mask/2^c)%2=1)&&decide (x.cu.getD m 0≠t.id))))=i):
  xW x.av o be t=(i&&decide (2*t.weight≤v-lc)&& (decide (be<0)||decide ((x.ts.getD g Tk.zero).weight<t.weight))):=by
 unfold xW sj iY
 rw [show x.av.ak=x.ak from rfl,b,a,abG,d,f,←h,show x.av.cu=x.cu from rfl,show x.av.ts=x.ts from rfl,e,abG]
 simp only [Bool.and_assoc]
def qom (W w:World) (x:aC) (A:Nat) (J K L p M:Nat) (B:dz x J K L p M) (o:bC) (ho:o.Ok) (T:List Fact) (e:Mem W w (jm A x J K L p M++T)):
    Calls abm 156 #[vP A 0,.agg o.cells] w (jX W A T (uK x.av o)):=by
 obtain ⟨cp,cr,gA,gc,gs,lA,lc,cl,uA,uc,cu,tA,tc,ts,sA,sc,rs⟩:=x
 replace e:Mem W w (fM A cp cr gA J gc lA K lc uA L uc tA p tc sA M sc::fG gA J gc gs::fI lA K lc cl::fI uA L uc cu::fT tA p tc ts::fS sA M sc rs::(fR rs++(T))):=e
 obtain ⟨l5,hll,ny,hlt,hls⟩:=B.ln
 replace l5:abl gs=J:=l5;replace hll:abl cl=K:=hll;replace ny:abl cu=L:=ny;replace hlt:abl ts=p:=hlt;replace hls:abl rs=M:=hls
 have Gj:=B.ln
 have hsp:dX gs cp rs:=B.spots
 have hrg:abl rs=abl gs:=B.sh.rs
 have hcr:cr<18446744073709551616:=B.ok.aj
 obtain ⟨hcp1,hcp2,_,hgs⟩:=lX B.sh.cfg
 replace hcp1:1≤cp:=hcp1;replace hcp2:cp≤64:=hcp2;replace hgs:bU gs=true:=hgs
 have nA:=(qp hgs).1;have nC:=(qp hgs).2.1
 have o7:(abl cl:Int)=cp:=B.sh.cl;have nX:(abl cu:Int)=cp:=B.sh.cu
 have nD:abl ts≤1000000:=B.few.t
 have hoc:=ho.cpu;have hot:=ho.task;have hog:=ho.group;have how:=ho.weight;have nY:=ho.to;have nZ:=ho.ticks;have xZ:=ho.mask;have o8:=ho.kind;unfold aR at hoc hot hog how nY nZ
 have F:=YP B.sh;replace F:∀t∈ts,1≤t.weight∧t.weight≤65536:=F
 obtain ⟨f,rfl⟩:=zj (e.own (i:=3) rfl) om
 have hld:∀c,aI (⟨cp,cr,gA,gc,gs,lA,lc,cl,some ⟨f,0,none⟩,uc,cu,tA,tc,ts,sA,sc,rs⟩:aC).av c≤65536000000∧0≤aI (⟨cp,cr,gA,gc,gs,lA,lc,cl,some ⟨f,0,none⟩,uc,cu,tA,tc,ts,sA,sc,rs⟩:aC).av c:=λc=>by have h1:0≤gH ts c∧gH ts c≤65536*abl ts:=Yf (c:=c) F;exact ⟨by show gH ts c≤_;omega,h1.1⟩
 refine (lQ e Tryz.func156 136) ?_
 refine (JP∘JE) λw3 g3=>(Jp 2∘Jj∘JQ∘JP∘Jp 1∘Jg 1 O0∘JI (h:=by exact λe=>Dq 1 e rfl B o.cpu)) λCY hbw=>(Jp 1∘dQ∘Jj) (oz (λq=>?_) λq=>?_)
 ·
  exact (JT∘JP∘Jp 2∘Jj∘JZ∘bG) λe=>by exact qt (y:=(⟨cp,cr,gA,gc,gs,lA,lc,cl,some ⟨f,0,none⟩,uc,cu,tA,tc,ts,sA,sc,rs⟩:aC)) 1 e rfl Gj (if_pos (decide_eq_false q))
 replace q:0≤o.cpu∧o.cpu<cp:=q
 obtain ⟨c,N⟩:∃n:Nat,o.cpu=(n:Int):=⟨o.cpu.toNat,by omega⟩
 have qL:((c:Nat):Int)<cp:=by omega
 obtain ⟨lc_,Q⟩:∃z,aI (⟨cp,cr,gA,gc,gs,lA,lc,cl,some ⟨f,0,none⟩,uc,cu,tA,tc,ts,sA,sc,rs⟩:aC).av c=z:=⟨_,rfl⟩
 have Qr:=hld c
 rw [Q] at Qr
 refine (JF∘aD∘JP∘Jp 2∘Jj∘JQ∘JP∘Jp 1∘Jn∘Jf 0∘Jf 0∘Jg 0 O1∘Jp 1∘Jj∘JB) λa Z e=>?_
 refine qg (λmS aS wS=>∃(i:Nat) (fr:Int) (R:Int),((i:Int)≤cp)∧(iB (⟨cp,cr,gA,gc,gs,lA,lc,cl,some ⟨f,0,none⟩,uc,cu,tA,tc,ts,sA,sc,rs⟩:aC).av o.cpu i=(fr,R))∧mS=cp.toNat-i∧Fr aS 136 [] [(26,vI i),(25,vI cp),(7,vI R),(6,vI fr),(19,.bool false),(5,vI 0),(4,vI 0),(3,vP g3 0),(0,vP A 0)]∧Mem W wS (.blk g3 o.cells 214::fM A cp cr gA J gc lA K lc (some ⟨f,0,none⟩) L uc tA p tc sA M sc::fG gA J gc gs::fI lA K lc cl::fI (some ⟨f,0,none⟩) L uc cu::fT tA p tc ts::fS sA M sc rs::(fR rs++(T)))) (m:=cp.toNat-0) ⟨0,(-1),(-1),by omega,rfl,rfl,Z.sub kr,e.pt 7 [0,1,2,3,4,5,6]⟩ ?_
 clear Z e;rintro mS a w_ ⟨i,fr,R,hi,S,rfl,Z,e⟩
 refine Jb Z e ((JP∘Jp 1∘Jj∘JQ) (Ji (λhd27=>?_) λhd27=>?_))
 ·
  obtain ⟨lw,O⟩:∃z,aI (⟨cp,cr,gA,gc,gs,lA,lc,cl,some ⟨f,0,none⟩,uc,cu,tA,tc,ts,sA,sc,rs⟩:aC).av i=z:=⟨_,rfl⟩
  have Qs:=hld i
  rw [O] at Qs
  refine (JT∘aD∘JQ∘JB∘JP∘Jp 2∘aK∘Jr∘Jp 2∘JI (h:=by exact λe=>Y2 1 e rfl B O)) λKz hbw=>(Jp 1∘dQ∘Jr∘Jp 1∘Jf 1∘Jc O0∘Jo (vI c) (by rw [N])∘Jp 2) (Jh (λQt=>?_) λQt=>?_)
  ·
   refine (Jp 4∘aG∘Jj) (Ji (λBp=>?_) λBp=>?_)
   ·
    refine (JT∘JR∘Jp 4∘Jj∘JR∘bT 1∘Jp 1∘aK∘Jq) λa Z e=>?_
    exact ⟨_,om,i+1,(i:Int),lw,by omega,by rw [Pz S,if_pos ⟨by omega,by rw [O];omega⟩,O],rfl,Z.sub kr,e.pt 7 [0,1,2,3,4,5,6]⟩
   refine (JF∘aD∘JR∘bT 1∘Jp 1∘aK∘Jq) λa Z e=>?_
   exact ⟨_,om,i+1,fr,R,by omega,by rw [Pz S,if_neg (by rw [O];omega)],rfl,Z.sub kr,e.pt 7 [0,1,2,3,4,5,6]⟩
  refine (Jp 4∘aG∘Jj∘JF∘aD∘JR∘bT 1∘Jp 1∘aK∘Jq) λa Z e=>?_
  exact ⟨_,om,i+1,fr,R,by omega,by rw [Pz S,if_neg (by rw [O];omega)],rfl,Z.sub kr,e.pt 7 [0,1,2,3,4,5,6]⟩
 have Qu:i=cp.toNat:=by omega
 subst Qu
 have U:=qy9 (cpu:=o.cpu) hld de cp.toNat
 rw [S] at U
 replace U: -1≤fr∧fr<(cp.toNat:Int)∧ -1≤R∧R≤65536000000:=U
 refine (JF∘JX∘JG∘JP∘Jp 1∘Jj∘JQ∘JP∘Jp 1∘Jn∘Jf 0∘Jg 5 O1∘Jl∘Jp 1∘Jj∘JB) λa Z e=>?_
 refine qg (λmS aS wS=>∃(n:Nat) (s:Int),(n≤abl ts)∧(mq (fO (⟨cp,cr,gA,gc,gs,lA,lc,cl,some ⟨f,0,none⟩,uc,cu,tA,tc,ts,sA,sc,rs⟩:aC).av o n)=s)∧mS=abl ts-n∧Fr aS 136 [] [(50,vI n),(49,vI p),(48,.slice tA p tc),(10,vI s),(27,.bool false),(26,vI cp.toNat),(25,vI cp),(7,vI R),(6,vI fr),(19,.bool false),(5,vI 0),(4,vI 0),(3,vP g3 0),(0,vP A 0)]∧Mem W wS (.blk g3 o.cells 214::fM A cp cr gA J gc lA K lc (some ⟨f,0,none⟩) L uc tA p tc sA M sc::fG gA J gc gs::fI lA K lc cl::fI (some ⟨f,0,none⟩) L uc cu::fT tA p tc ts::fS sA M sc rs::(fR rs++(T)))) (m:=abl ts-0) ⟨0,(-1),abw _,rfl,rfl,Z.sub kr,e.pt 7 [0,1,2,3,4,5,6]⟩ ?_
 clear Z e;rintro mS a w_ ⟨n,s,hn,P,rfl,Z,e⟩
 refine Jb Z e ((JP∘Jp 1∘Jj∘JQ) (Ji (λQv=>?_) λQv=>?_))
 ·
  repeat (first|clear Z|clear e)
  intro a Z e
  obtain ⟨g,rfl⟩:=e.rat 5 n (hk:=(by omega:n<p))
  obtain ⟨t,ht⟩:∃z,ts[n]?=some z:=⟨_,abp om⟩
  obtain ⟨V,hto⟩:=B.task ht
  have hti:=V.id;have uU:=V.group;have htc:=V.cpu;have F8:=V.weight;have yh:=hto.v;have htr:=hto.r;have F9:=hto.mask
  replace htc:0≤t.cpu∧t.cpu<cp:=htc
  obtain ⟨gt,hgt⟩:∃n:Nat,t.group=(n:Int):=⟨t.group.toNat,by omega⟩
  obtain ⟨ct,hct⟩:∃n:Nat,t.cpu=(n:Int):=⟨t.cpu.toNat,by omega⟩
  obtain ⟨wt,hwt⟩:∃n:Nat,t.weight=(n:Int):=⟨t.weight.toNat,by omega⟩
  have uV:(⟨t.v,t.r,wt⟩:En).Ok:=aaj V.ent hwt yh
  have hbi:=Yt P
  obtain ⟨bb,hbb⟩:∃n:Nat,s.toNat=n:=⟨_,rfl⟩
  have hmb:=aew t.mask (2^c)
  have hbw:=λh=>F (ts.getD bb Tk.zero) (qe Tk.zero h)
  refine Jb Z e ((JT∘aD∘JQ∘JB∘JP∘Jp 1∘l9 n 8∘Jy (v:= .agg t.cells) (h:=by exact Pe rfl rfl eU rfl (λ_ h=>h.CQ qk (i:=5) rfl (ht)))∘JA #[vI 0,vI 0,vI 0,vI 0,vQ 0,.bool false,vQ 0,vW 0]) λDi X=>(Jp 1∘JV eU aT (h1:=by exact E9 t)) λY3=>(Jj) λa Z e=>?_)
  refine q9 (λaS wS=>Fr aS 136 [] [(13,.bool (t.ready&& (decide (t.cpu=fr)&& (decide ((t.mask/2^c)%2=1)&&decide (cu.getD ct 0≠t.id))))),(11,vI n),(12,vP X 0),(51,.bool true),(50,vI n),(49,vI p),(48,vS g p tc),(10,vI s),(27,.bool false),(26,vI cp.toNat),(25,vI cp),(7,vI R),(6,vI fr),(19,.bool false),(5,vI 0),(4,vI 0),(3,vP g3 0),(0,vP A 0)]∧Mem W wS (.blk X t.cells 232:: .blk g3 o.cells 214::fM A cp cr gA J gc lA K lc (some ⟨f,0,none⟩) L uc (some ⟨g,0,none⟩) p tc sA M sc::fG gA J gc gs::fI lA K lc cl::fI (some ⟨f,0,none⟩) L uc cu::fT (some ⟨g,0,none⟩) p tc ts::fS sA M sc rs::(fR rs++(T)))) ?_ ?_
  ·
   refine Jb Z e ((Vs .n []) λQw=>(Vf 0 5∘Vc 1 O0∘Vp [2]) λa Z e l=>?_)
   rcases Z.tf 57 rfl with ⟨u,Z⟩|⟨u,Z⟩
   ·
    refine Vb Z e l ((Vf 3 3∘Vp [5]∘Vc 4 O0∘Vp [6,7,8]) λa Z e l=>?_)
    rcases Z.tf 63 rfl with ⟨Y,Z⟩|⟨Y,Z⟩
    ·
     have G:=eq_of_beq Y
     refine Vb Z e l ((Vf 9 4∘Vf 11 1∘Vc 10 O0∘Vc 12 O1∘Vo (vI c) (by rw [N])∘Vy 13 (v:=vQ (t.mask/2^c:Nat)) (h:=by exact aao (m:=t.mask) (n:=c) rfl rfl rfl (by show _≤64;omega))∘Vp [14]∘Vo (vQ ((t.mask/2^c)%2:Nat)) (by exact Ke (n:=1) (j:=1) rfl de om)∘Vp [15,16,17]) λa Z e l=>?_)
     rcases Z.tf 72 rfl with ⟨BM,Z⟩|⟨BM,Z⟩
     ·
      have Qx:=eq_of_beq BM
      refine Vb Z e l ((Vp [18]∘Vf 23 3∘Vf 27 0∘Vn 19∘Vf 20 0∘Vf 21 4∘Vc 22 O2∘Vc 24 O0∘Vo (vI ct) (by rw [hct])∘Vy 25 (h:=by exact Yl.iw f ct 1 rfl rfl rfl)∘Vy 26 (h:=by exact aae 5 ct 0 om rfl rfl rfl)∘Vc 28 O0∘Vp [29,30,31]∘Vd∘aG) λa Z e=>?_)
      have Z:=Z.sp 13 (.bool (t.ready&& (decide (t.cpu=fr)&& (decide ((t.mask/2^c)%2=1)&&decide (cu.getD ct 0≠t.id))))) rfl (congrArg abX (by rw [u,decide_eq_true G,decide_eq_true om,acz,acz,acz];exact zfm))
      exact ⟨Z.sub kr,e.pt 8 [0,1,2,3,4,5,6,7]⟩
     have Qx:=ne_of_beq_false BM
     refine ap Z (λ_=>l) [18,19,20,21,22,23,24,25,26,27,28,29,30,31] (bt 32 []) [(13,.bool false)] λa Z=>?_
     refine qd kr ?_
     have Z:=Z.sp 13 (.bool (t.ready&& (decide (t.cpu=fr)&& (decide ((t.mask/2^c)%2=1)&&decide (cu.getD ct 0≠t.id))))) rfl (congrArg abX (by rw [u,decide_eq_true G,decide_eq_false om];first|done|rfl))
     exact ⟨Z.sub kr,e.pt 8 [0,1,2,3,4,5,6,7]⟩
    have G:=ne_of_beq_false Y
    refine ap Z (λ_=>l) [9,10,11,12,13,14,15,16,17,18,19,20,21,22,23,24,25,26,27,28,29,30,31] (bt 32 []) [(13,.bool false)] λa Z=>?_
    refine qd kr ?_
    have Z:=Z.sp 13 (.bool (t.ready&& (decide (t.cpu=fr)&& (decide ((t.mask/2^c)%2=1)&&decide (cu.getD ct 0≠t.id))))) rfl (congrArg abX (by rw [u,decide_eq_false G];first|done|rfl))
    exact ⟨Z.sub kr,e.pt 8 [0,1,2,3,4,5,6,7]⟩
   refine ap Z (λ_=>l) [3,4,5,6,7,8,9,10,11,12,13,14,15,16,17,18,19,20,21,22,23,24,25,26,27,28,29,30,31] (bt 32 []) [(13,.bool false)] λa Z=>?_
   refine qd kr ?_
   have Z:=Z.sp 13 (.bool (t.ready&& (decide (t.cpu=fr)&& (decide ((t.mask/2^c)%2=1)&&decide (cu.getD ct 0≠t.id))))) rfl (congrArg abX (by rw [u];try rfl))
   exact ⟨Z.sub kr,e.pt 8 [0,1,2,3,4,5,6,7]⟩
  clear Z e;rintro a w15 ⟨Z,e⟩
  obtain ⟨ma,hma⟩:∃b,(t.ready&& (decide (t.cpu=fr)&& (decide ((t.mask/2^c)%2=1)&&decide (cu.getD ct 0≠t.id))))=b:=⟨_,rfl⟩
  replace Z:=Z.sp 13 (.bool ma) rfl (by rw [hma])
  have htk:=q94 (x:=(⟨cp,cr,gA,gc,gs,lA,lc,cl,some ⟨f,0,none⟩,uc,cu,some ⟨g,0,none⟩,tc,ts,sA,sc,rs⟩:aC)) (be:=s) N S Q hct hbb hma
  refine q9 (λaS wS=>Fr aS 136 [] [(116,.bool (xW (⟨cp,cr,gA,gc,gs,lA,lc,cl,some ⟨f,0,none⟩,uc,cu,some ⟨g,0,none⟩,tc,ts,sA,sc,rs⟩:aC).av o s t)),(13,.bool ma),(11,vI n),(12,vP X 0),(51,.bool true),(50,vI n),(49,vI p),(48,vS g p tc),(10,vI s),(27,.bool false),(26,vI cp.toNat),(25,vI cp),(7,vI R),(6,vI fr),(19,.bool false),(5,vI 0),(4,vI 0),(3,vP g3 0),(0,vP A 0)]∧Mem W wS (.blk X t.cells 232:: .blk g3 o.cells 214::fM A cp cr gA J gc lA K lc (some ⟨f,0,none⟩) L uc (some ⟨g,0,none⟩) p tc sA M sc::fG gA J gc gs::fI lA K lc cl::fI (some ⟨f,0,none⟩) L uc cu::fT (some ⟨g,0,none⟩) p tc ts::fS sA M sc rs::(fR rs++(T)))) ?_ ?_
  ·
   refine Jb Z e ((Vs .n []) λFL=>(Vp [0,1]) λa Z e l=>?_)
   rcases Z.tf 87 rfl with ⟨H,Z⟩|⟨H,Z⟩
   ·
    refine Vb Z e l ((Vf 2 2∘Vp [5,6]∘Vf 7 1∘Vc 3 O0∘Vp [4]∘Vo (vI (2*t.weight)) (by exact ou ⟨by omega,by omega⟩)∘Vc 8 O1∘Vo (vI c) (by rw [N])∘VI 9 .n (h:=by exact λe=>Y2 2 e rfl B Q)) λw95 hbw=>(Vp [10]∘Vo (vI (R-lc_)) (by exact ou ⟨by omega,by omega⟩)∘Vp [11,12,13]) λa Z e l=>?_)
    rcases Z.tf 99 rfl with ⟨BN,Z⟩|⟨BN,Z⟩
    ·
     have I:=of_decide_eq_true BN
     refine Vb Z e l ((Vp [14,15,16]) λa Z e l=>?_)
     rcases Z.tf 102 rfl with ⟨C,Z⟩|⟨C,Z⟩
     ·
      have D:=of_decide_eq_true C
      refine Vb Z e l ((Vq [17,18,19,20,21,22,23,24,25,26,27,28,29,30] [(116,.bool true)]∘Vd∘aG) λa Z e=>?_)
      have Z:=Z.sp 116 (.bool (xW (⟨cp,cr,gA,gc,gs,lA,lc,cl,some ⟨f,0,none⟩,uc,cu,some ⟨g,0,none⟩,tc,ts,sA,sc,rs⟩:aC).av o s t)) rfl (congrArg abX (by rw [htk,H,decide_eq_true I,decide_eq_true D];rfl))
      exact ⟨Z.sub kr,e.pt 8 [0,1,2,3,4,5,6,7]⟩
     have D:=of_decide_eq_false C
     refine ap Z (λ_=>l) [17,19] (bt 31 [18,20,21,22,23,24,25,26,27,28,29,30]) [(105,vP A 0),(103,vP X 2)] λa Z=>?_
     refine dO Z l 18 0 (v:=vI t.weight) λa Z=>?_
     refine nR Z l 20 λa Z=>?_
     refine ap Z (λ_=>l) [21,22] (bt 31 [23,24,25,26,27,28,29,30]) [(108,vP A 5)] λa Z=>?_
     refine dO Z l 23 2 λa Z=>?_
     refine rQ Z (λ_=>l) (i:=24) rfl rfl (d:=110) rfl de kr (λ_ _ _ h=>h) (v:=vI s) (λ_=>Yl.pure kr) λa Z=>?_
     replace Z:=Z.sp 110 (vI bb) rfl (by rw [show s=(bb:Int) by omega])
     refine jG Z l 25 rfl (v:=vP g (bb*8)) (Yl.iw g bb 8 rfl rfl rfl) λa Z=>?_
     refine ap Z (λ_=>l) [26] (bt 31 [27,28,29,30]) [(112,vP g (bb*8+2))] λa Z=>?_
     refine jG Z l 27 rfl (v:=vI ((ts.getD bb Tk.zero).weight)) (Pd rfl rfl kr (λ_ h=>h.qq qk (i:=6) rfl (k:=bb) (off:=2) (x:=(ts.getD bb Tk.zero)) ((getD_at Tk.zero om)) rfl)) λa Z=>?_
     refine ap Z (λ_=>l) [28,29,30] (bt 31 []) [(116,.bool (decide ((t.weight:Int)>((ts.getD bb Tk.zero).weight:Int))))] λa Z=>?_
     refine qd kr ?_
     have Z:=Z.sp 116 (.bool (xW (⟨cp,cr,gA,gc,gs,lA,lc,cl,some ⟨f,0,none⟩,uc,cu,some ⟨g,0,none⟩,tc,ts,sA,sc,rs⟩:aC).av o s t)) rfl (congrArg abX (by rw [htk,H,decide_eq_true I,decide_eq_false D];rfl))
     exact ⟨Z.sub kr,e.pt 8 [0,1,2,3,4,5,6,7]⟩
    have I:=of_decide_eq_false BN
    refine ap Z (λ_=>l) [14,15,16,17,18,19,20,21,22,23,24,25,26,27,28,29,30] (bt 31 []) [(116,.bool false)] λa Z=>?_
    refine qd kr ?_
    have Z:=Z.sp 116 (.bool (xW (⟨cp,cr,gA,gc,gs,lA,lc,cl,some ⟨f,0,none⟩,uc,cu,some ⟨g,0,none⟩,tc,ts,sA,sc,rs⟩:aC).av o s t)) rfl (congrArg abX (by rw [htk,decide_eq_false I,Bool.and_false];rfl))
    exact ⟨Z.sub kr,e.pt 8 [0,1,2,3,4,5,6,7]⟩
   refine ap Z (λ_=>l) [2,3,4,5,6,7,8,9,10,11,12,13,14,15,16,17,18,19,20,21,22,23,24,25,26,27,28,29,30] (bt 31 []) [(116,.bool false)] λa Z=>?_
   refine qd kr ?_
   have Z:=Z.sp 116 (.bool (xW (⟨cp,cr,gA,gc,gs,lA,lc,cl,some ⟨f,0,none⟩,uc,cu,some ⟨g,0,none⟩,tc,ts,sA,sc,rs⟩:aC).av o s t)) rfl (congrArg abX (by rw [htk,H];rfl))
   exact ⟨Z.sub kr,e.pt 8 [0,1,2,3,4,5,6,7]⟩
  clear Z e;rintro a w16 ⟨Z,e⟩
  refine Jb Z e (Ju (λE=>?_) λE=>?_)
  ·
   refine (JT∘JR∘Jp 2∘aK∘Jj∘JR∘bT 1∘Jp 1∘aK∘Jq) λa Z e=>?_
   exact ⟨_,om,n+1,(n:Int),by omega,by rw [Yr P,show (aC.av (⟨cp,cr,gA,gc,gs,lA,lc,cl,some ⟨f,0,none⟩,uc,cu,some ⟨g,0,none⟩,tc,ts,sA,sc,rs⟩:aC)).ts.getD n Tk.zero=t from sV Tk.zero ht,if_pos E],rfl,Z.sub kr,e.pt 8 [1,2,3,4,5,6,7]⟩
  refine (JF∘aD∘JR∘bT 1∘Jp 1∘aK∘Jq) λa Z e=>?_
  exact ⟨_,om,n+1,s,by omega,by rw [Yr P,show (aC.av (⟨cp,cr,gA,gc,gs,lA,lc,cl,some ⟨f,0,none⟩,uc,cu,some ⟨g,0,none⟩,tc,ts,sA,sc,rs⟩:aC)).ts.getD n Tk.zero=t from sV Tk.zero ht,if_neg (xV E)],rfl,Z.sub kr,e.pt 8 [1,2,3,4,5,6,7]⟩
 have hnl:n=abl ts:=by omega
 subst hnl
 have hbi:=Yt P
 refine (JF∘JX∘JG∘JQ∘JP∘Jp 2∘aK∘Jj) (Ji (λGl=>?_) λGl=>?_)
 ·
  exact (JT∘JP∘Jp 2∘Jj∘JZ∘bG) λe=>by exact qt (y:=(⟨cp,cr,gA,gc,gs,lA,lc,cl,some ⟨f,0,none⟩,uc,cu,tA,tc,ts,sA,sc,rs⟩:aC)) 1 e rfl Gj (qq6 (x:=(⟨cp,cr,gA,gc,gs,lA,lc,cl,some ⟨f,0,none⟩,uc,cu,tA,tc,ts,sA,sc,rs⟩:aC)) (decide_eq_true q) (by rw [P];omega))
 obtain ⟨k,hk⟩:∃n:Nat,s=(n:Int):=⟨s.toNat,by omega⟩
 subst hk
 repeat (first|clear Z|clear e)
 intro a Z e
 obtain ⟨g,rfl⟩:=e.rat 5 k (hk:=(by omega:k<p))
 obtain ⟨t2,ht2⟩:∃z,ts[k]?=some z:=⟨_,abp om⟩
 refine Jb Z e ((JF∘aD∘JP∘Jp 1∘Jn∘Jf 0∘Jg 5 O1∘Jp 1∘l9 k 8∘Jf 0∘Jy (v:=vI t2.id) (h:=by exact Pd rfl rfl kr (λ_ h=>(by have:=h.qq qk (i:=5) rfl (k:=k) (off:=0) (x:=t2) (ht2) rfl;simpa using this)))∘Jp 1∘aG∘Jr∘Jp 2∘Jf 1∘Jc O0∘Jo (vI c) (by rw [N])∘JL (h:=by exact λe=>Y1 1 e rfl B ht2 qL)) ?_)
 rintro e _ BO ⟨y,rfl,hys,BG⟩
 refine ⟨_,rfl,_,(show Mem W BO (.blk g3 o.cells 214::(mo A y++(T))) from BG),?_⟩
 exact (qE∘Jr∘Jp 3∘Jj∘JZ∘bG) λe=>by exact Yp 1 e rfl ((qq7 (x:=(⟨cp,cr,gA,gc,gs,lA,lc,cl,some ⟨f,0,none⟩,uc,cu,some ⟨g,0,none⟩,tc,ts,sA,sc,rs⟩:aC)) (decide_eq_true q) P ht2).trans (by rw [hys,N]))
def Y4 (W:World) (n:Nat) (l:List Tk) (a:Nat) (t:Tk) (fs:List Fact) (r:Ending) (b:World):Prop:=∃(A:Option Addr) (c:Nat),r= .returned (.slice A (n+1) c)∧n+1≤c∧Mem W b (fT A (n+1) c l:: .blk a t.cells 232::fs)
def Qy {r:Ending} (hr:r= .returned (.slice A (n+1) c)) (a:Mem W w (fT A (n+1) c l:: .blk m t.cells 232::fs)):Y4 W n l m t fs r w:=by
 obtain ⟨b,d,h1,h2⟩:=CO (a.own (i:=0) rfl)
 injection h1 with h3 h4 h5
 subst h5
 exact ⟨A,c,hr,h2,a⟩
def q4o (f:Mem W w fs) {i j n g off b d m c:Nat} {C:Array Value} {xs:List Value} {t:TypeId} (h:fs[i]?=some (.blk n C t)) (hi:fs[j]?=some (.row (.slice (some ⟨g,0,none⟩) m c) m xs 232 8)) (a:i≠j) (hm:0<c) {ln lc:Nat}:
  (callFunc 262 [ad6 (some ⟨n,0,none⟩) ln lc,.slice (some ⟨g,off,none⟩) b d].toArray).run abm w= .ok (.value (.bool false)) w:=by
 rw [run_callFunc_extern Tryz.func262 kr kr kr (e:=adF #[45,45] #[4]) kr]
 show ((adF #[45,45] #[4] #[.slice (some ⟨n,0,none⟩) ln lc,.slice (some ⟨g,off,none⟩) b d]).run abm w).andThen _=_
 rw [qqo f bW h hi a hm ln lc]
 rfl
theorem add0:(some (⟨g,0,none⟩:Addr)).map (·.add k)=some ⟨g,k,none⟩:=by rw [adO,acN,acj]
def q4p (l:List Tk) (i:Nat):(l.flatMap bI).take (i*8)=(l.take i).flatMap bI:=by
 rcases ab7 (abl l) i with h|h
 ·rw [abP (by rw [mM];omega),abP om]
 ·have h1:abl ((l.take i).flatMap bI)=i*8:=by rw [mM,abr];omega
  conv=>lhs;rw [←ab9 i l,ab2,←h1]
  exact adG
def ziz (h:Mem W w fs) {j g n c i:Nat} {l:List Tk} (hi:fs[j]?=some (.row (.slice (some ⟨g,0,none⟩) n c) n (l.flatMap bI) 232 8)) (h1:i<abl l) (h2:abl l≤c):
  ∃b,(if c=i+1 then some (⟨g,0,none⟩:Addr) else (some (⟨g,0,none⟩:Addr)).map (·.add ((i+1)*8)))=some b∧∀k v,((l.drop (i+1)).flatMap bI)[k]?=some v→w.cell? (b.add k)=some v:=by
 by_cases e:c=i+1
 ·rw [if_pos e]
  refine ⟨_,rfl,λk v d=>?_⟩
  rw [acp om] at d
  cases d
 ·rw [if_neg e]
  refine ⟨⟨g,(i+1)*8,none⟩,by simp [Addr.add],?_⟩
  exact h.lZ (a:=i+1) (ys:=[]) (by rw [abU];exact hi) ⟨abl l,abP (by rw [abN];omega)⟩ om
def zfn {xs ys B:List Value} (h:xs.length=k) {j:Nat} (a:k=j:=by rfl):(putAt (xs++ys) k B).take j=xs:=by
 subst a;subst h
 rw [KE,aby]
 exact adG
def q4q (z t:Tk) (g:Nat) (w:World) (a:w.heap[g]?=some (.cells t.cells 232 (0,0))):
    Calls abm 204 #[.agg z.cells,vP g 0] w (Is w (.bool (decide (z.id>t.id)))):=by
 refine (iX Tryz.func204 9) ?_
 exact (JP∘JE) λb c=>(Jp 1∘Jr∘Jg 0 O0∘Jf 0∘Jy (v:=vI t.id) (h:=by exact Pd rfl rfl kr (λ_ h=>h.zr a rfl))∘Jp 2∘gu∘Jj∘JZ) sP
def qzr (A:Option Addr) (c:Nat) (l:List Tk) (t:Tk) (g:Nat) (w:World) (hr:Rd w w.heap.size 8 A (abl l) (l.flatMap bI)) (v:abl l≤1000000) (q:w.heap[g]?=some (.cells t.cells 232 (0,0))):
    Calls abm 203 #[abh A l c,.func (.func 204) #[] #[vP g 0]] w (rz w l t.id):=by
 refine (iX Tryz.func203 19) ?_
 refine (JP∘Jp 1∘Jj∘JQ∘JP∘Jp 1∘Jl∘Jp 1∘Jj∘JB) λa Z b=>?_
 refine qg (λp r s=>∃(k:Nat),(k≤abl l)∧(∀j,j<k→(l.getD j Tk.zero).id≤t.id)∧p=abl l-k∧Fr r 19 [] [(8,vI k),(7,vI (abl l)),(4,vI 0),(0,abh A l c),(1,.func (.func 204) #[] #[vP g 0])]∧Mem w s []) (m:=abl l-0) ⟨0,abw _,λj h=>by omega,rfl,Z.sub kr,b.pk []⟩ ?_
 clear Z b;rintro p a x ⟨k,y,e,rfl,Z,b⟩
 refine Jb Z b ((JP∘Jp 1∘Jj∘JQ) (Ji (λi=>?_) λi=>?_))
 ·
  have n:k<abl l:=by omega
  refine (JT∘aD∘JQ∘JB∘JP∘Jp 2∘aK∘Jr∘Jp 3) ?_
  obtain ⟨gA,z,rfl,_⟩:=hr.sat k
  refine (gV k 8∘oK Tk.cells qk hr eU k Tk.zero) λa Z b=>?_
  refine fo Z 5 rfl rfl ?_
  refine mU Z (f:=204) (vs:=[.agg ((l.getD k Tk.zero).cells)]) (fst:=[]) (caps:=[vP g 0]) rfl rfl rfl kr rfl de (q4q (l.getD k Tk.zero) t g _ (b.kM q)) ?_
  rintro _ u ⟨rfl,o⟩
  refine ⟨_,rfl,?_⟩
  replace b:=b.call o
  clear Z;intro a Z
  refine Jb Z b ((l8∘Jj) (Ji (λd=>?_) λd=>?_))
  ·
   exact (JT∘JP∘Jp 2∘aK∘Jj∘JZ∘aZ) λb=>qza n e om b.below
  refine (JF∘aD∘JR∘bT 1∘Jp 1∘aK∘Jq) λa Z b=>?_
  exact ⟨_,om,k+1,by omega,qzc e om,rfl,Z.sub kr,b.pk []⟩
 exact (JF∘JX∘JG∘JP∘Jp 1∘Jj∘JZ∘aZ) λb=>qzb (λj B=>e j om) b.below
def qrk (W w:World) (A:Option Addr) (n c i:Nat) (l:List Tk) (t:Tk) (y:Nat) (fs:List Fact) (F:abl l=n) (G:n≤1000000) (hi:i≤n) (H:n≤c) (b:Mem W w (fT A n c l:: .blk y t.cells 232::fs)):
    Calls abm 205 #[.slice A n c,vI i,.slice (some ⟨y,0,none⟩) 1 1] w (Y4 W n (iH l i t) y t fs):=by
 refine (xS b Tryz.func205 95) ?_
 refine (JP∘Jp 1∘Jr∘Jp 2∘Jy (h:=by exact aaf bW (j:=i) rfl rfl rfl om)∘ow∘Jr∘Jp 1∘Jl∘Jp 1∘bH∘Jj∘JQ∘JP∘Jv 2 [(16,.bool false)]∘Jj∘JF∘aD∘JP∘Jp 1∘Jl∘Jp 1∘bH∘Jj∘JQ∘JP∘Jp 3∘bH∘Jj) (Je (λs=>?_) λs=>?_)
 ·
  refine (JT∘JP∘Jp 2∘JD (bI t) 0 (λ_ _=>aT) bW (hr:=by exact λb=>b.aX (i:=1) (n:=1) (size:=8) rfl rfl) (h1:=by exact PD t)) λI J K z=>(JC (h:=by exact λb=>b.bR (i:=0) (ys:=((l++[t]).flatMap bI)) rfl (q36 l t))∘Jp 1∘dQ∘Jj∘JZ) λa Z b=>?_
  have o:=b.pt 2 [0,1]
  exact kX rfl Z rfl (Qy rfl (o.bR (i:=0) rfl (by rw [q9l (l:=l) (t:=t) (i:=i) om])))
 refine (JF∘aD∘JQ∘JP∘Jp 2∘bT 1∘Jp 1∘Jy (h:=by exact Yl.cap rfl rfl kr)∘Jp 1∘l8∘Jj) (Ji (λu=>?_) λu=>?_)
 ·
  repeat (first|clear Z|clear b)
  intro a Z b
  obtain ⟨gA,rfl⟩:=b.rat 0 i (hk:=(by omega:i<n))
  refine Jb Z b ((JT∘JP∘Jp 2∘Jy (h:=by exact aag bW (j:=i) rfl rfl rfl om)∘Jp 2∘bT 1∘Jp 1∘Js) λa Z b=>?_)
  refine fo Z 8 rfl rfl ?_
  refine qls Z b (kn:= .i64) (xs:=(l.take i).flatMap bI) (m:=n+1-i) rfl bW kr rfl rfl ⟨by rw [mM,abr];omega,b.lZ (j:=0) (a:=0) (l:=l) (ys:=[]) (by rw [abU];rfl) ⟨i,rfl⟩ (abw _)⟩ om om om om rfl de ?_
  clear Z;intro a L e g Z p B
  replace b:=p
  have d:i+(n+1-i)=n+1:=om
  replace b:=b.aY (i:=0) (ys:=((l.take i).flatMap bI++zT (n+1-i))) rfl d (rfl)
  replace Z:=Z.sp 40 (vS e (n+1) g) rfl (iy d)
  refine Jb Z b ((Jp 1∘aG∘Jr∘Jp 2∘Jy (v:= .slice (if g=i then some ⟨e,0,none⟩ else (some ⟨e,0,none⟩:Option Addr).map (·.add (i*8))) ((n+1)-i) (g-i)) (h:=by exact aaf bW (j:=i) rfl rfl rfl om)∘Jo (.slice (some ⟨e,i*8,none⟩) (n+1-i) (g-i)) (by rw [if_neg om,add0])∘Jp 1) λa Z b=>?_)
  refine fo Z 4 rfl rfl ?_
  refine KD Z b (i:=0) (bI t) rfl bW rfl rfl rfl (by rw [qk,show afP 1 (n+1-i)=1 from adb om]) (λk v q=>by rw [acN,acj];exact b.cell (i:=2) rfl (by rw [←aft];exact q)) (PD t) (by rw [qk];simp only [abn,mM,La,abr];omega) rfl de ?_
  clear Z b;intro a M Z b
  refine Jb Z b ((qE∘Jj) λa Z b=>?_)
  refine wp_seq ?_
  refine Jb Z b ((Vs (.f .n) []) λC=>(Vp [0,1,2,5,6]∘xE 3 1∘Vy 4 (v:= .slice (if g=(i+1) then some ⟨e,0,none⟩ else (some ⟨e,0,none⟩:Option Addr).map (·.add ((i+1)*8))) ((n+1)- (i+1)) (g- (i+1))) (h:=by exact aaf bW (j:=(i+1)) rfl rfl rfl om)∘Vo (.slice (some ⟨e,(i+1)*8,none⟩) (n+1- (i+1)) (g- (i+1))) (by rw [if_neg om,add0])∘Vy 7 (v:= .slice (if c=i then some ⟨gA,0,none⟩ else (some ⟨gA,0,none⟩:Option Addr).map (·.add (i*8))) (n-i) (c-i)) (h:=by exact aaf bW (j:=i) rfl rfl rfl om)∘Vo (.slice (some ⟨gA,i*8,none⟩) (n-i) (c-i)) (by rw [if_neg om,add0])) λa Z b x=>?_)
  refine s_on Z 8 rfl ?_
  refine KD Z b (i:=0) ((l.drop i).flatMap bI) rfl bW rfl rfl rfl (by rw [mM,abN,show afP (n-i) (n+1- (i+1))=n-i from adb om];omega) (b.lZ (j:=1) (a:=i) (ys:=[]) (by rw [abU];rfl) ⟨abl l,abP (by rw [abN];omega)⟩ om) (λv q=>FR _ v q) (by rw [J7 (by rw [qk];simp only [abn,mM,La,abr];omega),mM,abN];simp only [abn,mM,La,abr];omega) rfl de ?_
  clear Z b;intro a N Z b
  refine ay (b.pt 3 [1,2]) (λx=>?_)
  refine Vb Z b x ((Vd∘iE∘JP∘Jp 2∘gu∘Jj∘JZ) λa Z b=>?_)
  have o:=b.pt 3 [0,2]
  exact kX rfl Z rfl (Qy rfl (o.bR (i:=0) rfl (by rw [←F];exact q9m om)))
 repeat (first|clear Z|clear b)
 intro a Z b
 obtain ⟨gA,rfl⟩:=b.rat 0 i (hk:=(by omega:i<n))
 refine Jb Z b ((JF∘aD∘JP∘Jp 3∘bT 1∘Jy (h:=by exact aag bW (j:=n+1) rfl rfl rfl om)∘Jp 1∘l8∘Jq) λa Z b=>?_)
 obtain ⟨D,r,p⟩:=b.nU (i:=0) (m':=n+1) rfl om om
 replace b:=p;clear p
 replace r:abl D=8:=by rw [r];omega
 refine Jb Z b ((JG∘JQ∘JP∘Jp 4∘bT 1∘Jy (v:= .slice (if c=(i+1) then some ⟨gA,0,none⟩ else (some ⟨gA,0,none⟩:Option Addr).map (·.add ((i+1)*8))) ((n+1)- (i+1)) (c- (i+1))) (h:=by exact aaf bW (j:=(i+1)) rfl rfl rfl om)∘Jo (.slice (some ⟨gA,(i+1)*8,none⟩) (n+1- (i+1)) (c- (i+1))) (by rw [if_neg om,add0])) λa Z b=>?_)
 refine fo Z 6 rfl rfl ?_
 refine q8v Z b rfl rfl (q4o b (i:=1) (j:=0) rfl rfl de om) rfl de ?_
 clear Z;intro a Z
 refine Jb Z b ((Jp 1∘aG∘Jj∘JT) λa Z b=>?_)
 refine wp_seq ?_
 refine Jb Z b ((Vs (.f .n) []) λE=>(Vp [0,1,2,5,6]∘xE 3 1∘Vy 4 (v:= .slice (if c=(i+1) then some ⟨gA,0,none⟩ else (some ⟨gA,0,none⟩:Option Addr).map (·.add ((i+1)*8))) ((n+1)- (i+1)) (c- (i+1))) (h:=by exact aaf bW (j:=(i+1)) rfl rfl rfl om)∘Vo (.slice (some ⟨gA,(i+1)*8,none⟩) (n+1- (i+1)) (c- (i+1))) (by rw [if_neg om,add0])∘Vy 7 (v:= .slice (if c=i then some ⟨gA,0,none⟩ else (some ⟨gA,0,none⟩:Option Addr).map (·.add (i*8))) ((n+1)-i) (c-i)) (h:=by exact aaf bW (j:=i) rfl rfl rfl om)∘Vo (.slice (some ⟨gA,i*8,none⟩) (n+1-i) (c-i)) (by rw [if_neg om,add0])) λa Z b x=>?_)
 refine s_on Z 8 rfl ?_
 refine KD Z b (i:=0) ((l.drop i).flatMap bI) rfl bW rfl rfl rfl (by rw [mM,abN,show afP (n+1-i) (n+1- (i+1))=n+1- (i+1) from Nat.min_eq_right om];omega) (b.lZ (j:=0) (a:=i) (ys:=D) rfl ⟨abl l,abP (by rw [abN];omega)⟩ om) (λv q=>FR _ v q) (by rw [mM,abN,abn,mM];omega) rfl de ?_
 clear Z b;intro a O Z b
 refine ay (b.pt 2 [1]) (λx=>?_)
 refine Vb Z b x ((Vd∘iE∘JP∘Jp 2∘Jy (v:= .slice (if c=i then some ⟨gA,0,none⟩ else (some ⟨gA,0,none⟩:Option Addr).map (·.add (i*8))) ((n+1)-i) (c-i)) (h:=by exact aaf bW (j:=i) rfl rfl rfl om)∘Jo (.slice (some ⟨gA,i*8,none⟩) (n+1-i) (c-i)) (by rw [if_neg om,add0])∘Jp 1) λa Z b=>?_)
 refine fo Z 4 rfl rfl ?_
 refine KD Z b (i:=0) (bI t) rfl bW rfl rfl rfl (by rw [qk,show afP 1 (n+1-i)=1 from adb om]) (λk v q=>by rw [acN,acj];exact b.cell (i:=1) rfl (by rw [←aft];exact q)) (PD t) (by rw [qk,J7 (by rw [mM,abN,abn,mM];omega),abn,mM];omega) rfl de ?_
 clear Z b;intro a P Z b
 refine Jb Z b ((iE∘Jr∘Jp 2∘dQ∘Jj∘JZ) λa Z b=>?_)
 have o:=b.pt 2 [0,1]
 exact kX rfl Z rfl (Qy rfl (o.bR (i:=0) rfl (q37 om r)))
def qrl (W w:World) (g n c i:Nat) (l:List Tk) (fs:List Fact) (D:abl l=n) (u:n≤1000000) (hi:i<n) (x:n≤c) (d:Mem W w (fT (some ⟨g,0,none⟩) n c l::fs)):
    Calls abm 209 #[.slice (some ⟨g,0,none⟩) n c,vI i,vI ((i+1:Nat):Int)] w (λr y=>r= .returned (.slice (some ⟨g,0,none⟩) (n-1) c)∧Mem W y (fT (some ⟨g,0,none⟩) (n-1) c (l.eraseIdx i)::fs)):=by
 refine (xS d Tryz.func209 33) ?_
 refine (JP∘Jp 1∘Jr∘Jp 4∘Jl∘Jy (v:= .slice (if n=i then some ⟨g,0,none⟩ else (some ⟨g,0,none⟩:Option Addr).map (·.add (i*8))) ((i+1)-i) (n-i)) (h:=by exact aa9 bW (i:=i) (j:=i+1) (q:=n) rfl rfl rfl rfl rfl om om om)∘iE∘Jj∘JQ∘JP∘Jp 3∘bH∘Jj) (Je (λe=>?_) λe=>?_)
 ·
  intro a Z d
  exact absurd e om
 refine (JF∘aD∘JP∘Jp 1∘Jl∘Jp 1∘bH∘Jj) λa Z d=>?_
 refine wp_seq ?_
 refine Jb Z d ((Vs (.f .n) []) λz=>(Vp [0,1,3,4]∘Vy 2 (h:=by exact aag bW (j:=i) rfl rfl rfl om)∘Vy 5 (h:=by exact aaf bW (j:=(i+1)) rfl rfl rfl om)) λa Z d s=>?_)
 refine s_on Z 6 rfl ?_
 obtain ⟨A,o,k⟩:=ziz d (j:=0) (i:=i) rfl (by omega:i<abl l) (by omega:abl l≤c)
 replace Z:=Z.sp 25 (.slice (some A) (n- (i+1)) (c- (i+1))) rfl (by rw [o])
 replace d:=d.E8 (i:=0) (m':=i) (ys:=(l.take i).flatMap bI) rfl om (q4p l i)
 refine qtc Z d (i:=0) (news:=(l.drop (i+1)).flatMap bI) rfl bW rfl rfl rfl (by rw [mM,abN];omega) k om (λv B=>FR _ v B) rfl de ?_
 clear Z d;intro a C Z d
 refine ay (d.pt 1 []) (λs=>?_)
 refine Vb Z d s ((Vp [7]∘Vd∘aG) ?_)
 have b:i+(n- (i+1))=n-1:=om
 intro a Z d
 replace d:=d.aY (i:=0) (ys:=(l.eraseIdx i).flatMap bI) rfl b (q9n om)
 replace Z:=Z.sp 0 (vS g (n-1) c) rfl (iy b)
 refine Jb Z d ((JP∘Jp 2∘Jl∘Jp 1∘Jy (v:= .slice (if c=n-1 then some ⟨g,0,none⟩ else (some ⟨g,0,none⟩:Option Addr).map (·.add ((n-1)*8))) (n- (n-1)) (c- (n-1))) (h:=by exact aal bW (i:=n-1) (j:=n) rfl rfl rfl rfl om om)∘Jo (.slice (some ⟨g,(n-1)*8,none⟩) (n- (n-1)) (c- (n-1))) (by rw [if_neg om,add0])) λa Z d=>?_)
 refine fo Z 5 rfl rfl ?_
 obtain ⟨E,p,m⟩:=d.nU (i:=0) (m':=n) rfl om om
 replace d:=m;clear m
 refine zen Z d (i:=0) rfl bW rfl rfl om (zix _) (by rw [abn,p,mM,afQ,if_pos om];omega) rfl λt d=>?_
 replace d:=d.E8 (i:=0) (m':=n-1) (ys:=(l.eraseIdx i).flatMap bI) rfl om (zfn (by rw [mM,afQ,if_pos om];omega))
 refine Jb Z d ((qE∘Jr∘Jp 2∘aK∘Jj∘JZ) λa Z d=>?_)
 exact kX rfl Z rfl ⟨rfl,d⟩
end Go.Proofs.YtekiimhdnigmcaaGreatDoor
