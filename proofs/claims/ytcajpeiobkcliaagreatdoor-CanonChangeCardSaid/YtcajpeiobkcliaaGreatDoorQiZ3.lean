/- Parts. -/
import Derived.Test.YtcajpeiobkcliaaGreatDoorQiArrO
import Derived.Test.YtcajpeiobkcliaaGreatDoorQiDoorE
import Derived.Test.YtcajpeiobkcliaaGreatDoorRows
import Derived.Test.YtcajpeiobkcliaaGreatDoorQiCrcP
import Derived.Test.YtcajpeiobkcliaaGreatDoorQiSep17
import Derived.Test.YtcajpeiobkcliaaGreatDoorQiIs
import Derived.Test.YtcajpeiobkcliaaGreatDoorQiVarint
import Derived.Test.YtcajpeiobkcliaaGreatDoorQiSep16
import Derived.Test.YtcajpeiobkcliaaGreatDoorQiSep8
import Derived.Test.YtcajpeiobkcliaaGreatDoorQiZ2
set_option linter.all false
set_option maxRecDepth 100000
set_option maxHeartbeats 1000000
namespace Go.Proofs.YtcajpeiobkcliaaGreatDoor
open Go.RowKit
theorem qjz {W w:World} {F T:List Fact} {x:Stm} {ng nl nu nt ns gm g c:Nat} {l:List Nat} (n:Nat) (I:Mem W w F) (he:F.drop n=mdA gm x ng nl nu nt ns++T) (hx:MdOk x ng nl nu nt ns) (hc:(c:Int)<x.cpus) (hg:g<ns) (hl:zf x.sta g c=l):Calls Tryz.prog 104 #[vP gm 0,vI g,vI c] w (qo6 w l):=hl▸qxj n I he hx hc hg
theorem qj0 {x:Stm} {ng nl nu nt ns g c:Nat} {l:List Nat} (hx:MdOk x ng nl nu nt ns) (hg:g<ns) (hl:zf x.sta g c=l):∀h∈l,0<h∧h<ns:=by
 subst hl
 intro h hh
 obtain ⟨_,_,_,hgs⟩:=zq hx.sh.cfg
 have h1:=hx.sh.rs
 have h2:=hx.ln.s
 have h3:=qii (s:=x.sta) (c:=c) (g:=g) (qam hgs om) h hh
 exact ⟨h3.1,by omega⟩
theorem qiu {s:Sta} {c:Nat}:∀(f g:Nat),(qbo s c f g).length≤f
 |0,g=>Nat.le_refl _
 | f + 1, g => by
  rw [qbo]
  split
  ·exact Nat.zero_le _
  ·split
   ·rw [List.length_cons];have:=qiu (s:=s) (c:=c) f (s.par g).toNat;omega
   ·exact Nat.zero_le _
theorem qhh {x:Stm} {ng nl nu nt ns g c:Nat} {l:List Nat} (hx:MdOk x ng nl nu nt ns) (hg:g<ns) (hl:zf x.sta g c=l):l.length≤1000000:=by
 subst hl
 have h1:(zf x.sta g c).length≤g:=qiu (s:=x.sta) (c:=c) g g
 have h2:=hx.few.s
 have h3:=hx.ln.s
 omega
theorem qj1 {W w:World} {F T:List Fact} {x:Stm} {ng nl nu nt ns gm c:Nat} {E:Option Addr} {ec:Nat} {l:List Nat} (n:Nat) (I:Mem W w F) (he:F.drop n=mdA gm x ng nl nu nt ns++T) {j:Nat} (hE:F[j]?=some (.row (.slice E l.length ec) l.length (l.map I64v) 3 1)) (hj:j<n) (hx:Lns x ng nl nu nt ns) (hlm:∀g∈l,0<g∧g<ns) (hln:l.length≤1000000)
  (hgs:gsOk x.gs=true) (hrg:x.rs.length=x.gs.length) (hsp:SpsOk x.gs x.cpus x.rs) (hcr:x.credit<18446744073709551616) (hcp:x.cpus≤64) (hc:(c:Int)<x.cpus):
  Calls Tryz.prog 110 #[vP gm 0,.slice E l.length ec,vI c] w (fun r w'=>∃rs2,r= .returned (.tuple #[])∧rs2.length=ns∧SpsOk x.gs x.cpus rs2∧({x with rs:=rs2}:Stm).sta=wakeS x.sta l c∧Mem W w' (F.take n++(mdA gm {x with rs:=rs2} ng nl nu nt ns++T))):=
 (qq4 W w x gm c ng nl nu nt ns hx (F.take n++T) E ec l (List.mem_append_left _ (List.mem_of_getElem? (by rw [List.getElem?_take_of_lt hj];exact hE))) hlm hln hgs hrg hsp hcr hcp hc (I.front n he)).mono fun r w' ⟨rs2,h1,h2,h3,h4,h5⟩=>⟨rs2,h1,h2,h3,h4,h5.back⟩
theorem qh5 (W w:World) (x:Stm) (gm:Nat) (ng nl nu nt ns:Nat) (hx:MdOk x ng nl nu nt ns) (o:Op30) (ho:o.Ok) (T:List Fact) (I:Mem W w (mdA gm x ng nl nu nt ns++T)):
    Calls Tryz.prog 68 #[vP gm 0,.agg o.cells] w (OpIs W gm T (qan x.sta o)):=by
 obtain ⟨cp,cr,gA,gc,gs,lA,lc,cl,uA,uc,cu,tA,tc,ts,sA,sc,rs⟩:=x
 replace I:Mem W w (fM gm cp cr gA ng gc lA nl lc uA nu uc tA nt tc sA ns sc::fG gA ng gc gs::fI lA nl lc cl::fI uA nu uc cu::fT tA nt tc ts::fS sA ns sc rs::(fR rs++(T))):=I
 obtain ⟨hlg,hll,hlu,hlt,hls⟩:=hx.ln
 replace hlg:gs.length=ng:=hlg;replace hll:cl.length=nl:=hll;replace hlu:cu.length=nu:=hlu;replace hlt:ts.length=nt:=hlt;replace hls:rs.length=ns:=hls
 have hlns:=hx.ln
 have hsp:SpsOk gs cp rs:=hx.spots
 have hrg:rs.length=gs.length:=hx.sh.rs
 have hcr:cr<18446744073709551616:=hx.ok.credit
 obtain ⟨hcp1,hcp2,_,hgs⟩:=zq hx.sh.cfg
 replace hcp1:1≤cp:=hcp1;replace hcp2:cp≤64:=hcp2;replace hgs:gsOk gs=true:=hgs
 have hgl1:=(qq hgs).1;have hgl2:=(qq hgs).2.1
 have hcll:(cl.length:Int)=cp:=hx.sh.cl;have hcul:(cu.length:Int)=cp:=hx.sh.cu
 have hfts:ts.length≤1000000:=hx.few.t
 have hoc:=ho.cpu;have hot:=ho.task;have hog:=ho.group;have how:=ho.weight;have hoto:=ho.to;have hotk:=ho.ticks;have hom:=ho.mask;have hok8:=ho.kind;unfold I64 at hoc hot hog how hoto hotk
 refine (Jin2 I Tryz.func68 55) ?_
 refine (JP∘JE) fun w3 g3=>(Jp 2∘Jr∘Jp 1∘Jj∘JQ∘JB∘JP∘Jg 2 O0∘JI (h:=by exact fun I=>qf5 o.task _)) fun w13 hbw=>(Jp 2∘Jd3∘Jj) (Ji' (fun hd10=>?_) fun hd10=>?_)
 ·
  exact (JT∘JP∘Jp 2∘Jj∘JZ∘Jz2) fun I=>by exact qr (y:=(⟨cp,cr,gA,gc,gs,lA,lc,cl,uA,uc,cu,tA,tc,ts,sA,sc,rs⟩:Stm)) 1 I rfl hlns (if_pos (decide_eq_false hd10))
 refine (JF∘JP∘Jg 4 O0∘JL (h:=by exact fun I=>qbz o.weight _)) ?_
 rintro I _ w18 ⟨rfl,hbw⟩
 refine ⟨_,rfl,_,I.call hbw,?_⟩
 refine (Jp 2∘Jd3∘Jj) (Ji' (fun hd15=>?_) fun hd15=>?_)
 ·
  exact (JT∘JP∘Jp 2∘Jj∘JZ∘Jz2) fun I=>by exact qr (y:=(⟨cp,cr,gA,gc,gs,lA,lc,cl,uA,uc,cu,tA,tc,ts,sA,sc,rs⟩:Stm)) 1 I rfl hlns ((if_neg (nf (decide_eq_true hd10))).trans (if_pos (decide_eq_false hd15)))
 refine (JF∘JS'∘JQ∘JP∘Jp 1∘Jg 2 O0∘JI (h:=by exact fun I=>qex 1 I rfl hx o.task)) fun w23 hbw=>(Jp 1∘Jd3∘Jr∘Jp 2∘Jd1∘Jj) (Ju (fun hb25=>?_) fun hb25=>?_)
 ·
  intro a Z I
  have hd25:=of_decide_eq_true hb25
  exact Jb Z I ((JT∘JP∘Jp 2∘Jj∘JZ∘Jz2) fun I=>by exact qr (y:=(⟨cp,cr,gA,gc,gs,lA,lc,cl,uA,uc,cu,tA,tc,ts,sA,sc,rs⟩:Stm)) 1 I rfl hlns ((if_neg (nf (decide_eq_true hd10))).trans ((if_neg (nf (decide_eq_true hd15))).trans (if_pos (hd25)))))
 intro a Z I
 have hd25:=of_decide_eq_false hb25
 obtain ⟨k,t,hk,ht,hkl,hkid⟩:=qhb hd25
 replace hk:fidx ts o.task=(k:Int):=hk;replace ht:ts[k]?=some t:=ht;replace hkl:k<ts.length:=hkl
 obtain ⟨htg,hto⟩:=hx.task ht
 have hti:=htg.id;have htgr:=htg.group;have htc:=htg.cpu;have htw:=htg.weight;have htv:=hto.v;have htr:=hto.r;have htm:=hto.mask
 replace htc:0≤t.cpu∧t.cpu<cp:=htc
 obtain ⟨gt,hgt⟩:∃n:Nat,t.group=(n:Int):=⟨t.group.toNat,by omega⟩
 obtain ⟨ct,hct⟩:∃n:Nat,t.cpu=(n:Int):=⟨t.cpu.toNat,by omega⟩
 obtain ⟨wt,hwt⟩:∃n:Nat,t.weight=(n:Int):=⟨t.weight.toNat,by omega⟩
 have hEo:(⟨t.v,t.r,wt⟩:En).Ok:=En.qh6 htg.ent hwt htv
 obtain ⟨z,hoz⟩:∃n:Nat,o.weight=(n:Int):=⟨o.weight.toNat,by omega⟩
 have hz:1≤z∧z≤65536:=by omega
 revert I;revert a;repeat (first|clear Z|clear I)
 intro a Z I
 obtain ⟨gtA,rfl⟩:=qn (I.own (i:=5) rfl) (Nat.lt_of_le_of_lt (Nat.zero_le _) (show k<nt from (by omega:k<nt)))
 refine Jb Z I ((JF∘JS'∘JP∘Jp 1∘Jn∘Jf 0∘Jg 5 O1∘Jp 1∘Jo (vI k) (by rw [hk])∘Jy (h:=by exact Yl.ix0 gtA k 8 rfl rfl rfl)∘Jp 1∘Jd6∘Jj) fun a Z I=>?_)
 refine zb (fun aS wS=>∃(g8:Nat),Fr aS 55 [] [(8,vP g8 0),(7,vP gtA (k*8)),(25,.bool false),(6,vI (fidx ts o.task)),(15,.bool false),(10,.bool false),(5,vI 0),(4,vI 0),(3,vP g3 0),(0,vP gm 0)]∧Mem W wS (.blk g8 ((⟨t.v,0,z⟩:En).cells) 168:: .blk g3 o.cells 98::fM gm cp cr gA ng gc lA nl lc uA nu uc (some ⟨gtA,0,none⟩) nt tc sA ns sc::fG gA ng gc gs::fI lA nl lc cl::fI uA nu uc cu::fT (some ⟨gtA,0,none⟩) nt tc ts::fS sA ns sc rs::(fR rs++(T)))) ?_ ?_
 ·
  refine Jb Z I ((Vs .n [20]) fun wd10=>(Vp [0,4,8]∘Vf 13 4∘Vn 1∘Vf 2 6∘Vy 3 (v:=vQ t.v) (h:=by exact Yl.qe rfl rfl kr (fun _ h=>h.qp qf (i:=5) rfl (k:=k) (off:=6) (x:=t) (ht) rfl))∘Vn 5∘Vf 6 7∘Vy 7 (v:=vW t.r) (h:=by exact Yl.qe rfl rfl kr (fun _ h=>h.qp qf (i:=5) rfl (k:=k) (off:=7) (x:=t) (ht) rfl))∘Vn 9∘Vf 10 2∘Vy 11 (v:=vI t.weight) (h:=by exact Yl.qe rfl rfl kr (fun _ h=>h.qp qf (i:=5) rfl (k:=k) (off:=2) (x:=t) (ht) rfl))∘Vo (vI wt) (by rw [hwt])∘Vc 14 O0∘Vo (vI z) (by rw [hoz])) fun a Z I HS=>?_)
  refine qo [12,19] kr rfl ?_
  refine all_cons ?_ ?_
  ·refine qc Z (i:=12) rfl rfl ?_
   refine e_is Z I [vQ t.v,vW t.r,vI wt] (.agg #[vQ t.v,vW t.r,vW wt]) rfl rfl (qy t.v t.r (wt:Int) om _) fun w46 hbw I a Z=>?_
   refine keepS (I.pt 7 [0,1,2,3,4,5,6]) (fun HS=>?_)
   refine qo [15,19] kr rfl ?_
   refine all_cons ?_ ?_
   ·refine qc Z (i:=15) rfl rfl ?_
    refine e_is Z I [.agg #[vQ t.v,vW t.r,vW wt],vI z] (.tuple #[.agg ((⟨t.v,0,z⟩:En).cells),vI 0]) rfl rfl (qcm (⟨t.v,t.r,wt⟩:En) hEo z hz _) fun w49 hbw I a Z=>?_
    refine keepS (I.pt 7 [0,1,2,3,4,5,6]) (fun HS=>?_)
    refine Vb Z I HS ((Vp [16]∘Vx 17∘Vx 18∘VA 19 .n #[vQ 0,vW 0,vW 0]) fun w8 g8=>fun a Z I HS=>?_)
    refine s_on Z 20 rfl (e_sa Z I 0 rfl rfl rfl rfl rfl qk rfl rfl (zk (⟨t.v,0,z⟩:En)) ?_)
    clear I;intro w10_20 I
    refine noS kr ?_
    refine ap Z (pastS kr) [21] (bt 22 []) [] fun a Z=>?_
    refine qb kr ?_
    exact ⟨g8,Z.sub kr,I.pt 8 [0,1,2,3,4,5,6,7]⟩
   refine all_cons ?_ all_nil
   refine qc Z (i:=19) rfl rfl ?_
   refine s_ea Z I #[vQ 0,vW 0,vW 0] ?_
   clear Z I;intro a w8 g8 Z I
   refine keepS (I.pt 8 [1,2,3,4,5,6,7]) (fun HS=>?_)
   refine Vb Z I HS ((VI 15 (.f .n) (h:=by exact fun I=>qcm (⟨t.v,t.r,wt⟩:En) hEo z hz _)) fun w49 hbw=>(Vp [16]∘Vx 17∘Vx 18) fun a Z I HS=>?_)
   refine s_on Z 20 rfl (e_sa Z I 0 rfl rfl rfl rfl rfl qk rfl rfl (zk (⟨t.v,0,z⟩:En)) ?_)
   clear I;intro w10_20 I
   refine noS kr ?_
   refine ap Z (pastS kr) [21] (bt 22 []) [] fun a Z=>?_
   refine qb kr ?_
   exact ⟨g8,Z.sub kr,I.pt 8 [0,1,2,3,4,5,6,7]⟩
  refine all_cons ?_ all_nil
  refine qc Z (i:=19) rfl rfl ?_
  refine s_ea Z I #[vQ 0,vW 0,vW 0] ?_
  clear Z I;intro a w8 g8 Z I
  refine keepS (I.pt 8 [1,2,3,4,5,6,7]) (fun HS=>?_)
  refine Vb Z I HS ((VI 12 (.f .n) (h:=by exact fun I=>qy t.v t.r (wt:Int) om _)) fun w46 hbw=>(VI 15 (.f .n) (h:=by exact fun I=>qcm (⟨t.v,t.r,wt⟩:En) hEo z hz _)) fun w49 hbw=>(Vp [16]∘Vx 17∘Vx 18) fun a Z I HS=>?_)
  refine s_on Z 20 rfl (e_sa Z I 0 rfl rfl rfl rfl rfl qk rfl rfl (zk (⟨t.v,0,z⟩:En)) ?_)
  clear I;intro w10_20 I
  refine noS kr ?_
  refine ap Z (pastS kr) [21] (bt 22 []) [] fun a Z=>?_
  refine qb kr ?_
  exact ⟨g8,Z.sub kr,I.pt 8 [0,1,2,3,4,5,6,7]⟩
 clear Z I;rintro a w10 ⟨g8,Z,I⟩
 exact Jb Z I ((JP∘Jp 1∘Jy (v:= .agg ((⟨t.v,0,z⟩:En).cells)) (h:=by exact Yl.loadS rfl rfl qk rfl (fun _ h=>qa (h.blk (i:=0) rfl)))∘JO (h:=by exact fun I=>qo1 t (⟨t.v,0,z⟩:En) O6' I ht hlt (qtw htv hz))) fun w54=>(Jt3∘Jr∘Jp 2∘Jj∘JZ∘Jz2) fun I=>by exact qr (y:=(⟨cp,cr,gA,gc,gs,lA,lc,cl,uA,uc,cu,some ⟨gtA,0,none⟩,tc,(ts.set k (t.put (⟨t.v,0,z⟩:En))),sA,sc,rs⟩:Stm)) 2 I rfl (qim hlns (by rw [List.length_set];exact hlt)) (qlb (x:=(⟨cp,cr,gA,gc,gs,lA,lc,cl,uA,uc,cu,some ⟨gtA,0,none⟩,tc,ts,sA,sc,rs⟩:Stm)) (decide_eq_true hd10) (decide_eq_true hd15) hk ht hoz))
theorem qnj (W w:World) (x:Stm) (gm:Nat) (ng nl nu nt ns:Nat) (hx:MdOk x ng nl nu nt ns) (o:Op30) (ho:o.Ok) (T:List Fact) (I:Mem W w (mdA gm x ng nl nu nt ns++T)):
    Calls Tryz.prog 64 #[vP gm 0,.agg o.cells] w (OpIs W gm T (qen x.sta o)):=by
 obtain ⟨cp,cr,gA,gc,gs,lA,lc,cl,uA,uc,cu,tA,tc,ts,sA,sc,rs⟩:=x
 replace I:Mem W w (fM gm cp cr gA ng gc lA nl lc uA nu uc tA nt tc sA ns sc::fG gA ng gc gs::fI lA nl lc cl::fI uA nu uc cu::fT tA nt tc ts::fS sA ns sc rs::(fR rs++(T))):=I
 obtain ⟨hlg,hll,hlu,hlt,hls⟩:=hx.ln
 replace hlg:gs.length=ng:=hlg;replace hll:cl.length=nl:=hll;replace hlu:cu.length=nu:=hlu;replace hlt:ts.length=nt:=hlt;replace hls:rs.length=ns:=hls
 have hlns:=hx.ln
 have hsp:SpsOk gs cp rs:=hx.spots
 have hrg:rs.length=gs.length:=hx.sh.rs
 have hcr:cr<18446744073709551616:=hx.ok.credit
 obtain ⟨hcp1,hcp2,_,hgs⟩:=zq hx.sh.cfg
 replace hcp1:1≤cp:=hcp1;replace hcp2:cp≤64:=hcp2;replace hgs:gsOk gs=true:=hgs
 have hgl1:=(qq hgs).1;have hgl2:=(qq hgs).2.1
 have hcll:(cl.length:Int)=cp:=hx.sh.cl;have hcul:(cu.length:Int)=cp:=hx.sh.cu
 have hfts:ts.length≤1000000:=hx.few.t
 have hoc:=ho.cpu;have hot:=ho.task;have hog:=ho.group;have how:=ho.weight;have hoto:=ho.to;have hotk:=ho.ticks;have hom:=ho.mask;have hok8:=ho.kind;unfold I64 at hoc hot hog how hoto hotk
 obtain ⟨gsA,rfl⟩:=qn (I.own (i:=5) rfl) om
 refine (Jin2 I Tryz.func64 103) ?_
 refine (JP∘JE) fun w3 g3=>(Jp 2∘Jj∘JQ∘JP∘Jg 2 O0∘JI (h:=by exact fun I=>qf5 o.task _)) fun w13 hbw=>(Jp 1∘Jd2∘Jj) (Ji' (fun hd14=>?_) fun hd14=>?_)
 ·
  exact (JT∘JP∘Jp 2∘Jj∘JZ∘Jz2) fun I=>by exact qr (y:=(⟨cp,cr,gA,gc,gs,lA,lc,cl,uA,uc,cu,tA,tc,ts,some ⟨gsA,0,none⟩,sc,rs⟩:Stm)) 1 I rfl hlns (if_pos (decide_eq_false hd14))
 refine (JF∘JS'∘JP∘Jp 1∘Jg 2 O0∘JI (h:=by exact fun I=>qex 1 I rfl hx o.task)) fun w18 hbw=>(Jp 1∘Jd3∘Jj∘JQ∘JB∘JP∘Jp 3∘Jd2∘Jj) (Ju (fun hb19=>?_) fun hb19=>?_)
 ·
  intro a Z I
  have hd19:=of_decide_eq_true hb19
  exact Jb Z I ((JT∘JP∘Jp 2∘Jj∘JZ∘Jz2) fun I=>by exact qr (y:=(⟨cp,cr,gA,gc,gs,lA,lc,cl,uA,uc,cu,tA,tc,ts,some ⟨gsA,0,none⟩,sc,rs⟩:Stm)) 1 I rfl hlns ((if_neg (nf (decide_eq_true hd14))).trans (if_pos (hd19))))
 intro a Z I
 have hd19:=of_decide_eq_false hb19
 obtain ⟨k,t,hk,ht,hkl,hkid⟩:=qhb hd19
 replace hk:fidx ts o.task=(k:Int):=hk;replace ht:ts[k]?=some t:=ht;replace hkl:k<ts.length:=hkl
 obtain ⟨htg,hto⟩:=hx.task ht
 have hti:=htg.id;have htgr:=htg.group;have htc:=htg.cpu;have htw:=htg.weight;have htv:=hto.v;have htr:=hto.r;have htm:=hto.mask
 replace htc:0≤t.cpu∧t.cpu<cp:=htc
 obtain ⟨gt,hgt⟩:∃n:Nat,t.group=(n:Int):=⟨t.group.toNat,by omega⟩
 obtain ⟨ct,hct⟩:∃n:Nat,t.cpu=(n:Int):=⟨t.cpu.toNat,by omega⟩
 obtain ⟨wt,hwt⟩:∃n:Nat,t.weight=(n:Int):=⟨t.weight.toNat,by omega⟩
 have hEo:(⟨t.v,t.r,wt⟩:En).Ok:=En.qh6 htg.ent hwt htv
 revert I;revert a;repeat (first|clear Z|clear I)
 intro a Z I
 obtain ⟨gtA,rfl⟩:=qn (I.own (i:=5) rfl) (Nat.lt_of_le_of_lt (Nat.zero_le _) (show k<nt from (by omega:k<nt)))
 refine Jb Z I ((JF∘JP∘Jp 1∘Jn∘Jf 0∘Jg 5 O1∘Jp 1∘Jo (vI k) (by rw [hk])∘Jy (h:=by exact Yl.ix0 gtA k 8 rfl rfl rfl)∘Jf 5∘Jy (v:= .bool t.ready) (h:=by exact Yl.qe rfl rfl kr (fun _ h=>h.qp qf (i:=5) rfl (k:=k) (off:=5) (x:=t) (ht) rfl))∘Jp 1∘Jd6∘Jj) (Ju (fun hb22=>?_) fun hb22=>?_))
 ·
  exact (JT∘JP∘Jp 2∘Jj∘JZ∘Jz2) fun I=>by exact qr (y:=(⟨cp,cr,gA,gc,gs,lA,lc,cl,uA,uc,cu,some ⟨gtA,0,none⟩,tc,ts,some ⟨gsA,0,none⟩,sc,rs⟩:Stm)) 1 I rfl hlns ((if_neg (nf (decide_eq_true hd14))).trans ((if_neg (hd19)).trans (if_pos (by rw [qcb (s:=Stm.sta (⟨cp,cr,gA,gc,gs,lA,lc,cl,uA,uc,cu,some ⟨gtA,0,none⟩,tc,ts,some ⟨gsA,0,none⟩,sc,rs⟩:Stm)) hk ht];exact hb22))))
 intro a Z I
 have hnr:t.ready=false:=by simpa using hb22
 obtain ⟨em,hem⟩:∃l,zf (⟨cp,cr,gA,gc,gs,lA,lc,cl,uA,uc,cu,some ⟨gtA,0,none⟩,tc,ts,some ⟨gsA,0,none⟩,sc,rs⟩:Stm).sta gt ct=l:=⟨_,rfl⟩
 have hemm:=fun h hh=>qj0 (x:=(⟨cp,cr,gA,gc,gs,lA,lc,cl,uA,uc,cu,some ⟨gtA,0,none⟩,tc,ts,some ⟨gsA,0,none⟩,sc,rs⟩:Stm)) hx (by omega:gt<ns) hem h hh
 have hemn:=qhh (x:=(⟨cp,cr,gA,gc,gs,lA,lc,cl,uA,uc,cu,some ⟨gtA,0,none⟩,tc,ts,some ⟨gsA,0,none⟩,sc,rs⟩:Stm)) hx (by omega:gt<ns) hem
 obtain ⟨⟨yA,yc,yl⟩,hy⟩:∃y,rs.getD gt Rw.zero=y:=⟨_,rfl⟩
 have hys:=hsp gt om;rw [hy] at hys
 have hyl:(yl.length:Int)=cp:=hys.1
 revert I;revert a;repeat (first|clear Z|clear I)
 intro a Z I
 obtain ⟨gy,rfl⟩:=I.rwSome 7 rfl om hy om
 obtain ⟨yz,hyz⟩:∃z,yl[ct]?=some z:=⟨_,List.getElem?_eq_getElem om⟩
 have hyo:=hys.2 yz (List.mem_of_getElem? hyz)
 have hyv:=hyo.1.v;have hyr:=hyo.1.r;have hyf:=hyo.1.floor
 obtain ⟨e,hew⟩:∃e,(⟨t.v,t.r,wt⟩:En).woken yz.floor cr=e:=⟨_,rfl⟩
 have heo:e.Ok∧e.w=wt:=by rw [←hew];exact En.qgb hEo _ _ hyf
 have hev:=heo.1.2;have her:=qfv heo.1.1
 refine Jb Z I ((JF∘JS'∘JP∘Jp 1∘Jn∘Jf 0∘Jg 5 O1∘Jp 1∘Jo (vI k) (by rw [hk])∘Jy (h:=by exact Yl.ix0 gtA k 8 rfl rfl rfl)∘Jp 1∘Jd6∘Jj) fun a Z I=>?_)
 refine wp_seq ?_
 refine Jb Z I ((Vs .n []) fun wd9=>(Vp [0,1,5]∘Vn 2∘Vf 3 1∘Vy 4 (v:=vI t.group) (h:=by exact Yl.qe rfl rfl kr (fun _ h=>h.qp qf (i:=5) rfl (k:=k) (off:=1) (x:=t) (ht) rfl))∘Vo (vI gt) (by rw [hgt])∘Vn 6∘Vf 7 3∘Vy 8 (v:=vI t.cpu) (h:=by exact Yl.qe rfl rfl kr (fun _ h=>h.qp qf (i:=5) rfl (k:=k) (off:=3) (x:=t) (ht) rfl))∘Vo (vI ct) (by rw [hct])∘VK 9 .n (h:=by exact fun I=>qjz 1 I rfl hx (by show ((ct:Nat):Int)<cp;omega) om hem)) fun A48 c48 w48 hc48=>(Vp [10]∘Vd∘Jd6) fun a Z I=>?_)
 refine zb (fun aS wS=>∃(g9:Nat),Fr aS 103 [] [(9,vP g9 0),(8,.slice A48 em.length c48),(7,vP gtA (k*8)),(22,.bool false),(19,.bool false),(6,vI (fidx ts o.task)),(14,.bool false),(5,vI 0),(4,vI 0),(3,vP g3 0),(0,vP gm 0)]∧Mem W wS (.blk g9 e.cells 168:: .row (.slice A48 em.length c48) em.length (em.map I64v) 3 1:: .blk g3 o.cells 98::fM gm cp cr gA ng gc lA nl lc uA nu uc (some ⟨gtA,0,none⟩) nt tc (some ⟨gsA,0,none⟩) ns sc::fG gA ng gc gs::fI lA nl lc cl::fI uA nu uc cu::fT (some ⟨gtA,0,none⟩) nt tc ts::fS (some ⟨gsA,0,none⟩) ns sc rs::(fR rs++(T)))) ?_ ?_
 ·
  refine Jb Z I ((Vs .n [42]) fun wd10=>(Vp [0,4,8,13,18,24,31]∘Vn 1∘Vf 2 6∘Vy 3 (v:=vQ t.v) (h:=by exact Yl.qe rfl rfl kr (fun _ h=>h.qp qf (i:=6) rfl (k:=k) (off:=6) (x:=t) (ht) rfl))∘Vn 5∘Vf 6 7∘Vy 7 (v:=vW t.r) (h:=by exact Yl.qe rfl rfl kr (fun _ h=>h.qp qf (i:=6) rfl (k:=k) (off:=7) (x:=t) (ht) rfl))∘Vn 9∘Vf 10 2∘Vy 11 (v:=vI t.weight) (h:=by exact Yl.qe rfl rfl kr (fun _ h=>h.qp qf (i:=6) rfl (k:=k) (off:=2) (x:=t) (ht) rfl))∘Vo (vI wt) (by rw [hwt])∘Vn 14∘Vf 15 0∘Vf 16 6∘Vc 17 O2∘Vn 19∘Vf 20 1∘Vy 21 (v:=vI t.group) (h:=by exact Yl.qe rfl rfl kr (fun _ h=>h.qp qf (i:=6) rfl (k:=k) (off:=1) (x:=t) (ht) rfl))∘Vo (vI gt) (by rw [hgt])∘Vy 22 (h:=by exact Yl.ix0 gsA gt 1 rfl rfl rfl)∘Vy 23 (v:= .slice ((rs.getD gt Rw.zero).A) ((rs.getD gt Rw.zero).l.length) ((rs.getD gt Rw.zero).c)) (h:=by exact Yl.r1 7 gt Rw.zero om rfl rfl rfl)∘Vo (vS gy yl.length yc) (by rw [hy])∘Vn 25∘Vf 26 3∘Vy 27 (v:=vI t.cpu) (h:=by exact Yl.qe rfl rfl kr (fun _ h=>h.qp qf (i:=6) rfl (k:=k) (off:=3) (x:=t) (ht) rfl))∘Vo (vI ct) (by rw [hct])∘Vy 28 (h:=by exact Yl.ix0 gy ct 3 rfl rfl rfl)∘Vf 29 2∘Vy 30 (v:=vQ yz.floor) (h:=by exact Yl.qe rfl rfl kr (fun _ h=>h.qb1 8 (j:=2) rfl om hy (hyz) rfl))∘Vn 32∘Vf 33 0∘Vf 34 0∘Vf 35 1∘Vc 36 O2) fun a Z I HS=>?_)
  refine qo [12,41] kr rfl ?_
  refine all_cons ?_ ?_
  ·refine qc Z (i:=12) rfl rfl ?_
   refine e_is Z I [vQ t.v,vW t.r,vI wt] (.agg #[vQ t.v,vW t.r,vW wt]) rfl rfl (qy t.v t.r (wt:Int) om _) fun w62 hbw I a Z=>?_
   refine keepS (I.pt 8 [0,1,2,3,4,5,6,7]) (fun HS=>?_)
   refine qo [37,41] kr rfl ?_
   refine all_cons ?_ ?_
   ·refine qc Z (i:=37) rfl rfl ?_
    refine e_is Z I [.agg #[vQ t.v,vW t.r,vW wt],vQ yz.floor,vQ cr] (.tuple #[.agg e.cells,vI 0]) rfl rfl (qds (⟨t.v,t.r,wt⟩:En) e hEo yz.floor cr hyf hcr hew _) fun w87 hbw I a Z=>?_
    refine keepS (I.pt 8 [0,1,2,3,4,5,6,7]) (fun HS=>?_)
    refine Vb Z I HS ((Vp [38]∘Vx 39∘Vx 40∘VA 41 .n #[vQ 0,vW 0,vW 0]) fun w9 g9=>fun a Z I HS=>?_)
    refine s_on Z 42 rfl (e_sa Z I 0 rfl rfl rfl rfl rfl qk rfl rfl (zk e) ?_)
    clear I;intro w10_42 I
    refine noS kr ?_
    refine ap Z (pastS kr) [43] (bt 44 []) [] fun a Z=>?_
    refine qb kr ?_
    replace Z:=Z.to [(9,vP g9 0),(8,.slice A48 em.length c48),(7,vP gtA (k*8)),(22,.bool false),(19,.bool false),(6,vI (fidx ts o.task)),(14,.bool false),(5,vI 0),(4,vI 0),(3,vP g3 0),(0,vP gm 0)]
    exact ⟨g9,Z.sub kr,I.pt 9 [0,1,2,3,4,5,6,7,8]⟩
   refine all_cons ?_ all_nil
   refine qc Z (i:=41) rfl rfl ?_
   refine s_ea Z I #[vQ 0,vW 0,vW 0] ?_
   clear Z I;intro a w9 g9 Z I
   refine keepS (I.pt 9 [1,2,3,4,5,6,7,8]) (fun HS=>?_)
   refine Vb Z I HS ((VI 37 (.f .n) (h:=by exact fun I=>qds (⟨t.v,t.r,wt⟩:En) e hEo yz.floor cr hyf hcr hew _)) fun w87 hbw=>(Vp [38]∘Vx 39∘Vx 40) fun a Z I HS=>?_)
   refine s_on Z 42 rfl (e_sa Z I 0 rfl rfl rfl rfl rfl qk rfl rfl (zk e) ?_)
   clear I;intro w10_42 I
   refine noS kr ?_
   refine ap Z (pastS kr) [43] (bt 44 []) [] fun a Z=>?_
   refine qb kr ?_
   replace Z:=Z.to [(9,vP g9 0),(8,.slice A48 em.length c48),(7,vP gtA (k*8)),(22,.bool false),(19,.bool false),(6,vI (fidx ts o.task)),(14,.bool false),(5,vI 0),(4,vI 0),(3,vP g3 0),(0,vP gm 0)]
   exact ⟨g9,Z.sub kr,I.pt 9 [0,1,2,3,4,5,6,7,8]⟩
  refine all_cons ?_ all_nil
  refine qc Z (i:=41) rfl rfl ?_
  refine s_ea Z I #[vQ 0,vW 0,vW 0] ?_
  clear Z I;intro a w9 g9 Z I
  refine keepS (I.pt 9 [1,2,3,4,5,6,7,8]) (fun HS=>?_)
  refine Vb Z I HS ((VI 12 (.f .n) (h:=by exact fun I=>qy t.v t.r (wt:Int) om _)) fun w62 hbw=>(VI 37 (.f .n) (h:=by exact fun I=>qds (⟨t.v,t.r,wt⟩:En) e hEo yz.floor cr hyf hcr hew _)) fun w87 hbw=>(Vp [38]∘Vx 39∘Vx 40) fun a Z I HS=>?_)
  refine s_on Z 42 rfl (e_sa Z I 0 rfl rfl rfl rfl rfl qk rfl rfl (zk e) ?_)
  clear I;intro w10_42 I
  refine noS kr ?_
  refine ap Z (pastS kr) [43] (bt 44 []) [] fun a Z=>?_
  refine qb kr ?_
  replace Z:=Z.to [(9,vP g9 0),(8,.slice A48 em.length c48),(7,vP gtA (k*8)),(22,.bool false),(19,.bool false),(6,vI (fidx ts o.task)),(14,.bool false),(5,vI 0),(4,vI 0),(3,vP g3 0),(0,vP gm 0)]
  exact ⟨g9,Z.sub kr,I.pt 9 [0,1,2,3,4,5,6,7,8]⟩
 clear Z I;rintro a w10 ⟨g9,Z,I⟩
 refine Jb Z I ((JP∘Jp 1∘Jy (v:= .agg e.cells) (h:=by exact Yl.loadS rfl rfl qk rfl (fun _ h=>qa (h.blk (i:=0) rfl)))∘JO (h:=by exact fun I=>qo1 t e O7' I ht hlt heo.1)) fun w92=>(Jt3∘Jr∘Jp 1∘Jn∘Jf 5) fun a Z I=>?_)
 refine fo Z 3 rfl rfl ?_
 refine q4 Z I (i:=7) rfl rfl rfl rfl kr rfl rfl (by rw [zt tkL 8 qf,List.length_set];omega) ?_
 clear I;intro w12_3 I
 replace I:=I.asRow (i:=7) (ys:=(ts.set k {t.put e with ready:=true}).flatMap tkL) rfl ((zu tkL 8 qf (ts.set k (t.put e)) k (t.put e) {t.put e with ready:=true} (qc0 ht) 5 de _ rfl).trans (by rw [List.set_set]))
 refine Jb Z I ((Jt3∘Jr∘Jp 3∘Jn∘Jf 3∘Jy (v:=vI (({t.put e with ready:=true}:Tk).cpu)) (h:=by exact Yl.qe rfl rfl kr (fun _ h=>h.qp qf (i:=7) rfl (k:=k) (off:=3) (x:=({t.put e with ready:=true}:Tk)) ((qc0 ht)) rfl))∘Jo (vI ct) (by rw [←hct];try rfl)∘JL (h:=by exact fun I=>qj1 3 I rfl (j:=1) rfl de (qim (ts':=ts.set k {t.put e with ready:=true}) hlns (by rw [List.length_set];exact hlt)) (hemm) (hemn) hgs hrg hsp hcr hcp2 (by show ((ct:Nat):Int)<cp;omega))) ?_)
 rintro I _ w102 ⟨rs2,rfl,hl2,hsp2,hst2,HM2⟩
 refine ⟨_,rfl,_,(show Mem W w102 (.blk g9 e.cells 168:: .row (.slice A48 em.length c48) em.length (em.map I64v) 3 1:: .blk g3 o.cells 98::fM gm cp cr gA ng gc lA nl lc uA nu uc (some ⟨gtA,0,none⟩) nt tc (some ⟨gsA,0,none⟩) ns sc::fG gA ng gc gs::fI lA nl lc cl::fI uA nu uc cu::fT (some ⟨gtA,0,none⟩) nt tc (ts.set k {t.put e with ready:=true})::fS (some ⟨gsA,0,none⟩) ns sc rs2::(fR rs2++(T))) from HM2),?_⟩
 exact (Jt6∘Jr∘Jp 2∘Jj∘JZ∘Jz2) fun I=>by exact qr (y:=(⟨cp,cr,gA,gc,gs,lA,lc,cl,uA,uc,cu,some ⟨gtA,0,none⟩,tc,(ts.set k {t.put e with ready:=true}),some ⟨gsA,0,none⟩,sc,rs2⟩:Stm)) 3 I rfl (qo2 (qim hlns (by rw [List.length_set];exact hlt)) hl2) ((qt1 (x:=(⟨cp,cr,gA,gc,gs,lA,lc,cl,uA,uc,cu,some ⟨gtA,0,none⟩,tc,ts,some ⟨gsA,0,none⟩,sc,rs⟩:Stm)) (decide_eq_true hd14) hk ht hnr hgt hct hwt (qca (x:=(⟨cp,cr,gA,gc,gs,lA,lc,cl,uA,uc,cu,some ⟨gtA,0,none⟩,tc,ts,some ⟨gsA,0,none⟩,sc,rs⟩:Stm)) (by show gt<rs.length;omega) hy hyz) hew hem).trans (by rw [←hst2]))
theorem qq6 (W w:World) (x:Stm) (gm:Nat) (ng nl nu nt ns:Nat) (hx:MdOk x ng nl nu nt ns) (o:Op30) (ho:o.Ok) (T:List Fact) (I:Mem W w (mdA gm x ng nl nu nt ns++T)):
    Calls Tryz.prog 67 #[vP gm 0,.agg o.cells] w (OpIs W gm T (pickS x.sta o)):=by
 obtain ⟨cp,cr,gA,gc,gs,lA,lc,cl,uA,uc,cu,tA,tc,ts,sA,sc,rs⟩:=x
 replace I:Mem W w (fM gm cp cr gA ng gc lA nl lc uA nu uc tA nt tc sA ns sc::fG gA ng gc gs::fI lA nl lc cl::fI uA nu uc cu::fT tA nt tc ts::fS sA ns sc rs::(fR rs++(T))):=I
 obtain ⟨hlg,hll,hlu,hlt,hls⟩:=hx.ln
 replace hlg:gs.length=ng:=hlg;replace hll:cl.length=nl:=hll;replace hlu:cu.length=nu:=hlu;replace hlt:ts.length=nt:=hlt;replace hls:rs.length=ns:=hls
 have hlns:=hx.ln
 have hsp:SpsOk gs cp rs:=hx.spots
 have hrg:rs.length=gs.length:=hx.sh.rs
 have hcr:cr<18446744073709551616:=hx.ok.credit
 obtain ⟨hcp1,hcp2,_,hgs⟩:=zq hx.sh.cfg
 replace hcp1:1≤cp:=hcp1;replace hcp2:cp≤64:=hcp2;replace hgs:gsOk gs=true:=hgs
 have hgl1:=(qq hgs).1;have hgl2:=(qq hgs).2.1
 have hcll:(cl.length:Int)=cp:=hx.sh.cl;have hcul:(cu.length:Int)=cp:=hx.sh.cu
 have hfts:ts.length≤1000000:=hx.few.t
 have hoc:=ho.cpu;have hot:=ho.task;have hog:=ho.group;have how:=ho.weight;have hoto:=ho.to;have hotk:=ho.ticks;have hom:=ho.mask;have hok8:=ho.kind;unfold I64 at hoc hot hog how hoto hotk
 obtain ⟨guA,rfl⟩:=qn (I.own (i:=3) rfl) om
 refine (Jin2 I Tryz.func67 32) ?_
 refine (JP∘JE) fun w3 g3=>(Jp 2∘Jj∘JQ∘JP∘Jp 1∘Jg 1 O0∘JI (h:=by exact fun I=>qil 1 I rfl hx o.cpu)) fun w9 hbw=>(Jp 1∘Jd3∘Jj) (Ju (fun hb10=>?_) fun hb10=>?_)
 ·
  intro a Z I
  have hd10:=of_decide_eq_false ((Bool.not_eq_true' _).mp hb10)
  exact Jb Z I ((JT∘JP∘Jp 2∘Jj∘JZ∘Jz2) fun I=>by exact qr (y:=(⟨cp,cr,gA,gc,gs,lA,lc,cl,some ⟨guA,0,none⟩,uc,cu,tA,tc,ts,sA,sc,rs⟩:Stm)) 1 I rfl hlns (if_pos (decide_eq_false hd10)))
 intro a Z I
 have hd10:=of_decide_eq_true ((Bool.not_eq_false' _).mp hb10)
 replace hd10:0≤o.cpu∧o.cpu<cp:=hd10
 obtain ⟨c,hcc⟩:∃n:Nat,o.cpu=(n:Int):=⟨o.cpu.toNat,by omega⟩
 have hccp:((c:Nat):Int)<cp:=by omega
 refine Jb Z I ((JF∘JS') fun a Z I=>?_)
 refine wp_seq ?_
 refine Jb Z I ((Vs .n [12]) fun wd3=>(Vp [0]∘Vf 5 1∘Vp [7]∘Vf 8 1∘Vn 1∘Vf 2 0∘Vf 3 4∘Vc 4 O1∘Vc 6 O0∘Vo (vI c) (by rw [hcc])∘Vc 9 O0∘Vo (vI c) (by rw [hcc])∘VI 10 .n (h:=by exact fun I=>qxk 1 I rfl hx (by show ((c:Nat):Int)<cp;omega))) fun w21 hbw=>(Vy 11 (h:=by exact Yl.ix0 guA c 1 rfl rfl rfl)) fun a Z I HS=>?_)
 refine s_on Z 12 rfl ?_
 refine q4 Z I (i:=4) rfl rfl rfl rfl kr rfl rfl (by rw [List.length_map];omega) ?_
 clear I;intro w3_12 I
 replace I:=I.asRow (i:=4) (ys:=(cu.set c (z9 (⟨cp,cr,gA,gc,gs,lA,lc,cl,some ⟨guA,0,none⟩,uc,cu,tA,tc,ts,sA,sc,rs⟩:Stm).sta c:Int)).map I64i) rfl (qc7 I64i cu c (z9 (⟨cp,cr,gA,gc,gs,lA,lc,cl,some ⟨guA,0,none⟩,uc,cu,tA,tc,ts,sA,sc,rs⟩:Stm).sta c:Int) om)
 refine noS kr ?_
 refine qb kr ?_
 refine wp_seq ?_
 exact Jb Z I ((Vs .n []) fun wd4=>(Vp [0]∘Vf 5 1∘Vn 1∘Vf 2 0∘Vf 3 4∘Vc 4 O1∘Vc 6 O0∘Vo (vI c) (by rw [hcc])∘Vy 7 (h:=by exact Yl.ix0 guA c 1 rfl rfl rfl)∘Vy 8 (v:=vI (z9 (⟨cp,cr,gA,gc,gs,lA,lc,cl,some ⟨guA,0,none⟩,uc,cu,tA,tc,ts,sA,sc,rs⟩:Stm).sta c)) (h:=by exact Yl.qe rfl rfl kr (fun _ h=>h.qzn (i:=4) rfl (k:=c) (qn9 (F:=I64i) (k:=c) (x:=(z9 (⟨cp,cr,gA,gc,gs,lA,lc,cl,some ⟨guA,0,none⟩,uc,cu,tA,tc,ts,sA,sc,rs⟩:Stm).sta c:Int)) ((List.getElem?_set_self om)))))∘Vp [9,10]∘Vd∘JZ∘Jz2) fun I=>by exact qr (y:=(⟨cp,cr,gA,gc,gs,lA,lc,cl,some ⟨guA,0,none⟩,uc,(cu.set c (z9 (⟨cp,cr,gA,gc,gs,lA,lc,cl,some ⟨guA,0,none⟩,uc,cu,tA,tc,ts,sA,sc,rs⟩:Stm).sta c:Int)),tA,tc,ts,sA,sc,rs⟩:Stm)) 1 I rfl ⟨hlns.g,hlns.l,by show (cu.set _ _).length=nu;rw [List.length_set];exact hlu,hlns.t,hlns.s⟩ (qw2 (x:=(⟨cp,cr,gA,gc,gs,lA,lc,cl,some ⟨guA,0,none⟩,uc,cu,tA,tc,ts,sA,sc,rs⟩:Stm)) hcc (decide_eq_true hd10)))
theorem qfk (x e:En) (hx:x.Ok) (d:Nat) (hd:d≤4294967295) (he:x.add d=e) (w:World):Calls Tryz.prog 114 #[.agg x.cells,vI d] w (Is w (.tuple #[.agg e.cells,vI 0])):=he▸qw1 x hx d hd w
theorem qo7 {W w:World} {F T:List Fact} {x:Stm} {ng nl nu nt ns gm:Nat} (n:Nat) (I:Mem W w F) (he:F.drop n=mdA gm x ng nl nu nt ns++T) (hx:MdOk x ng nl nu nt ns) (id:Int) (k:Nat) (hk:fidx x.ts id=(k:Int)):Calls Tryz.prog 83 #[vP gm 0,vI id] w (Is w (vI k)):=hk▸qex n I he hx id
theorem qxn {x:Stm} {ng nl nu nt ns c:Nat} (h:MdOk x ng nl nu nt ns) (v:Int) (hv:0≤v∧v≤281474976710656):MdOk ({x with cl:=x.cl.set c v}:Stm) ng nl nu nt ns:=by
 refine ⟨⟨h.ok.cpus,h.ok.credit,h.ok.gs,fun z hz=>?_,h.ok.cu,h.ok.ts,h.ok.sp⟩,⟨h.few.g,by show (x.cl.set c v).length≤_;rw [List.length_set];exact h.few.l,h.few.u,h.few.t,h.few.s,h.few.r⟩,⟨h.sh.cfg,by show ((x.cl.set c v).length:Int)=_;rw [List.length_set];exact h.sh.cl,h.sh.cu,h.sh.rs,fun d hd=>?_,h.sh.row,h.sh.tk⟩,⟨h.ln.g,by show (x.cl.set c v).length=_;rw [List.length_set];exact h.ln.l,h.ln.u,h.ln.t,h.ln.s⟩⟩
 ·rcases List.mem_or_eq_of_mem_set hz with h1|rfl
  ·exact h.ok.cl z h1
  ·unfold I64;omega
 ·have hd':d<(x.cl.set c v).length:=hd
  show clOk ((x.cl.set c v).getD d 0)=true
  rw [List.length_set] at hd'
  by_cases e:c=d
  ·subst e
   rw [qi _ _ hd']
   unfold clOk
   rw [decide_eq_true hv]
  ·rw [getD_set_ne _ _ e]
   exact h.sh.cls d hd'
theorem qlr {x:Stm} {c:Nat} (h:curOk x.sta c=true) (h0:x.cu.getD c 0≠0):∃(k:Nat) (t:Tk),fidx x.ts (x.cu.getD c 0)=(k:Int)∧x.ts[k]?=some t∧k<x.ts.length∧t.id=x.cu.getD c 0:=by
 refine qhb fun hf=>?_
 rw [qif h0 (qto hf)] at h
 cases h
theorem qq7 (W w:World) (x:Stm) (gm:Nat) (ng nl nu nt ns:Nat) (hx:MdOk x ng nl nu nt ns) (o:Op30) (ho:o.Ok) (T:List Fact) (I:Mem W w (mdA gm x ng nl nu nt ns++T)) (hcur:∀c,c<x.cu.length→curOk x.sta c=true):
    Calls Tryz.prog 66 #[vP gm 0,.agg o.cells] w (OpIs W gm T (tickS x.sta o)):=by
 obtain ⟨cp,cr,gA,gc,gs,lA,lc,cl,uA,uc,cu,tA,tc,ts,sA,sc,rs⟩:=x
 replace I:Mem W w (fM gm cp cr gA ng gc lA nl lc uA nu uc tA nt tc sA ns sc::fG gA ng gc gs::fI lA nl lc cl::fI uA nu uc cu::fT tA nt tc ts::fS sA ns sc rs::(fR rs++(T))):=I
 obtain ⟨hlg,hll,hlu,hlt,hls⟩:=hx.ln
 replace hlg:gs.length=ng:=hlg;replace hll:cl.length=nl:=hll;replace hlu:cu.length=nu:=hlu;replace hlt:ts.length=nt:=hlt;replace hls:rs.length=ns:=hls
 have hlns:=hx.ln
 have hsp:SpsOk gs cp rs:=hx.spots
 have hrg:rs.length=gs.length:=hx.sh.rs
 have hcr:cr<18446744073709551616:=hx.ok.credit
 obtain ⟨hcp1,hcp2,_,hgs⟩:=zq hx.sh.cfg
 replace hcp1:1≤cp:=hcp1;replace hcp2:cp≤64:=hcp2;replace hgs:gsOk gs=true:=hgs
 have hgl1:=(qq hgs).1;have hgl2:=(qq hgs).2.1
 have hcll:(cl.length:Int)=cp:=hx.sh.cl;have hcul:(cu.length:Int)=cp:=hx.sh.cu
 have hfts:ts.length≤1000000:=hx.few.t
 have hoc:=ho.cpu;have hot:=ho.task;have hog:=ho.group;have how:=ho.weight;have hoto:=ho.to;have hotk:=ho.ticks;have hom:=ho.mask;have hok8:=ho.kind;unfold I64 at hoc hot hog how hoto hotk
 have hcuo:=hx.ok.cu;have hclo:=hx.ok.cl
 have hcls:=hx.sh.cls
 obtain ⟨ggA,rfl⟩:=qn (I.own (i:=1) rfl) om
 obtain ⟨glA,rfl⟩:=qn (I.own (i:=2) rfl) om
 obtain ⟨guA,rfl⟩:=qn (I.own (i:=3) rfl) om
 obtain ⟨gsA,rfl⟩:=qn (I.own (i:=5) rfl) om
 refine (Jin2 I Tryz.func66 158) ?_
 refine (JP∘JE) fun w3 g3=>(Jp 2∘Jr∘Jp 1∘Jn∘Jf 0∘Jp 1∘Jd3∘Jj∘JQ∘JB∘JP∘Jp 1∘Jg 1 O0∘JI (h:=by exact fun I=>qil 1 I rfl hx o.cpu)) fun w22 hbw=>(Jp 2∘Jd4∘Jj) (Ju (fun hb18=>?_) fun hb18=>?_)
 ·
  intro a Z I
  have hd18:=of_decide_eq_false ((Bool.not_eq_true' _).mp hb18)
  exact Jb Z I ((JT∘JP∘Jp 2∘Jj∘JZ∘Jz2) fun I=>by exact qr (y:=(⟨cp,cr,some ⟨ggA,0,none⟩,gc,gs,some ⟨glA,0,none⟩,lc,cl,some ⟨guA,0,none⟩,uc,cu,tA,tc,ts,some ⟨gsA,0,none⟩,sc,rs⟩:Stm)) 1 I rfl hlns (if_pos (decide_eq_false hd18)))
 intro a Z I
 have hd18:=of_decide_eq_true ((Bool.not_eq_false' _).mp hb18)
 replace hd18:0≤o.cpu∧o.cpu<cp:=hd18
 obtain ⟨c,hcc⟩:∃n:Nat,o.cpu=(n:Int):=⟨o.cpu.toNat,by omega⟩
 have hccp:((c:Nat):Int)<cp:=by omega
 have hclb:=hcls c (by show c<cl.length;omega);replace hclb:0≤(cl.getD c 0)∧(cl.getD c 0)≤281474976710656:=by unfold clOk at hclb;simpa using hclb
 obtain ⟨v,hv⟩:∃z,(cl.getD c 0)=z:=⟨_,rfl⟩
 rw [hv] at hclb
 refine Jb Z I ((JF∘JP∘Jg 6 O0∘Jp 2) (Ji (fun hd28=>?_) fun hd28=>?_))
 ·
  exact (Jp 5∘Jd6∘Jj∘JT∘JP∘Jp 2∘Jj∘JZ∘Jz2) fun I=>by exact qr (y:=(⟨cp,cr,some ⟨ggA,0,none⟩,gc,gs,some ⟨glA,0,none⟩,lc,cl,some ⟨guA,0,none⟩,uc,cu,tA,tc,ts,some ⟨gsA,0,none⟩,sc,rs⟩:Stm)) 1 I rfl hlns ((if_neg (nf (decide_eq_true hd18))).trans (if_pos om))
 refine (Jg 6 O0∘Jp 3∘Jd6∘Jj) (Ju (fun hb24=>?_) fun hb24=>?_)
 ·
  intro a Z I
  have hd24:=of_decide_eq_true hb24
  exact Jb Z I ((JT∘JP∘Jp 2∘Jj∘JZ∘Jz2) fun I=>by exact qr (y:=(⟨cp,cr,some ⟨ggA,0,none⟩,gc,gs,some ⟨glA,0,none⟩,lc,cl,some ⟨guA,0,none⟩,uc,cu,tA,tc,ts,some ⟨gsA,0,none⟩,sc,rs⟩:Stm)) 1 I rfl hlns ((if_neg (nf (decide_eq_true hd18))).trans (if_pos om)))
 intro a Z I
 have hd24:=of_decide_eq_false hb24
 have htk:1≤o.ticks∧o.ticks≤4294967295:=by omega
 obtain ⟨d,hod⟩:∃n:Nat,o.ticks=(n:Int):=⟨o.ticks.toNat,by omega⟩
 have hd0:d≤4294967295:=by omega
 refine Jb Z I ((JF) fun a Z I=>?_)
 refine wp_seq ?_
 refine Jb Z I ((Vs .n []) fun wd6=>(Vp [0]∘Vf 4 1∘Vf 8 6∘Vn 1∘Vf 2 3∘Vc 3 O1∘Vc 5 O0∘Vo (vI c) (by rw [hcc])∘Vy 6 (h:=by exact Yl.ix0 glA c 1 rfl rfl rfl)∘Vy 7 (v:=vI (cl.getD c 0)) (h:=by exact Yl.r1 3 c 0 om rfl rfl rfl)∘Vo (vI v) (by rw [hv])∘Vc 9 O0∘Vo (vI d) (by rw [hod])∘Vp [10]∘Vo (vI (v+d)) (by exact qcg ⟨by omega,by omega⟩)∘Vp [11,12]∘Vd∘Jd6) (Ju (fun hb33=>?_) fun hb33=>?_))
 ·
  intro a Z I
  have hd33:=of_decide_eq_true hb33
  exact Jb Z I ((JT∘JP∘Jp 2∘Jj∘JZ∘Jz2) fun I=>by exact qr (y:=(⟨cp,cr,some ⟨ggA,0,none⟩,gc,gs,some ⟨glA,0,none⟩,lc,cl,some ⟨guA,0,none⟩,uc,cu,tA,tc,ts,some ⟨gsA,0,none⟩,sc,rs⟩:Stm)) 1 I rfl hlns ((if_neg (nf (decide_eq_true hd18))).trans ((if_neg om).trans (if_pos (by show 281474976710656<cl.getD o.cpu.toNat 0+o.ticks;rw [hcc,Int.toNat_natCast,hv];omega)))))
 intro a Z I
 have hd33:=of_decide_eq_false hb33
 obtain ⟨id,hid⟩:∃z,cu.getD c 0=z:=⟨_,rfl⟩
 have hxk:=qxn (x:=(⟨cp,cr,some ⟨ggA,0,none⟩,gc,gs,some ⟨glA,0,none⟩,lc,cl,some ⟨guA,0,none⟩,uc,cu,tA,tc,ts,some ⟨gsA,0,none⟩,sc,rs⟩:Stm)) (c:=c) hx (v+d) ⟨by omega,by omega⟩
 have hidI:I64 id:=by rw [←hid];exact hcuo _ (qd 0 (by show c<cu.length;omega))
 unfold I64 at hidI
 refine Jb Z I ((JF∘JS') fun a Z I=>?_)
 refine wp_seq ?_
 refine Jb Z I ((Vs .n [12]) fun wd8=>(Vp [0]∘Vf 4 1∘Vf 8 6∘Vn 1∘Vf 2 3∘Vc 3 O1∘Vc 5 O0∘Vo (vI c) (by rw [hcc])∘Vy 6 (h:=by exact Yl.ix0 glA c 1 rfl rfl rfl)∘Vy 7 (v:=vI (cl.getD c 0)) (h:=by exact Yl.r1 3 c 0 om rfl rfl rfl)∘Vo (vI v) (by rw [hv])∘Vc 9 O0∘Vo (vI d) (by rw [hod])∘Vp [10]∘Vo (vI (v+d)) (by exact qcg ⟨by omega,by omega⟩)∘Vy 11 (h:=by exact Yl.ix0 glA c 1 rfl rfl rfl)) fun a Z I HS=>?_)
 refine s_on Z 12 rfl ?_
 refine q4 Z I (i:=3) rfl rfl rfl rfl kr rfl rfl (by rw [List.length_map];omega) ?_
 clear I;intro w8_12 I
 replace I:=I.asRow (i:=3) (ys:=(cl.set c (v+d)).map I64i) rfl (qc7 I64i cl c (v+d) om)
 refine noS kr ?_
 refine qb kr ?_
 refine wp_seq ?_
 refine Jb Z I ((Vs .n []) fun wd9=>(Vp [0]∘Vf 4 1∘Vn 1∘Vf 2 4∘Vc 3 O1∘Vc 5 O0∘Vo (vI c) (by rw [hcc])∘Vy 6 (h:=by exact Yl.ix0 guA c 1 rfl rfl rfl)∘Vy 7 (v:=vI (cu.getD c 0)) (h:=by exact Yl.r1 4 c 0 om rfl rfl rfl)∘Vo (vI id) (by rw [hid])∘Vp [8]∘Vd∘Jd6∘JQ∘JP∘Jp 2∘Jd1∘Jj) (Ju (fun hb67=>?_) fun hb67=>?_))
 ·
  intro a Z I
  have hd67:=eq_of_beq hb67
  exact Jb Z I ((JT∘JP∘Jp 2∘Jj∘JZ∘Jz2) fun I=>by exact qr (y:=(⟨cp,cr,some ⟨ggA,0,none⟩,gc,gs,some ⟨glA,0,none⟩,lc,(cl.set c (v+d)),some ⟨guA,0,none⟩,uc,cu,tA,tc,ts,some ⟨gsA,0,none⟩,sc,rs⟩:Stm)) 1 I rfl ⟨hlns.g,by show (cl.set _ _).length=nl;rw [List.length_set];exact hll,hlns.u,hlns.t,hlns.s⟩ ((qt2 (x:=(⟨cp,cr,some ⟨ggA,0,none⟩,gc,gs,some ⟨glA,0,none⟩,lc,cl,some ⟨guA,0,none⟩,uc,cu,tA,tc,ts,some ⟨gsA,0,none⟩,sc,rs⟩:Stm)) (decide_eq_true hd18) htk hcc hv om (hid.trans om)).trans (by rw [hod])))
 intro a Z I
 have hd67:=ne_of_beq_false hb67
 have hid0:id≠0:=by omega
 have hcuk:=qlr (x:=(⟨cp,cr,some ⟨ggA,0,none⟩,gc,gs,some ⟨glA,0,none⟩,lc,cl,some ⟨guA,0,none⟩,uc,cu,tA,tc,ts,some ⟨gsA,0,none⟩,sc,rs⟩:Stm)) (hcur c (by show c<cu.length;omega)) (by show cu.getD c 0≠0;rw [hid];exact hid0)
 rw [show (⟨cp,cr,some ⟨ggA,0,none⟩,gc,gs,some ⟨glA,0,none⟩,lc,cl,some ⟨guA,0,none⟩,uc,cu,tA,tc,ts,some ⟨gsA,0,none⟩,sc,rs⟩:Stm).cu.getD c 0=id from hid] at hcuk
 obtain ⟨k,t,hk,ht,hkl,hkid⟩:=hcuk
 replace hk:fidx ts id=(k:Int):=hk;replace ht:ts[k]?=some t:=ht;replace hkl:k<ts.length:=hkl
 obtain ⟨htg,hto⟩:=hx.task ht
 have hti:=htg.id;have htgr:=htg.group;have htc:=htg.cpu;have htw:=htg.weight;have htv:=hto.v;have htr:=hto.r;have htm:=hto.mask
 replace htc:0≤t.cpu∧t.cpu<cp:=htc
 obtain ⟨gt,hgt⟩:∃n:Nat,t.group=(n:Int):=⟨t.group.toNat,by omega⟩
 obtain ⟨ct,hct⟩:∃n:Nat,t.cpu=(n:Int):=⟨t.cpu.toNat,by omega⟩
 obtain ⟨wt,hwt⟩:∃n:Nat,t.weight=(n:Int):=⟨t.weight.toNat,by omega⟩
 have hEo:(⟨t.v,t.r,wt⟩:En).Ok:=En.qh6 htg.ent hwt htv
 obtain ⟨e,hew⟩:∃e,(⟨t.v,t.r,wt⟩:En).add d=e:=⟨_,rfl⟩
 have heo:e.Ok∧e.w=wt:=by rw [←hew];exact En.qpy hEo d
 revert I;revert a;repeat (first|clear Z|clear I)
 intro a Z I
 obtain ⟨gtA,rfl⟩:=qn (I.own (i:=5) rfl) (Nat.lt_of_le_of_lt (Nat.zero_le _) (show k<nt from (by omega:k<nt)))
 refine Jb Z I ((JF∘JS') fun a Z I=>?_)
 refine wp_seq ?_
 refine Jb Z I ((Vs .n []) fun wd12=>(Vp [0,4,5]∘Vn 1∘Vf 2 5∘Vc 3 O1∘VI 6 .n (h:=by exact fun I=>qo7 1 I rfl hxk id k hk)) fun w74 hbw=>(Vy 7 (h:=by exact Yl.ix0 gtA k 8 rfl rfl rfl)∘Vp [8]∘Vd∘Jd6) fun a Z I=>?_)
 refine zb (fun aS wS=>∃(g9:Nat),Fr aS 158 [] [(9,vP g9 0),(8,vP gtA (k*8)),(67,.bool false),(7,vI id),(33,.bool false),(24,.bool false),(18,.bool false),(6,vP gm 0),(5,vI 0),(4,vI 0),(3,vP g3 0),(0,vP gm 0)]∧Mem W wS (.blk g9 e.cells 168:: .blk g3 o.cells 98::fM gm cp cr (some ⟨ggA,0,none⟩) ng gc (some ⟨glA,0,none⟩) nl lc (some ⟨guA,0,none⟩) nu uc (some ⟨gtA,0,none⟩) nt tc (some ⟨gsA,0,none⟩) ns sc::fG (some ⟨ggA,0,none⟩) ng gc gs::fI (some ⟨glA,0,none⟩) nl lc (cl.set c (v+d))::fI (some ⟨guA,0,none⟩) nu uc cu::fT (some ⟨gtA,0,none⟩) nt tc ts::fS (some ⟨gsA,0,none⟩) ns sc rs::(fR rs++(T)))) ?_ ?_
 ·
  refine Jb Z I ((Vs .n [20]) fun wd13=>(Vp [0,4,8]∘Vf 13 6∘Vn 1∘Vf 2 6∘Vy 3 (v:=vQ t.v) (h:=by exact Yl.qe rfl rfl kr (fun _ h=>h.qp qf (i:=5) rfl (k:=k) (off:=6) (x:=t) (ht) rfl))∘Vn 5∘Vf 6 7∘Vy 7 (v:=vW t.r) (h:=by exact Yl.qe rfl rfl kr (fun _ h=>h.qp qf (i:=5) rfl (k:=k) (off:=7) (x:=t) (ht) rfl))∘Vn 9∘Vf 10 2∘Vy 11 (v:=vI t.weight) (h:=by exact Yl.qe rfl rfl kr (fun _ h=>h.qp qf (i:=5) rfl (k:=k) (off:=2) (x:=t) (ht) rfl))∘Vo (vI wt) (by rw [hwt])∘Vc 14 O0∘Vo (vI d) (by rw [hod])) fun a Z I HS=>?_)
  refine qo [12,19] kr rfl ?_
  refine all_cons ?_ ?_
  ·refine qc Z (i:=12) rfl rfl ?_
   refine e_is Z I [vQ t.v,vW t.r,vI wt] (.agg #[vQ t.v,vW t.r,vW wt]) rfl rfl (qy t.v t.r (wt:Int) om _) fun w89 hbw I a Z=>?_
   refine keepS (I.pt 7 [0,1,2,3,4,5,6]) (fun HS=>?_)
   refine qo [15,19] kr rfl ?_
   refine all_cons ?_ ?_
   ·refine qc Z (i:=15) rfl rfl ?_
    refine e_is Z I [.agg #[vQ t.v,vW t.r,vW wt],vI d] (.tuple #[.agg e.cells,vI 0]) rfl rfl (qfk (⟨t.v,t.r,wt⟩:En) e hEo d hd0 hew _) fun w92 hbw I a Z=>?_
    refine keepS (I.pt 7 [0,1,2,3,4,5,6]) (fun HS=>?_)
    refine Vb Z I HS ((Vp [16]∘Vx 17∘Vx 18∘VA 19 .n #[vQ 0,vW 0,vW 0]) fun w9 g9=>fun a Z I HS=>?_)
    refine s_on Z 20 rfl (e_sa Z I 0 rfl rfl rfl rfl rfl qk rfl rfl (zk e) ?_)
    clear I;intro w13_20 I
    refine noS kr ?_
    refine ap Z (pastS kr) [21] (bt 22 []) [] fun a Z=>?_
    refine qb kr ?_
    replace Z:=Z.to [(9,vP g9 0),(8,vP gtA (k*8)),(67,.bool false),(7,vI id),(33,.bool false),(24,.bool false),(18,.bool false),(6,vP gm 0),(5,vI 0),(4,vI 0),(3,vP g3 0),(0,vP gm 0)]
    exact ⟨g9,Z.sub kr,I.pt 8 [0,1,2,3,4,5,6,7]⟩
   refine all_cons ?_ all_nil
   refine qc Z (i:=19) rfl rfl ?_
   refine s_ea Z I #[vQ 0,vW 0,vW 0] ?_
   clear Z I;intro a w9 g9 Z I
   refine keepS (I.pt 8 [1,2,3,4,5,6,7]) (fun HS=>?_)
   refine Vb Z I HS ((VI 15 (.f .n) (h:=by exact fun I=>qfk (⟨t.v,t.r,wt⟩:En) e hEo d hd0 hew _)) fun w92 hbw=>(Vp [16]∘Vx 17∘Vx 18) fun a Z I HS=>?_)
   refine s_on Z 20 rfl (e_sa Z I 0 rfl rfl rfl rfl rfl qk rfl rfl (zk e) ?_)
   clear I;intro w13_20 I
   refine noS kr ?_
   refine ap Z (pastS kr) [21] (bt 22 []) [] fun a Z=>?_
   refine qb kr ?_
   replace Z:=Z.to [(9,vP g9 0),(8,vP gtA (k*8)),(67,.bool false),(7,vI id),(33,.bool false),(24,.bool false),(18,.bool false),(6,vP gm 0),(5,vI 0),(4,vI 0),(3,vP g3 0),(0,vP gm 0)]
   exact ⟨g9,Z.sub kr,I.pt 8 [0,1,2,3,4,5,6,7]⟩
  refine all_cons ?_ all_nil
  refine qc Z (i:=19) rfl rfl ?_
  refine s_ea Z I #[vQ 0,vW 0,vW 0] ?_
  clear Z I;intro a w9 g9 Z I
  refine keepS (I.pt 8 [1,2,3,4,5,6,7]) (fun HS=>?_)
  refine Vb Z I HS ((VI 12 (.f .n) (h:=by exact fun I=>qy t.v t.r (wt:Int) om _)) fun w89 hbw=>(VI 15 (.f .n) (h:=by exact fun I=>qfk (⟨t.v,t.r,wt⟩:En) e hEo d hd0 hew _)) fun w92 hbw=>(Vp [16]∘Vx 17∘Vx 18) fun a Z I HS=>?_)
  refine s_on Z 20 rfl (e_sa Z I 0 rfl rfl rfl rfl rfl qk rfl rfl (zk e) ?_)
  clear I;intro w13_20 I
  refine noS kr ?_
  refine ap Z (pastS kr) [21] (bt 22 []) [] fun a Z=>?_
  refine qb kr ?_
  replace Z:=Z.to [(9,vP g9 0),(8,vP gtA (k*8)),(67,.bool false),(7,vI id),(33,.bool false),(24,.bool false),(18,.bool false),(6,vP gm 0),(5,vI 0),(4,vI 0),(3,vP g3 0),(0,vP gm 0)]
  exact ⟨g9,Z.sub kr,I.pt 8 [0,1,2,3,4,5,6,7]⟩
 clear Z I;rintro a w13 ⟨g9,Z,I⟩
 refine Jb Z I ((JP∘Jp 1∘Jy (v:= .agg e.cells) (h:=by exact Yl.loadS rfl rfl qk rfl (fun _ h=>qa (h.blk (i:=0) rfl)))∘JO (h:=by exact fun I=>qo1 t e O6' I ht hlt heo.1)) fun w97=>(Jt3∘Jj∘JQ∘JP∘Jp 1∘Jn∘Jf 1∘Jy (v:=vI ((t.put e).group)) (h:=by exact Yl.qe rfl rfl kr (fun _ h=>h.qp qf (i:=6) rfl (k:=k) (off:=1) (x:=(t.put e)) ((qc0 ht)) rfl))∘Jo (vI gt) (by rw [←hgt];try rfl)∘Jp 1∘Jd4∘Jj∘JB) fun a Z I=>?_)
 refine qj (fun mS aS wS=>∃(g:Nat) (rs2:List Rw),(g<ns)∧(rs2.length=ns)∧(SpsOk gs cp rs2)∧(qfh c d g (⟨cp,cr,some ⟨ggA,0,none⟩,gc,gs,some ⟨glA,0,none⟩,lc,cl.set c (v+d),some ⟨guA,0,none⟩,uc,cu,some ⟨gtA,0,none⟩,tc,ts.set k (t.put e),some ⟨gsA,0,none⟩,sc,rs2⟩:Stm).sta=qfh c d gt (⟨cp,cr,some ⟨ggA,0,none⟩,gc,gs,some ⟨glA,0,none⟩,lc,cl.set c (v+d),some ⟨guA,0,none⟩,uc,cu,some ⟨gtA,0,none⟩,tc,ts.set k (t.put e),some ⟨gsA,0,none⟩,sc,rs⟩:Stm).sta)∧mS=0+g∧Fr aS 158 [] [(11,vI g),(9,vP g9 0),(8,vP gtA (k*8)),(67,.bool false),(7,vI id),(33,.bool false),(24,.bool false),(18,.bool false),(6,vP gm 0),(5,vI 0),(4,vI 0),(3,vP g3 0),(0,vP gm 0)]∧Mem W wS (.blk g9 e.cells 168:: .blk g3 o.cells 98::fM gm cp cr (some ⟨ggA,0,none⟩) ng gc (some ⟨glA,0,none⟩) nl lc (some ⟨guA,0,none⟩) nu uc (some ⟨gtA,0,none⟩) nt tc (some ⟨gsA,0,none⟩) ns sc::fG (some ⟨ggA,0,none⟩) ng gc gs::fI (some ⟨glA,0,none⟩) nl lc (cl.set c (v+d))::fI (some ⟨guA,0,none⟩) nu uc cu::fT (some ⟨gtA,0,none⟩) nt tc (ts.set k (t.put e))::fS (some ⟨gsA,0,none⟩) ns sc rs2::(fR rs2++(T)))) (m:=0+gt) ⟨gt,rs,by omega,hls,hsp,rfl,rfl,Z.sub kr,I.pt 8 [0,1,2,3,4,5,6,7]⟩ ?_
 clear Z I;rintro mS a w_ ⟨g,rs2,hg,hl2,hsp2,hst2,rfl,Z,I⟩
 refine Jb Z I ((JQ∘JP∘Jp 2∘Jd1∘Jj) (Ju (fun hb103=>?_) fun hb103=>?_))
 ·
  intro a Z I
  have hd103:=of_decide_eq_true hb103
  have hg0:0<g:=by omega
  obtain ⟨⟨yA,yc,yl⟩,hy⟩:∃y,rs2.getD g Rw.zero=y:=⟨_,rfl⟩
  have hys:=hsp2 g om;rw [hy] at hys
  have hyl:(yl.length:Int)=cp:=hys.1
  revert I;revert a;repeat (first|clear Z|clear I)
  intro a Z I
  obtain ⟨gy,rfl⟩:=I.rwSome 8 rfl om hy om
  obtain ⟨yz,hyz⟩:∃z,yl[c]?=some z:=⟨_,List.getElem?_eq_getElem om⟩
  have hyo:=hys.2 yz (List.mem_of_getElem? hyz)
  have hyv:=hyo.1.v;have hyr:=hyo.1.r;have hyf:=hyo.1.floor
  have hpb:=qam hgs (g:=g) om g hg0 (Nat.le_refl _)
  unfold ParB at hpb
  obtain ⟨p,hpp⟩:∃p:Nat,(gs.getD g Gr.zero).parent=(p:Int):=⟨(gs.getD g Gr.zero).parent.toNat,by omega⟩
  have hpg:p<g:=by omega
  obtain ⟨zw,hzw,hzw1,hzw2⟩:=qck hgs (g:=g) om
  have hFo:(⟨yz.v,yz.r,zw⟩:En).Ok:=En.qh6 hyo.2 hzw hyo.1.v
  obtain ⟨f,hfw⟩:∃e,(⟨yz.v,yz.r,zw⟩:En).add d=e:=⟨_,rfl⟩
  have hfo:f.Ok∧f.w=zw:=by rw [←hfw];exact En.qpy hFo d
  have hfv:=hfo.1.2;have hfr:f.r<4294967296:=by have:=qfv hfo.1.1;omega
  refine Jb Z I ((JT∘JS'∘JQ∘JB) fun a Z I=>?_)
  refine wp_seq ?_
  refine Jb Z I ((Vs .n []) fun wd18=>(Vp [0,4]∘Vf 7 1∘Vn 1∘Vf 2 6∘Vc 3 O2∘Vy 5 (h:=by exact Yl.ix0 gsA g 1 rfl rfl rfl)∘Vy 6 (v:= .slice ((rs2.getD g Rw.zero).A) ((rs2.getD g Rw.zero).l.length) ((rs2.getD g Rw.zero).c)) (h:=by exact Yl.r1 7 g Rw.zero om rfl rfl rfl)∘Vo (vS gy yl.length yc) (by rw [hy])∘Vc 8 O1∘Vo (vI c) (by rw [hcc])∘Vy 9 (h:=by exact Yl.ix0 gy c 3 rfl rfl rfl)∘Vp [10]∘Vd∘Jd6) fun a Z I=>?_)
  refine zb (fun aS wS=>∃(g13:Nat),Fr aS 158 [] [(13,vP g13 0),(12,vP gy (c*3)),(103,.bool true),(11,vI g),(9,vP g9 0),(8,vP gtA (k*8)),(67,.bool false),(7,vI id),(33,.bool false),(24,.bool false),(18,.bool false),(6,vP gm 0),(5,vI 0),(4,vI 0),(3,vP g3 0),(0,vP gm 0)]∧Mem W wS (.blk g13 f.cells 168:: .blk g9 e.cells 168:: .blk g3 o.cells 98::fM gm cp cr (some ⟨ggA,0,none⟩) ng gc (some ⟨glA,0,none⟩) nl lc (some ⟨guA,0,none⟩) nu uc (some ⟨gtA,0,none⟩) nt tc (some ⟨gsA,0,none⟩) ns sc::fG (some ⟨ggA,0,none⟩) ng gc gs::fI (some ⟨glA,0,none⟩) nl lc (cl.set c (v+d))::fI (some ⟨guA,0,none⟩) nu uc cu::fT (some ⟨gtA,0,none⟩) nt tc (ts.set k (t.put e))::fS (some ⟨gsA,0,none⟩) ns sc rs2::(fR rs2++(T)))) ?_ ?_
  ·
   refine Jb Z I ((Vs .n [25]) fun wd19=>(Vp [0,4,8,13]∘Vf 18 6∘Vn 1∘Vf 2 0∘Vy 3 (v:=vQ yz.v) (h:=by exact Yl.qe rfl rfl kr (fun _ h=>h.qb1 8 (j:=0) rfl om hy (hyz) rfl))∘Vn 5∘Vf 6 1∘Vy 7 (v:=vW yz.r) (h:=by exact Yl.qe rfl rfl kr (fun _ h=>h.qb1 8 (j:=1) rfl om hy (hyz) rfl))∘Vn 9∘Vf 10 0∘Vf 11 2∘Vc 12 O2∘Vy 14 (h:=by exact Yl.ix0 ggA g 2 rfl rfl rfl)∘Vf 15 1∘Vy 16 (v:=vI ((gs.getD g Gr.zero).weight)) (h:=by exact Yl.qe rfl rfl kr (fun _ h=>h.qp zm (i:=3) rfl (k:=g) (off:=1) (x:=(gs.getD g Gr.zero)) ((getD_at Gr.zero om)) rfl))∘Vo (vI zw) (by rw [hzw])∘Vc 19 O1∘Vo (vI d) (by rw [hod])) fun a Z I HS=>?_)
   refine qo [17,24] kr rfl ?_
   refine all_cons ?_ ?_
   ·refine qc Z (i:=17) rfl rfl ?_
    refine e_is Z I [vQ yz.v,vW yz.r,vI zw] (.agg #[vQ yz.v,vW yz.r,vW zw]) rfl rfl (qy yz.v yz.r (zw:Int) om _) fun w141 hbw I a Z=>?_
    refine keepS (I.pt 8 [0,1,2,3,4,5,6,7]) (fun HS=>?_)
    refine qo [20,24] kr rfl ?_
    refine all_cons ?_ ?_
    ·refine qc Z (i:=20) rfl rfl ?_
     refine e_is Z I [.agg #[vQ yz.v,vW yz.r,vW zw],vI d] (.tuple #[.agg f.cells,vI 0]) rfl rfl (qfk (⟨yz.v,yz.r,zw⟩:En) f hFo d hd0 hfw _) fun w144 hbw I a Z=>?_
     refine keepS (I.pt 8 [0,1,2,3,4,5,6,7]) (fun HS=>?_)
     refine Vb Z I HS ((Vp [21]∘Vx 22∘Vx 23∘VA 24 .n #[vQ 0,vW 0,vW 0]) fun w13 g13=>fun a Z I HS=>?_)
     refine s_on Z 25 rfl (e_sa Z I 0 rfl rfl rfl rfl rfl qk rfl rfl (zk f) ?_)
     clear I;intro w19_25 I
     refine noS kr ?_
     refine ap Z (pastS kr) [26] (bt 27 []) [] fun a Z=>?_
     refine qb kr ?_
     exact ⟨g13,Z.sub kr,I.pt 9 [0,1,2,3,4,5,6,7,8]⟩
    refine all_cons ?_ all_nil
    refine qc Z (i:=24) rfl rfl ?_
    refine s_ea Z I #[vQ 0,vW 0,vW 0] ?_
    clear Z I;intro a w13 g13 Z I
    refine keepS (I.pt 9 [1,2,3,4,5,6,7,8]) (fun HS=>?_)
    refine Vb Z I HS ((VI 20 (.f .n) (h:=by exact fun I=>qfk (⟨yz.v,yz.r,zw⟩:En) f hFo d hd0 hfw _)) fun w144 hbw=>(Vp [21]∘Vx 22∘Vx 23) fun a Z I HS=>?_)
    refine s_on Z 25 rfl (e_sa Z I 0 rfl rfl rfl rfl rfl qk rfl rfl (zk f) ?_)
    clear I;intro w19_25 I
    refine noS kr ?_
    refine ap Z (pastS kr) [26] (bt 27 []) [] fun a Z=>?_
    refine qb kr ?_
    exact ⟨g13,Z.sub kr,I.pt 9 [0,1,2,3,4,5,6,7,8]⟩
   refine all_cons ?_ all_nil
   refine qc Z (i:=24) rfl rfl ?_
   refine s_ea Z I #[vQ 0,vW 0,vW 0] ?_
   clear Z I;intro a w13 g13 Z I
   refine keepS (I.pt 9 [1,2,3,4,5,6,7,8]) (fun HS=>?_)
   refine Vb Z I HS ((VI 17 (.f .n) (h:=by exact fun I=>qy yz.v yz.r (zw:Int) om _)) fun w141 hbw=>(VI 20 (.f .n) (h:=by exact fun I=>qfk (⟨yz.v,yz.r,zw⟩:En) f hFo d hd0 hfw _)) fun w144 hbw=>(Vp [21]∘Vx 22∘Vx 23) fun a Z I HS=>?_)
   refine s_on Z 25 rfl (e_sa Z I 0 rfl rfl rfl rfl rfl qk rfl rfl (zk f) ?_)
   clear I;intro w19_25 I
   refine noS kr ?_
   refine ap Z (pastS kr) [26] (bt 27 []) [] fun a Z=>?_
   refine qb kr ?_
   exact ⟨g13,Z.sub kr,I.pt 9 [0,1,2,3,4,5,6,7,8]⟩
  clear Z I;rintro a w19 ⟨g13,Z,I⟩
  refine qks I [.blk g13 f.cells 168,.blk g9 e.cells 168,.blk g3 o.cells 98,fM gm cp cr (some ⟨ggA,0,none⟩) ng gc (some ⟨glA,0,none⟩) nl lc (some ⟨guA,0,none⟩) nu uc (some ⟨gtA,0,none⟩) nt tc (some ⟨gsA,0,none⟩) ns sc,fG (some ⟨ggA,0,none⟩) ng gc gs,fI (some ⟨glA,0,none⟩) nl lc (cl.set c (v+d)),fI (some ⟨guA,0,none⟩) nu uc cu,fT (some ⟨gtA,0,none⟩) nt tc (ts.set k (t.put e))] [0,1,2,3,4,5,6,7] [11] fun I HS=>?_
  refine ap Z (fun _=>HS) [0,1,2,4] (bf 12 [0,1,2,4]) [(151,vP g13 1),(149,vP g13 0),(148,vP gy (c*3)),(147,vP gy (c*3))] fun a Z=>?_
  refine s_ac Z HS 3 0 (v:=vQ f.v) fun a Z=>?_
  refine s_ac Z HS 5 0 (v:=vW f.r) fun a Z=>?_
  refine s_am Z HS 6 fun a Z=>?_
  refine ap Z (fun _=>HS) [7] (bt 12 [8,9,10,11]) [(154,vP gy (c*3))] fun a Z=>?_
  refine s_on Z 8 rfl ?_
  refine qar Z I 8 (c:=c) 0 ({yz with v:=f.v}) rfl rfl rfl rfl kr rfl rfl om (hy) (hyz) rfl de rfl ?_
  clear I;intro w20_8 I
  replace I:Mem W w20_8 (.blk g13 f.cells 168:: .blk g9 e.cells 168:: .blk g3 o.cells 98::fM gm cp cr (some ⟨ggA,0,none⟩) ng gc (some ⟨glA,0,none⟩) nl lc (some ⟨guA,0,none⟩) nu uc (some ⟨gtA,0,none⟩) nt tc (some ⟨gsA,0,none⟩) ns sc::fG (some ⟨ggA,0,none⟩) ng gc gs::fI (some ⟨glA,0,none⟩) nl lc (cl.set c (v+d))::fI (some ⟨guA,0,none⟩) nu uc cu::fT (some ⟨gtA,0,none⟩) nt tc (ts.set k (t.put e))::fS (some ⟨gsA,0,none⟩) ns sc (rsPut rs2 g c ({yz with v:=f.v}))::(fR (rsPut rs2 g c ({yz with v:=f.v}))++(T))):=I
  refine keepS (I.pk [0,1,2,3,4,5,6,7]) (fun HS=>?_)
  refine s_an Z (fun _=>HS) 9 fun a Z=>?_
  refine ap Z (fun _=>HS) [10] (bt 12 [11]) [(156,vP gy (c*3+1))] fun a Z=>?_
  refine s_on Z 11 rfl ?_
  refine qar Z I 8 (c:=c) 1 ({yz with v:=f.v,r:=f.r}) rfl rfl rfl rfl kr rfl rfl (by first|omega|(rw [qt];omega)) (qg9 om hy) (qc0 hyz) rfl de rfl ?_
  clear I;intro w20_11 I
  replace I:Mem W w20_11 (.blk g13 f.cells 168:: .blk g9 e.cells 168:: .blk g3 o.cells 98::fM gm cp cr (some ⟨ggA,0,none⟩) ng gc (some ⟨glA,0,none⟩) nl lc (some ⟨guA,0,none⟩) nu uc (some ⟨gtA,0,none⟩) nt tc (some ⟨gsA,0,none⟩) ns sc::fG (some ⟨ggA,0,none⟩) ng gc gs::fI (some ⟨glA,0,none⟩) nl lc (cl.set c (v+d))::fI (some ⟨guA,0,none⟩) nu uc cu::fT (some ⟨gtA,0,none⟩) nt tc (ts.set k (t.put e))::fS (some ⟨gsA,0,none⟩) ns sc (rsPut (rsPut rs2 g c ({yz with v:=f.v})) g c ({yz with v:=f.v,r:=f.r}))::(fR (rsPut (rsPut rs2 g c ({yz with v:=f.v})) g c ({yz with v:=f.v,r:=f.r}))++(T))):=I
  rw [qew (by first|omega|(rw [qt];omega))] at I
  refine noS kr ?_
  refine qb kr ?_
  refine Jb Z I ((JG∘JR∘Jp 1∘Jn∘Jf 0∘Jg 2 O3∘Jp 1∘Jy (h:=by exact Yl.ix0 ggA g 2 rfl rfl rfl)∘Jf 0∘Jy (v:=vI ((gs.getD g Gr.zero).parent)) (h:=by exact Yl.qe rfl rfl kr (fun _ h=>(by have:=h.qp zm (i:=4) rfl (k:=g) (off:=0) (x:=(gs.getD g Gr.zero)) ((getD_at Gr.zero om)) rfl;simpa using this)))∘Jo (vI p) (by rw [hpp])∘Jp 1∘Jd6∘Jq) fun a Z I=>?_)
  exact ⟨_,om,p,(rsPut rs2 g c {yz with v:=f.v,r:=f.r}),by omega,by rw [qt];exact hl2,hsp2.put {yz with v:=f.v,r:=f.r} ⟨hfv,hfr,hyo.1.floor⟩ (by rw [hzw];have:=hfo.1.1;rw [hfo.2] at this;exact this),by rw [←hst2,qld (c:=c) (d:=d) (g:=g) (p:=p) (qam hgs om) hg0 hpp,qnf (x:=(⟨cp,cr,some ⟨ggA,0,none⟩,gc,gs,some ⟨glA,0,none⟩,lc,(cl.set c (v+d)),some ⟨guA,0,none⟩,uc,cu,some ⟨gtA,0,none⟩,tc,(ts.set k (t.put e)),some ⟨gsA,0,none⟩,sc,rs2⟩:Stm)) (by show g<rs2.length;omega) hy hyz hzw hfw],rfl,Z.sub kr,I.pt 9 [1,2,3,4,5,6,7,8]⟩
 intro a Z I
 have hd103:=of_decide_eq_false hb103
 exact Jb Z I ((JF∘JX∘JG∘JP∘Jp 3∘Jj∘JZ∘Jz2) fun I=>by exact qr (y:=(⟨cp,cr,some ⟨ggA,0,none⟩,gc,gs,some ⟨glA,0,none⟩,lc,(cl.set c (v+d)),some ⟨guA,0,none⟩,uc,cu,some ⟨gtA,0,none⟩,tc,(ts.set k (t.put e)),some ⟨gsA,0,none⟩,sc,rs2⟩:Stm)) 2 I rfl ⟨hlns.g,by show (cl.set _ _).length=nl;rw [List.length_set];exact hll,hlns.u,by show (ts.set _ _).length=nt;rw [List.length_set];exact hlt,hl2⟩ ((qw3 (x:=(⟨cp,cr,some ⟨ggA,0,none⟩,gc,gs,some ⟨glA,0,none⟩,lc,cl,some ⟨guA,0,none⟩,uc,cu,some ⟨gtA,0,none⟩,tc,ts,some ⟨gsA,0,none⟩,sc,rs⟩:Stm)) (decide_eq_true hd18) htk hcc hod hv om hid hid0 hk ht hgt hwt hew).trans (by rw [←show qfh c d g (⟨cp,cr,some ⟨ggA,0,none⟩,gc,gs,some ⟨glA,0,none⟩,lc,cl.set c (v+d),some ⟨guA,0,none⟩,uc,cu,some ⟨gtA,0,none⟩,tc,ts.set k (t.put e),some ⟨gsA,0,none⟩,sc,rs2⟩:Stm).sta=_ from hst2,show g=0 by omega];rfl)))
theorem qj2 (x e:En) (hx:x.Ok) (fr to:Nat) (hf:fr<18446744073709551616) (ht:to<18446744073709551616) (he:x.moved fr to=e) (w:World):Calls Tryz.prog 147 #[.agg x.cells,vQ fr,vQ to] w (Is w (.tuple #[.agg e.cells,vI 0])):=he▸qtz x hx fr to hf ht w
def IdxIs (w:World) (l:List Int) (v:Int) (r:Ending) (w':World):Prop:=(∃i:Int,r= .returned (vI i)∧decide (i≥0)=decide (v∈l))∧Below w.heap.size w w'
theorem qq8 {w w':World} {l:List Int} {v:Int} {k:Nat} (hk:k<l.length) (h:l.getD k 0=v) (hb:Below w.heap.size w w'):IdxIs w l v (.returned (vI k)) w':=⟨⟨k,rfl,decide_eq_decide.2 ⟨fun _=>h▸qd 0 hk,fun _=>by omega⟩⟩,hb⟩
theorem qq9 {w w':World} {l:List Int} {v:Int} (h:∀i,i<l.length→l.getD i 0≠v) (hb:Below w.heap.size w w'):IdxIs w l v (.returned (vI (-1))) w':=by
 refine ⟨⟨-1,rfl,decide_eq_decide.2 ⟨fun h1=>by omega,fun h1=>?_⟩⟩,hb⟩
 obtain ⟨i,hi,rfl⟩:=List.getElem_of_mem h1
 exact absurd (by rw [List.getD_eq_getElem?_getD,List.getElem?_eq_getElem hi];rfl) (h i hi)
theorem q02 {l:List Int} {v:Int} {k:Nat} (h:∀i,i<k→l.getD i 0≠v) (hk:l.getD k 0≠v):∀i,i<k+1→l.getD i 0≠v:=fun i hi=>by
 rcases Nat.lt_or_ge i k with h1|h1
 ·exact h i h1
 ·obtain rfl:i=k:=by omega
  exact hk
theorem qza {m c:Nat} {s:Nat} {v:Int} (hs:s=m) (hc:v=(c:Int)) (h:¬(m/2^c)%2=1):bitOn s v=false:=by
 subst hs;subst hc
 unfold bitOn
 rw [Int.toNat_natCast,decide_eq_false h]
theorem qnk {m c:Nat} {v:Int} (hc:v=(c:Int)) (h:(m/2^c)%2=1):bitOn m v=true:=by
 subst hc
 unfold bitOn
 rw [Int.toNat_natCast,decide_eq_true h]
theorem qj3 (W w:World) (x:Stm) (gm:Nat) (ng nl nu nt ns:Nat) (hx:MdOk x ng nl nu nt ns) (o:Op30) (ho:o.Ok) (T:List Fact) (I:Mem W w (mdA gm x ng nl nu nt ns++T)):
    Calls Tryz.prog 69 #[vP gm 0,.agg o.cells] w (OpIs W gm T (qbd x.sta o)):=by
 obtain ⟨cp,cr,gA,gc,gs,lA,lc,cl,uA,uc,cu,tA,tc,ts,sA,sc,rs⟩:=x
 replace I:Mem W w (fM gm cp cr gA ng gc lA nl lc uA nu uc tA nt tc sA ns sc::fG gA ng gc gs::fI lA nl lc cl::fI uA nu uc cu::fT tA nt tc ts::fS sA ns sc rs::(fR rs++(T))):=I
 obtain ⟨hlg,hll,hlu,hlt,hls⟩:=hx.ln
 replace hlg:gs.length=ng:=hlg;replace hll:cl.length=nl:=hll;replace hlu:cu.length=nu:=hlu;replace hlt:ts.length=nt:=hlt;replace hls:rs.length=ns:=hls
 have hlns:=hx.ln
 have hsp:SpsOk gs cp rs:=hx.spots
 have hrg:rs.length=gs.length:=hx.sh.rs
 have hcr:cr<18446744073709551616:=hx.ok.credit
 obtain ⟨hcp1,hcp2,_,hgs⟩:=zq hx.sh.cfg
 replace hcp1:1≤cp:=hcp1;replace hcp2:cp≤64:=hcp2;replace hgs:gsOk gs=true:=hgs
 have hgl1:=(qq hgs).1;have hgl2:=(qq hgs).2.1
 have hcll:(cl.length:Int)=cp:=hx.sh.cl;have hcul:(cu.length:Int)=cp:=hx.sh.cu
 have hfts:ts.length≤1000000:=hx.few.t
 have hoc:=ho.cpu;have hot:=ho.task;have hog:=ho.group;have how:=ho.weight;have hoto:=ho.to;have hotk:=ho.ticks;have hom:=ho.mask;have hok8:=ho.kind;unfold I64 at hoc hot hog how hoto hotk
 obtain ⟨ggA,rfl⟩:=qn (I.own (i:=1) rfl) om
 obtain ⟨gsA,rfl⟩:=qn (I.own (i:=5) rfl) om
 refine (Jin2 I Tryz.func69 102) ?_
 refine (JP∘JE) fun w3 g3=>(Jp 2∘Jr∘Jp 1∘Jn∘Jf 0∘Jp 1∘Jd3∘Jj∘JQ∘JB) fun a Z I=>?_
 refine zb (fun aS wS=>Fr aS 102 [] [(14,.bool (!(decide (1≤o.group∧o.group<rs.length)))),(6,vP gm 0),(5,vI 0),(4,vI 0),(3,vP g3 0)]∧Mem W wS (.blk g3 o.cells 98::fM gm cp cr (some ⟨ggA,0,none⟩) ng gc lA nl lc uA nu uc tA nt tc (some ⟨gsA,0,none⟩) ns sc::fG (some ⟨ggA,0,none⟩) ng gc gs::fI lA nl lc cl::fI uA nu uc cu::fT tA nt tc ts::fS (some ⟨gsA,0,none⟩) ns sc rs::(fR rs++(T)))) ?_ ?_
 ·
  refine Jb Z I ((Vs .n []) fun wd2=>(Vf 0 3∘Vc 1 O0∘Vp [2,3]) fun a Z I HS=>?_)
  rcases Z.tf 18 rfl with ⟨hb18,Z⟩|⟨hb18,Z⟩
  ·
   have hd18:=of_decide_eq_true hb18
   refine Vb Z I HS ((Vq [4,5,6,7,8,9,10,11,12,13] [(14,.bool true)]∘Vd∘Jd5) fun a Z I=>?_)
   have Z:=Z.sp 14 (.bool (!(decide (1≤o.group∧o.group<rs.length)))) rfl (congrArg Value.bool (by rw [decide_eq_false om];rfl))
   exact ⟨Z.sub kr,I.pt 7 [0,1,2,3,4,5,6]⟩
  have hd18:=of_decide_eq_false hb18
  refine ap Z (fun _=>HS) [4,6] (bf 14 [0,1,2,3,4,6]) [(21,vP gm 0),(19,vP g3 3)] fun a Z=>?_
  refine s_ac Z HS 5 0 (v:=vI o.group) fun a Z=>?_
  refine s_am Z HS 7 fun a Z=>?_
  refine ap Z (fun _=>HS) [8] (bt 14 [9,10,11,12,13]) [(23,vP gm 6)] fun a Z=>?_
  refine s_ac Z HS 9 1 fun a Z=>?_
  refine s_al Z HS 10 fun a Z=>?_
  refine ap Z (fun _=>HS) [11,12,13] (bt 14 []) [(14,.bool (decide ((o.group:Int)≥(ns:Int))))] fun a Z=>?_
  refine qb kr ?_
  have Z:=Z.sp 14 (.bool (!(decide (1≤o.group∧o.group<rs.length)))) rfl (congrArg Value.bool (by rw [←decide_not];exact decide_eq_decide.2 om))
  exact ⟨Z.sub kr,I.pt 7 [0,1,2,3,4,5,6]⟩
 clear Z I;rintro a w2 ⟨Z,I⟩
 refine Jb Z I (Ji' (fun hd14=>?_) fun hd14=>?_)
 ·
  exact (JT∘JP∘Jp 2∘Jj∘JZ∘Jz2) fun I=>by exact qr (y:=(⟨cp,cr,some ⟨ggA,0,none⟩,gc,gs,lA,lc,cl,uA,uc,cu,tA,tc,ts,some ⟨gsA,0,none⟩,sc,rs⟩:Stm)) 1 I rfl hlns (if_pos (by show ¬(1≤o.group∧o.group<((rs.map Rw.l).length:Nat));rw [List.length_map];exact hd14))
 refine (JF∘JP∘Jg 4 O0∘JL (h:=by exact fun I=>qbz o.weight _)) ?_
 rintro I _ w31 ⟨rfl,hbw⟩
 refine ⟨_,rfl,_,I.call hbw,?_⟩
 refine (Jp 2∘Jd3∘Jj) (Ju (fun hb28=>?_) fun hb28=>?_)
 ·
  intro a Z I
  have hd28:=of_decide_eq_false ((Bool.not_eq_true' _).mp hb28)
  exact Jb Z I ((JT∘JP∘Jp 2∘Jj∘JZ∘Jz2) fun I=>by exact qr (y:=(⟨cp,cr,some ⟨ggA,0,none⟩,gc,gs,lA,lc,cl,uA,uc,cu,tA,tc,ts,some ⟨gsA,0,none⟩,sc,rs⟩:Stm)) 1 I rfl hlns ((if_neg (by show ¬¬(1≤o.group∧o.group<((rs.map Rw.l).length:Nat));rw [List.length_map];omega)).trans (if_pos (decide_eq_false hd28))))
 intro a Z I
 have hd28:=of_decide_eq_true ((Bool.not_eq_false' _).mp hb28)
 have hgb:1≤o.group∧o.group<rs.length:=by omega
 obtain ⟨z,hoz⟩:∃n:Nat,o.weight=(n:Int):=⟨o.weight.toNat,by omega⟩
 have hz:1≤z∧z≤65536:=by omega
 obtain ⟨g,hgg⟩:∃n:Nat,o.group=(n:Int):=⟨o.group.toNat,by omega⟩
 obtain ⟨⟨yA,yc,yl⟩,hy⟩:∃y,rs.getD g Rw.zero=y:=⟨_,rfl⟩
 have hys:=hsp g om;rw [hy] at hys
 have hyl:(yl.length:Int)=cp:=hys.1
 obtain ⟨gr,hgr⟩:∃z,gs[g]?=some z:=⟨_,List.getElem?_eq_getElem om⟩
 obtain ⟨zw,hzw,hzw1,hzw2⟩:=qck hgs (g:=g) om
 have hgrd:=zy Gr.zero hgr
 rw [hgrd] at hzw
 revert I;revert a;repeat (first|clear Z|clear I)
 intro a Z I
 obtain ⟨gy,rfl⟩:=I.rwSome 7 rfl om hy om
 refine Jb Z I ((JF∘JS'∘JQ) fun a Z I=>?_)
 refine wp_seq ?_
 refine Jb Z I ((Vs .n []) fun wd6=>(Vp [0]∘Vf 4 3∘Vp [9]∘Vn 1∘Vf 2 6∘Vc 3 O1∘Vc 5 O0∘Vo (vI g) (by rw [hgg])∘Vy 6 (h:=by exact Yl.ix0 gsA g 1 rfl rfl rfl)∘Vy 7 (v:= .slice ((rs.getD g Rw.zero).A) ((rs.getD g Rw.zero).l.length) ((rs.getD g Rw.zero).c)) (h:=by exact Yl.r1 6 g Rw.zero om rfl rfl rfl)∘Vo (vS gy yl.length yc) (by rw [hy])∘Vl 8∘Vd∘Jd6∘JB) fun a Z I=>?_)
 refine qj (fun mS aS wS=>∃(c:Nat) (rs2:List Rw),(c≤yl.length)∧(rs2.length=ns)∧(rs2=(rs.set g ⟨some ⟨gy,0,none⟩,yc,upd r0 yl c⟩))∧mS=yl.length-c∧Fr aS 102 [] [(41,vI yl.length),(42,vI c),(28,.bool false),(14,.bool false),(6,vP gm 0),(5,vI 0),(4,vI 0),(3,vP g3 0)]∧Mem W wS (.blk g3 o.cells 98::fM gm cp cr (some ⟨ggA,0,none⟩) ng gc lA nl lc uA nu uc tA nt tc (some ⟨gsA,0,none⟩) ns sc::fG (some ⟨ggA,0,none⟩) ng gc gs::fI lA nl lc cl::fI uA nu uc cu::fT tA nt tc ts::fS (some ⟨gsA,0,none⟩) ns sc rs2::(fR rs2++(T)))) (m:=yl.length-0) ⟨0,rs,Nat.zero_le _,hls,by rw [qw4,←hy];exact (qg2 _ om).symm,rfl,Z.sub kr,I.pt 7 [0,1,2,3,4,5,6]⟩ ?_
 clear Z I;rintro mS a w_ ⟨c,rs2,hc,hl2,hr2,rfl,Z,I⟩
 refine Jb Z I ((JP∘Jp 1∘Jj∘JQ) (Ju (fun hb43=>?_) fun hb43=>?_))
 ·
  intro a Z I
  have hd43:=of_decide_eq_true hb43
  have hc43:c<yl.length:=by omega
  obtain ⟨yz,hyz⟩:∃z,yl[c]?=some z:=⟨_,List.getElem?_eq_getElem om⟩
  have hyz2:=(q0w r0 (Nat.le_refl c)).trans hyz
  have hyo:=hys.2 yz (List.mem_of_getElem? hyz)
  rw [hgrd] at hyo
  have hyv:=hyo.1.v;have hyr:=hyo.1.r
  have hFo:(⟨yz.v,yz.r,zw⟩:En).Ok:=En.qh6 hyo.2 hzw hyo.1.v
  have hy2:rs2.getD g Rw.zero=⟨some ⟨gy,0,none⟩,yc,upd r0 yl c⟩:=by rw [hr2];exact qi _ _ om
  refine Jb Z I ((JT∘JS'∘JQ∘JB∘JP∘Jp 2∘Jd1∘Jj) fun a Z I=>?_)
  refine wp_seq ?_
  refine Jb Z I ((Vs .n []) fun wd9=>(Vp [0]∘Vf 4 3∘Vp [8]∘Vn 1∘Vf 2 6∘Vc 3 O1∘Vc 5 O0∘Vo (vI g) (by rw [hgg])∘Vy 6 (h:=by exact Yl.ix0 gsA g 1 rfl rfl rfl)∘Vy 7 (v:= .slice ((rs2.getD g Rw.zero).A) ((rs2.getD g Rw.zero).l.length) ((rs2.getD g Rw.zero).c)) (h:=by exact Yl.r1 6 g Rw.zero om rfl rfl rfl)∘Vo (vS gy yl.length yc) (by rw [hy2];show Value.slice _ (upd r0 yl c).length _=_;rw [q0u])∘Vy 9 (h:=by exact Yl.ix0 gy c 3 rfl rfl rfl)∘Vp [10]∘Vd∘Jd6) fun a Z I=>?_)
  refine zb (fun aS wS=>∃(g9:Nat),Fr aS 102 [] [(9,vP g9 0),(8,vP gy (c*3)),(7,vI c),(43,.bool true),(41,vI yl.length),(42,vI c),(28,.bool false),(14,.bool false),(6,vP gm 0),(5,vI 0),(4,vI 0),(3,vP g3 0)]∧Mem W wS (.blk g9 ((⟨yz.v,0,z⟩:En).cells) 168:: .blk g3 o.cells 98::fM gm cp cr (some ⟨ggA,0,none⟩) ng gc lA nl lc uA nu uc tA nt tc (some ⟨gsA,0,none⟩) ns sc::fG (some ⟨ggA,0,none⟩) ng gc gs::fI lA nl lc cl::fI uA nu uc cu::fT tA nt tc ts::fS (some ⟨gsA,0,none⟩) ns sc rs2::(fR rs2++(T)))) ?_ ?_
  ·
   refine Jb Z I ((Vs .n [26]) fun wd10=>(Vp [0,4,8]∘Vf 13 3∘Vf 19 4∘Vn 1∘Vf 2 0∘Vy 3 (v:=vQ yz.v) (h:=by exact Yl.qe rfl rfl kr (fun _ h=>h.qb1 7 (j:=0) rfl om hy2 (hyz2) rfl))∘Vn 5∘Vf 6 1∘Vy 7 (v:=vW yz.r) (h:=by exact Yl.qe rfl rfl kr (fun _ h=>h.qb1 7 (j:=1) rfl om hy2 (hyz2) rfl))∘Vn 9∘Vf 10 0∘Vf 11 2∘Vc 12 O1∘Vc 14 O0∘Vo (vI g) (by rw [hgg])∘Vy 15 (h:=by exact Yl.ix0 ggA g 2 rfl rfl rfl)∘Vf 16 1∘Vy 17 (v:=vI gr.weight) (h:=by exact Yl.qe rfl rfl kr (fun _ h=>h.qp zm (i:=2) rfl (k:=g) (off:=1) (x:=gr) (hgr) rfl))∘Vo (vI zw) (by rw [hzw])∘Vc 20 O0∘Vo (vI z) (by rw [hoz])) fun a Z I HS=>?_)
   refine qo [18,25] kr rfl ?_
   refine all_cons ?_ ?_
   ·refine qc Z (i:=18) rfl rfl ?_
    refine e_is Z I [vQ yz.v,vW yz.r,vI zw] (.agg #[vQ yz.v,vW yz.r,vW zw]) rfl rfl (qy yz.v yz.r (zw:Int) om _) fun w74 hbw I a Z=>?_
    refine keepS (I.pt 7 [0,1,2,3,4,5,6]) (fun HS=>?_)
    refine qo [21,25] kr rfl ?_
    refine all_cons ?_ ?_
    ·refine qc Z (i:=21) rfl rfl ?_
     refine e_is Z I [.agg #[vQ yz.v,vW yz.r,vW zw],vI z] (.tuple #[.agg ((⟨yz.v,0,z⟩:En).cells),vI 0]) rfl rfl (qcm (⟨yz.v,yz.r,zw⟩:En) hFo z hz _) fun w77 hbw I a Z=>?_
     refine keepS (I.pt 7 [0,1,2,3,4,5,6]) (fun HS=>?_)
     refine Vb Z I HS ((Vp [22]∘Vx 23∘Vx 24∘VA 25 .n #[vQ 0,vW 0,vW 0]) fun w9 g9=>fun a Z I HS=>?_)
     refine s_on Z 26 rfl (e_sa Z I 0 rfl rfl rfl rfl rfl qk rfl rfl (zk (⟨yz.v,0,z⟩:En)) ?_)
     clear I;intro w10_26 I
     refine noS kr ?_
     refine ap Z (pastS kr) [27] (bt 28 []) [] fun a Z=>?_
     refine qb kr ?_
     exact ⟨g9,Z.sub kr,I.pt 8 [0,1,2,3,4,5,6,7]⟩
    refine all_cons ?_ all_nil
    refine qc Z (i:=25) rfl rfl ?_
    refine s_ea Z I #[vQ 0,vW 0,vW 0] ?_
    clear Z I;intro a w9 g9 Z I
    refine keepS (I.pt 8 [1,2,3,4,5,6,7]) (fun HS=>?_)
    refine Vb Z I HS ((VI 21 (.f .n) (h:=by exact fun I=>qcm (⟨yz.v,yz.r,zw⟩:En) hFo z hz _)) fun w77 hbw=>(Vp [22]∘Vx 23∘Vx 24) fun a Z I HS=>?_)
    refine s_on Z 26 rfl (e_sa Z I 0 rfl rfl rfl rfl rfl qk rfl rfl (zk (⟨yz.v,0,z⟩:En)) ?_)
    clear I;intro w10_26 I
    refine noS kr ?_
    refine ap Z (pastS kr) [27] (bt 28 []) [] fun a Z=>?_
    refine qb kr ?_
    exact ⟨g9,Z.sub kr,I.pt 8 [0,1,2,3,4,5,6,7]⟩
   refine all_cons ?_ all_nil
   refine qc Z (i:=25) rfl rfl ?_
   refine s_ea Z I #[vQ 0,vW 0,vW 0] ?_
   clear Z I;intro a w9 g9 Z I
   refine keepS (I.pt 8 [1,2,3,4,5,6,7]) (fun HS=>?_)
   refine Vb Z I HS ((VI 18 (.f .n) (h:=by exact fun I=>qy yz.v yz.r (zw:Int) om _)) fun w74 hbw=>(VI 21 (.f .n) (h:=by exact fun I=>qcm (⟨yz.v,yz.r,zw⟩:En) hFo z hz _)) fun w77 hbw=>(Vp [22]∘Vx 23∘Vx 24) fun a Z I HS=>?_)
   refine s_on Z 26 rfl (e_sa Z I 0 rfl rfl rfl rfl rfl qk rfl rfl (zk (⟨yz.v,0,z⟩:En)) ?_)
   clear I;intro w10_26 I
   refine noS kr ?_
   refine ap Z (pastS kr) [27] (bt 28 []) [] fun a Z=>?_
   refine qb kr ?_
   exact ⟨g9,Z.sub kr,I.pt 8 [0,1,2,3,4,5,6,7]⟩
  clear Z I;rintro a w10 ⟨g9,Z,I⟩
  refine qks I [.blk g9 ((⟨yz.v,0,z⟩:En).cells) 168,.blk g3 o.cells 98,fM gm cp cr (some ⟨ggA,0,none⟩) ng gc lA nl lc uA nu uc tA nt tc (some ⟨gsA,0,none⟩) ns sc,fG (some ⟨ggA,0,none⟩) ng gc gs,fI lA nl lc cl,fI uA nu uc cu,fT tA nt tc ts] [0,1,2,3,4,5,6] [11] fun I HS=>?_
  refine ap Z (fun _=>HS) [0,1,2,4] (bf 12 [0,1,2,4]) [(84,vP g9 1),(82,vP g9 0),(81,vP gy (c*3)),(80,vP gy (c*3))] fun a Z=>?_
  refine s_ac Z HS 3 0 (v:=vQ ((⟨yz.v,0,z⟩:En).v)) fun a Z=>?_
  refine s_ac Z HS 5 0 (v:=vW ((⟨yz.v,0,z⟩:En).r)) fun a Z=>?_
  refine s_am Z HS 6 fun a Z=>?_
  refine ap Z (fun _=>HS) [7] (bt 12 [8,9,10,11]) [(87,vP gy (c*3))] fun a Z=>?_
  refine s_on Z 8 rfl ?_
  refine qar Z I 7 (c:=c) 0 ({yz with v:=yz.v}) rfl rfl rfl rfl kr rfl rfl om (hy2) (hyz2) rfl de rfl ?_
  clear I;intro w11_8 I
  replace I:Mem W w11_8 (.blk g9 ((⟨yz.v,0,z⟩:En).cells) 168:: .blk g3 o.cells 98::fM gm cp cr (some ⟨ggA,0,none⟩) ng gc lA nl lc uA nu uc tA nt tc (some ⟨gsA,0,none⟩) ns sc::fG (some ⟨ggA,0,none⟩) ng gc gs::fI lA nl lc cl::fI uA nu uc cu::fT tA nt tc ts::fS (some ⟨gsA,0,none⟩) ns sc (rsPut rs2 g c ({yz with v:=yz.v}))::(fR (rsPut rs2 g c ({yz with v:=yz.v}))++(T))):=I
  refine keepS (I.pk [0,1,2,3,4,5,6]) (fun HS=>?_)
  refine s_an Z (fun _=>HS) 9 fun a Z=>?_
  refine ap Z (fun _=>HS) [10] (bt 12 [11]) [(89,vP gy (c*3+1))] fun a Z=>?_
  refine s_on Z 11 rfl ?_
  refine qar Z I 7 (c:=c) 1 (r0 yz) rfl rfl rfl rfl kr rfl rfl (by first|omega|(rw [qt];omega)) (qg9 om hy2) (qc0 hyz2) rfl de rfl ?_
  clear I;intro w11_11 I
  replace I:Mem W w11_11 (.blk g9 ((⟨yz.v,0,z⟩:En).cells) 168:: .blk g3 o.cells 98::fM gm cp cr (some ⟨ggA,0,none⟩) ng gc lA nl lc uA nu uc tA nt tc (some ⟨gsA,0,none⟩) ns sc::fG (some ⟨ggA,0,none⟩) ng gc gs::fI lA nl lc cl::fI uA nu uc cu::fT tA nt tc ts::fS (some ⟨gsA,0,none⟩) ns sc (rsPut (rsPut rs2 g c ({yz with v:=yz.v})) g c (r0 yz))::(fR (rsPut (rsPut rs2 g c ({yz with v:=yz.v})) g c (r0 yz))++(T))):=I
  rw [qew (by first|omega|(rw [qt];omega))] at I
  refine noS kr ?_
  refine qb kr ?_
  refine Jb Z I ((JG∘JR∘JaK 1∘Jp 1∘Jd6∘Jq) fun a Z I=>?_)
  exact ⟨_,om,c+1,(rsPut rs2 g c (r0 yz)),by omega,by rw [qt];exact hl2,qt4 om hyz hr2,rfl,Z.sub kr,I.pt 8 [1,2,3,4,5,6,7]⟩
 intro a Z I
 have hd43:=of_decide_eq_false hb43
 refine Jb Z I ((JF∘JX) fun a Z I=>?_)
 refine wp_seq ?_
 refine Jb Z I ((Vs .n [11]) fun wd13=>(Vp [0]∘Vf 5 3∘Vf 7 4∘Vn 1∘Vf 2 0∘Vf 3 2∘Vc 4 O1∘Vc 6 O0∘Vo (vI g) (by rw [hgg])∘Vc 8 O0∘Vo (vI z) (by rw [hoz])∘Vu 9 (h:=by exact fun _=>Yl.ix0 ggA g 2 rfl rfl rfl)∘Vf 10 1) fun a Z I HS=>?_)
 refine s_on Z 11 rfl ?_
 refine q4 Z I (i:=2) rfl rfl rfl rfl kr rfl rfl (by rw [zt grL 2 zm];omega) ?_
 clear I;intro w13_11 I
 replace I:=I.asRow (i:=2) (ys:=(gs.set g {gr with weight:=(z:Int)}).flatMap grL) rfl (zu grL 2 zm gs g gr {gr with weight:=(z:Int)} hgr 1 de _ rfl)
 refine noS kr ?_
 refine qb kr ?_
 exact Jb Z I ((JP∘Jp 2∘Jj∘JZ∘Jz2) fun I=>by exact qr (y:=(⟨cp,cr,some ⟨ggA,0,none⟩,gc,(gs.set g {gr with weight:=(z:Int)}),lA,lc,cl,uA,uc,cu,tA,tc,ts,some ⟨gsA,0,none⟩,sc,rs2⟩:Stm)) 1 I rfl ⟨by show (gs.set _ _).length=ng;rw [List.length_set];exact hlg,hlns.l,hlns.u,hlns.t,hl2⟩ ((qng (x:=(⟨cp,cr,some ⟨ggA,0,none⟩,gc,gs,lA,lc,cl,uA,uc,cu,tA,tc,ts,some ⟨gsA,0,none⟩,sc,rs⟩:Stm)) hgg hgb (decide_eq_true hd28) hy hgrd).trans (by rw [hoz];exact congrArg (fun r=>(Stm.sta (⟨cp,cr,some ⟨ggA,0,none⟩,gc,(gs.set g {gr with weight:=(z:Int)}),lA,lc,cl,uA,uc,cu,tA,tc,ts,some ⟨gsA,0,none⟩,sc,r⟩:Stm),(0:Int),0)) (show _=rs2 by rw [hr2,q0v r0 yl om]))))
theorem qra (W w:World) (x:Stm) (gm k to:Nat) (t:Tk) (ng nl nu nt ns:Nat) (hx:MdOk x ng nl nu nt ns) (ht:x.ts[k]?=some t) (hto_:(to:Int)<x.cpus) (T:List Fact) (I:Mem W w (mdA gm x ng nl nu nt ns++T)):
    Calls Tryz.prog 118 #[vP gm 0,vI k,vI to] w (StIs W gm T (moveS x.sta k (to:Int))):=by
 obtain ⟨cp,cr,gA,gc,gs,lA,lc,cl,uA,uc,cu,tA,tc,ts,sA,sc,rs⟩:=x
 replace I:Mem W w (fM gm cp cr gA ng gc lA nl lc uA nu uc tA nt tc sA ns sc::fG gA ng gc gs::fI lA nl lc cl::fI uA nu uc cu::fT tA nt tc ts::fS sA ns sc rs::(fR rs++(T))):=I
 obtain ⟨hlg,hll,hlu,hlt,hls⟩:=hx.ln
 replace hlg:gs.length=ng:=hlg;replace hll:cl.length=nl:=hll;replace hlu:cu.length=nu:=hlu;replace hlt:ts.length=nt:=hlt;replace hls:rs.length=ns:=hls
 have hlns:=hx.ln
 have hsp:SpsOk gs cp rs:=hx.spots
 have hrg:rs.length=gs.length:=hx.sh.rs
 have hcr:cr<18446744073709551616:=hx.ok.credit
 obtain ⟨hcp1,hcp2,_,hgs⟩:=zq hx.sh.cfg
 replace hcp1:1≤cp:=hcp1;replace hcp2:cp≤64:=hcp2;replace hgs:gsOk gs=true:=hgs
 have hgl1:=(qq hgs).1;have hgl2:=(qq hgs).2.1
 have hcll:(cl.length:Int)=cp:=hx.sh.cl;have hcul:(cu.length:Int)=cp:=hx.sh.cu
 have hfts:ts.length≤1000000:=hx.few.t
 replace ht:ts[k]?=some t:=ht;replace hto_:(to:Int)<cp:=hto_
 have hkl:=(List.getElem?_eq_some_iff.1 ht).1
 obtain ⟨htg,hto⟩:=hx.task ht
 have hti:=htg.id;have htgr:=htg.group;have htc:=htg.cpu;have htw:=htg.weight;have htv:=hto.v;have htr:=hto.r;have htm:=hto.mask
 replace htc:0≤t.cpu∧t.cpu<cp:=htc
 obtain ⟨gt,hgt⟩:∃n:Nat,t.group=(n:Int):=⟨t.group.toNat,by omega⟩
 obtain ⟨ct,hct⟩:∃n:Nat,t.cpu=(n:Int):=⟨t.cpu.toNat,by omega⟩
 obtain ⟨wt,hwt⟩:∃n:Nat,t.weight=(n:Int):=⟨t.weight.toNat,by omega⟩
 have hEo:(⟨t.v,t.r,wt⟩:En).Ok:=En.qh6 htg.ent hwt htv
 obtain ⟨gsA,rfl⟩:=qn (I.own (i:=5) rfl) om
 obtain ⟨gtA,rfl⟩:=qn (I.own (i:=4) rfl) om
 obtain ⟨em,hem⟩:∃l,zf (⟨cp,cr,gA,gc,gs,lA,lc,cl,uA,uc,cu,some ⟨gtA,0,none⟩,tc,ts,some ⟨gsA,0,none⟩,sc,rs⟩:Stm).sta gt to=l:=⟨_,rfl⟩
 have hemm:=fun h hh=>qj0 (x:=(⟨cp,cr,gA,gc,gs,lA,lc,cl,uA,uc,cu,some ⟨gtA,0,none⟩,tc,ts,some ⟨gsA,0,none⟩,sc,rs⟩:Stm)) hx (by omega:gt<ns) hem h hh
 have hemn:=qhh (x:=(⟨cp,cr,gA,gc,gs,lA,lc,cl,uA,uc,cu,some ⟨gtA,0,none⟩,tc,ts,some ⟨gsA,0,none⟩,sc,rs⟩:Stm)) hx (by omega:gt<ns) hem
 obtain ⟨⟨yA,yc,yl⟩,hy⟩:∃y,rs.getD gt Rw.zero=y:=⟨_,rfl⟩
 have hys:=hsp gt om;rw [hy] at hys
 have hyl:(yl.length:Int)=cp:=hys.1
 obtain ⟨gy,rfl⟩:=I.rwSome 6 rfl om hy om
 obtain ⟨yz,hyz⟩:∃z,yl[ct]?=some z:=⟨_,List.getElem?_eq_getElem om⟩
 have hyo:=hys.2 yz (List.mem_of_getElem? hyz)
 have hyv:=hyo.1.v;have hyr:=hyo.1.r;have hyf:=hyo.1.floor
 obtain ⟨z2,hz2⟩:∃z,yl[to]?=some z:=⟨_,List.getElem?_eq_getElem om⟩
 have hzf:=(hys.2 z2 (List.mem_of_getElem? hz2)).1.floor
 obtain ⟨e,hew⟩:∃e,(⟨t.v,t.r,wt⟩:En).moved yz.floor z2.floor=e:=⟨_,rfl⟩
 have heo:e.Ok∧e.w=wt:=by rw [←hew];exact En.qpz hEo _ _ hzf
 have hev:=heo.1.2;have her:=qfv heo.1.1
 have hmo:=qw5 (x:=(⟨cp,cr,gA,gc,gs,lA,lc,cl,uA,uc,cu,some ⟨gtA,0,none⟩,tc,ts,some ⟨gsA,0,none⟩,sc,rs⟩:Stm)) (to:=to) ht hgt hct hwt (qca (x:=(⟨cp,cr,gA,gc,gs,lA,lc,cl,uA,uc,cu,some ⟨gtA,0,none⟩,tc,ts,some ⟨gsA,0,none⟩,sc,rs⟩:Stm)) (by show gt<rs.length;omega) hy hyz) (qca (x:=(⟨cp,cr,gA,gc,gs,lA,lc,cl,uA,uc,cu,some ⟨gtA,0,none⟩,tc,ts,some ⟨gsA,0,none⟩,sc,rs⟩:Stm)) (by show gt<rs.length;omega) hy hz2) hew hem
 refine (Jin3 I Tryz.func118 81) ?_
 refine (JP∘Jp 1∘Jn∘Jf 0∘Jg 5 O0∘Jp 1∘Jy (h:=by exact Yl.ix0 gtA k 8 rfl rfl rfl)∘Jp 1∘Jd6∘Jr∘Jp 2∘Jn∘Jf 1∘Jy (v:=vI t.group) (h:=by exact Yl.qe rfl rfl kr (fun _ h=>h.qp qf (i:=4) rfl (k:=k) (off:=1) (x:=t) (ht) rfl))∘Jo (vI gt) (by rw [hgt])∘Jp 1∘JK (h:=by exact fun I=>qjz 0 I rfl hx (by show ((to:Nat):Int)<cp;omega) om hem)) fun A24 c24 w24 hc24=>(Jp 1∘Jd6∘Jj) fun a Z I=>?_
 refine wp_seq ?_
 refine Jb Z I ((Vs .n []) fun wd2=>(Vp [0,5]∘Vn 1∘Vf 2 0∘Vf 3 6∘Vc 4 O1∘Vn 6∘Vf 7 1∘Vy 8 (v:=vI t.group) (h:=by exact Yl.qe rfl rfl kr (fun _ h=>h.qp qf (i:=5) rfl (k:=k) (off:=1) (x:=t) (ht) rfl))∘Vo (vI gt) (by rw [hgt])∘Vy 9 (h:=by exact Yl.ix0 gsA gt 1 rfl rfl rfl)∘Vy 10 (v:= .slice ((rs.getD gt Rw.zero).A) ((rs.getD gt Rw.zero).l.length) ((rs.getD gt Rw.zero).c)) (h:=by exact Yl.r1 6 gt Rw.zero om rfl rfl rfl)∘Vo (vS gy yl.length yc) (by rw [hy])∘Vp [11]∘Vd∘Jd6) fun a Z I=>?_)
 refine zb (fun aS wS=>∃(g9:Nat),Fr aS 81 [] [(9,vP g9 0),(7,.slice A24 em.length c24),(6,vP gtA (k*8)),(0,vP gm 0),(2,vI to)]∧Mem W wS (.blk g9 e.cells 168:: .row (.slice A24 em.length c24) em.length (em.map I64v) 3 1::fM gm cp cr gA ng gc lA nl lc uA nu uc (some ⟨gtA,0,none⟩) nt tc (some ⟨gsA,0,none⟩) ns sc::fG gA ng gc gs::fI lA nl lc cl::fI uA nu uc cu::fT (some ⟨gtA,0,none⟩) nt tc ts::fS (some ⟨gsA,0,none⟩) ns sc rs::(fR rs++(T)))) ?_ ?_
 ·
  refine Jb Z I ((Vs .n [31]) fun wd3=>(Vp [0,4,8,13,14,21,22]∘Vn 1∘Vf 2 6∘Vy 3 (v:=vQ t.v) (h:=by exact Yl.qe rfl rfl kr (fun _ h=>h.qp qf (i:=5) rfl (k:=k) (off:=6) (x:=t) (ht) rfl))∘Vn 5∘Vf 6 7∘Vy 7 (v:=vW t.r) (h:=by exact Yl.qe rfl rfl kr (fun _ h=>h.qp qf (i:=5) rfl (k:=k) (off:=7) (x:=t) (ht) rfl))∘Vn 9∘Vf 10 2∘Vy 11 (v:=vI t.weight) (h:=by exact Yl.qe rfl rfl kr (fun _ h=>h.qp qf (i:=5) rfl (k:=k) (off:=2) (x:=t) (ht) rfl))∘Vo (vI wt) (by rw [hwt])∘Vn 15∘Vf 16 3∘Vy 17 (v:=vI t.cpu) (h:=by exact Yl.qe rfl rfl kr (fun _ h=>h.qp qf (i:=5) rfl (k:=k) (off:=3) (x:=t) (ht) rfl))∘Vo (vI ct) (by rw [hct])∘Vy 18 (h:=by exact Yl.ix0 gy ct 3 rfl rfl rfl)∘Vf 19 2∘Vy 20 (v:=vQ yz.floor) (h:=by exact Yl.qe rfl rfl kr (fun _ h=>h.qb1 7 (j:=2) rfl om hy (hyz) rfl))∘Vy 23 (h:=by exact Yl.ix0 gy to 3 rfl rfl rfl)∘Vf 24 2∘Vy 25 (v:=vQ z2.floor) (h:=by exact Yl.qe rfl rfl kr (fun _ h=>h.qb1 7 (j:=2) rfl om hy (hz2) rfl))) fun a Z I HS=>?_)
  refine qo [12,30] kr rfl ?_
  refine all_cons ?_ ?_
  ·refine qc Z (i:=12) rfl rfl ?_
   refine e_is Z I [vQ t.v,vW t.r,vI wt] (.agg #[vQ t.v,vW t.r,vW wt]) rfl rfl (qy t.v t.r (wt:Int) om _) fun w49 hbw I a Z=>?_
   refine keepS (I.pt 7 [0,1,2,3,4,5,6]) (fun HS=>?_)
   refine qo [26,30] kr rfl ?_
   refine all_cons ?_ ?_
   ·refine qc Z (i:=26) rfl rfl ?_
    refine e_is Z I [.agg #[vQ t.v,vW t.r,vW wt],vQ yz.floor,vQ z2.floor] (.tuple #[.agg e.cells,vI 0]) rfl rfl (qj2 (⟨t.v,t.r,wt⟩:En) e hEo yz.floor z2.floor hyf hzf hew _) fun w63 hbw I a Z=>?_
    refine keepS (I.pt 7 [0,1,2,3,4,5,6]) (fun HS=>?_)
    refine Vb Z I HS ((Vp [27]∘Vx 28∘Vx 29∘VA 30 .n #[vQ 0,vW 0,vW 0]) fun w9 g9=>fun a Z I HS=>?_)
    refine s_on Z 31 rfl (e_sa Z I 0 rfl rfl rfl rfl rfl qk rfl rfl (zk e) ?_)
    clear I;intro w3_31 I
    refine noS kr ?_
    refine ap Z (pastS kr) [32] (bt 33 []) [] fun a Z=>?_
    refine qb kr ?_
    exact ⟨g9,Z.sub kr,I.pt 8 [0,1,2,3,4,5,6,7]⟩
   refine all_cons ?_ all_nil
   refine qc Z (i:=30) rfl rfl ?_
   refine s_ea Z I #[vQ 0,vW 0,vW 0] ?_
   clear Z I;intro a w9 g9 Z I
   refine keepS (I.pt 8 [1,2,3,4,5,6,7]) (fun HS=>?_)
   refine Vb Z I HS ((VI 26 (.f .n) (h:=by exact fun I=>qj2 (⟨t.v,t.r,wt⟩:En) e hEo yz.floor z2.floor hyf hzf hew _)) fun w63 hbw=>(Vp [27]∘Vx 28∘Vx 29) fun a Z I HS=>?_)
   refine s_on Z 31 rfl (e_sa Z I 0 rfl rfl rfl rfl rfl qk rfl rfl (zk e) ?_)
   clear I;intro w3_31 I
   refine noS kr ?_
   refine ap Z (pastS kr) [32] (bt 33 []) [] fun a Z=>?_
   refine qb kr ?_
   exact ⟨g9,Z.sub kr,I.pt 8 [0,1,2,3,4,5,6,7]⟩
  refine all_cons ?_ all_nil
  refine qc Z (i:=30) rfl rfl ?_
  refine s_ea Z I #[vQ 0,vW 0,vW 0] ?_
  clear Z I;intro a w9 g9 Z I
  refine keepS (I.pt 8 [1,2,3,4,5,6,7]) (fun HS=>?_)
  refine Vb Z I HS ((VI 12 (.f .n) (h:=by exact fun I=>qy t.v t.r (wt:Int) om _)) fun w49 hbw=>(VI 26 (.f .n) (h:=by exact fun I=>qj2 (⟨t.v,t.r,wt⟩:En) e hEo yz.floor z2.floor hyf hzf hew _)) fun w63 hbw=>(Vp [27]∘Vx 28∘Vx 29) fun a Z I HS=>?_)
  refine s_on Z 31 rfl (e_sa Z I 0 rfl rfl rfl rfl rfl qk rfl rfl (zk e) ?_)
  clear I;intro w3_31 I
  refine noS kr ?_
  refine ap Z (pastS kr) [32] (bt 33 []) [] fun a Z=>?_
  refine qb kr ?_
  exact ⟨g9,Z.sub kr,I.pt 8 [0,1,2,3,4,5,6,7]⟩
 clear Z I;rintro a w3 ⟨g9,Z,I⟩
 refine Jb Z I ((JP∘Jp 1∘Jy (v:= .agg e.cells) (h:=by exact Yl.loadS rfl rfl qk rfl (fun _ h=>qa (h.blk (i:=0) rfl)))∘JO (h:=by exact fun I=>qo1 t e O6' I ht hlt heo.1)) fun w68=>(Jt3∘Jr∘Jp 2∘Jn∘Jf 3) fun a Z I=>?_)
 refine fo Z 4 rfl rfl ?_
 refine q4 Z I (i:=6) rfl rfl rfl rfl kr rfl rfl (by rw [zt tkL 8 qf,List.length_set];omega) ?_
 clear I;intro w5_4 I
 replace I:=I.asRow (i:=6) (ys:=(ts.set k {t.put e with cpu:=(to:Int)}).flatMap tkL) rfl ((zu tkL 8 qf (ts.set k (t.put e)) k (t.put e) {t.put e with cpu:=(to:Int)} (qc0 ht) 3 de _ rfl).trans (by rw [List.set_set]))
 refine Jb Z I ((Jt4∘Jr∘Jp 1∘Jn∘Jf 5∘Jy (v:= .bool (({t.put e with cpu:=(to:Int)}:Tk).ready)) (h:=by exact Yl.qe rfl rfl kr (fun _ h=>h.qp qf (i:=6) rfl (k:=k) (off:=5) (x:=({t.put e with cpu:=(to:Int)}:Tk)) ((qc0 ht)) rfl))∘Jo (.bool t.ready) (by exact rfl)∘Jd3∘Jj) (Ju (fun hb76=>?_) fun hb76=>?_))
 ·
  refine (JT∘JR∘Jp 3∘JL (h:=by exact fun I=>qj1 2 I rfl (j:=1) rfl de (qim (ts':=ts.set k {t.put e with cpu:=(to:Int)}) hlns (by rw [List.length_set];exact hlt)) (hemm) (hemn) hgs hrg hsp hcr hcp2 (by show ((to:Nat):Int)<cp;omega))) ?_
  rintro I _ w80 ⟨rs2,rfl,hl2,hsp2,hst2,HM2⟩
  refine ⟨_,rfl,_,(show Mem W w80 (.blk g9 e.cells 168:: .row (.slice A24 em.length c24) em.length (em.map I64v) 3 1::fM gm cp cr gA ng gc lA nl lc uA nu uc (some ⟨gtA,0,none⟩) nt tc (some ⟨gsA,0,none⟩) ns sc::fG gA ng gc gs::fI lA nl lc cl::fI uA nu uc cu::fT (some ⟨gtA,0,none⟩) nt tc (ts.set k {t.put e with cpu:=(to:Int)})::fS (some ⟨gsA,0,none⟩) ns sc rs2::(fR rs2++(T))) from HM2),?_⟩
  refine (Jt4∘Jq) fun a Z I=>?_
  exact norm0 rfl Z (qt3 (y:=(⟨cp,cr,gA,gc,gs,lA,lc,cl,uA,uc,cu,some ⟨gtA,0,none⟩,tc,(ts.set k {t.put e with cpu:=(to:Int)}),some ⟨gsA,0,none⟩,sc,rs2⟩:Stm)) 2 I rfl (qo2 (qim hlns (by rw [List.length_set];exact hlt)) hl2) (by rw [hmo,if_pos hb76];exact hst2))
 refine (JF∘JS) fun a Z I=>?_
 exact norm0 rfl Z (qt3 (y:=(⟨cp,cr,gA,gc,gs,lA,lc,cl,uA,uc,cu,some ⟨gtA,0,none⟩,tc,(ts.set k {t.put e with cpu:=(to:Int)}),some ⟨gsA,0,none⟩,sc,rs⟩:Stm)) 2 I rfl (qim hlns (by rw [List.length_set];exact hlt)) (by rw [hmo,if_neg (nt' hb76)]))
theorem qum {W w:World} {F T:List Fact} {x:Stm} {ng nl nu nt ns gm k to:Nat} {t:Tk} (n:Nat) (I:Mem W w F) (he:F.drop n=mdA gm x ng nl nu nt ns++T) (hx:MdOk x ng nl nu nt ns) (ht:x.ts[k]?=some t) (hto:(to:Int)<x.cpus):
  Calls Tryz.prog 118 #[vP gm 0,vI k,vI to] w (fun r w'=>∃y:Stm,r= .returned (.tuple #[])∧y.sta=moveS x.sta k (to:Int)∧Mem W w' (F.take n++(mdB gm y++T))):=
 (qra W w x gm k to t ng nl nu nt ns hx ht hto (F.take n++T) (I.front n he)).mono fun r w' ⟨y,h1,h2,h3⟩=>⟨y,h1,h2,h3.back⟩
theorem qrb (A:Option Addr) (c:Nat) (l:List Int) (v:Int) (w:World) (hr:Rd w w.heap.size 1 A l.length (l.map I64i)) (hn:l.length≤1000000):
    Calls Tryz.prog 146 #[.slice A l.length c,vI v] w (IdxIs w l v):=by
 refine (JN2 Tryz.func146 19) ?_
 refine (JP∘Jp 1∘Jj∘JQ∘JP∘Jp 1∘Jl∘Jp 1∘Jj∘JB) fun a Z I=>?_
 refine qj (fun mS aS wS=>∃(k:Nat),(k≤l.length)∧(∀i,i<k→l.getD i 0≠v)∧mS=l.length-k∧Fr aS 19 [] [(8,vI k),(7,vI l.length),(4,vI 0),(0,.slice A l.length c),(1,vI v)]∧Mem w wS []) (m:=l.length-0) ⟨0,Nat.zero_le _,fun i h=>by omega,rfl,Z.sub kr,I.pk []⟩ ?_
 clear Z I;rintro mS a w_ ⟨k,hk,hu,rfl,Z,I⟩
 refine Jb Z I ((JP∘Jp 1∘Jj∘JQ) (Ju (fun hb9=>?_) fun hb9=>?_))
 ·
  intro a Z I
  have hd9:=of_decide_eq_true hb9
  have hk9:k<l.length:=by omega
  refine Jb Z I ((JT∘JS'∘JQ∘JB∘JP∘Jp 2∘Jd1∘Jr∘Jp 3) ?_)
  repeat (first|clear Z|clear I)
  intro a Z I
  obtain ⟨gA,oA,rfl,_⟩:=hr.qm (Nat.lt_of_le_of_lt (Nat.zero_le _) (show k<l.length from by omega)) de
  refine Jb Z I ((Jy (h:=by exact Yl.ix gA oA k 1 rfl rfl rfl)∘Jy (h:=by exact Yl.o1 hr k 0 om rfl rfl)∘Jp 1∘Jd5∘Jj) (Je (fun hd16=>?_) fun hd16=>?_))
  ·
   exact (JT∘JP∘Jp 2∘Jd1∘Jj∘JZ∘Jz1) fun I=>qq8 hk9 hd16.symm I.below
  refine (JF∘JS'∘JR∘JaK 1∘Jp 1∘Jd1∘Jq) fun a Z I=>?_
  exact ⟨_,om,k+1,by omega,q02 hu (fun h=>hd16 h.symm),rfl,Z.sub kr,I.pk []⟩
 intro a Z I
 have hd9:=of_decide_eq_false hb9
 exact Jb Z I ((JF∘JX∘JG∘JP∘Jp 1∘Jj∘JZ∘Jz1) fun I=>qq9 (fun i hi=>hu i om) I.below)
theorem qj4 (A:Option Addr) (c:Nat) (l:List Int) (v:Int) (w:World) (hr:Rd w w.heap.size 1 A l.length (l.map I64i)) (hn:l.length≤1000000):
    Calls Tryz.prog 117 #[.slice A l.length c,vI v] w (Is w (.bool (decide (v∈l)))):=by
 refine (JN2 Tryz.func117 9) ?_
 refine (JP∘Jp 1∘Jr∘Jp 2∘JL (h:=by exact fun I=>qrb A c l v _ (I.old hr) hn)) ?_
 rintro I _ w7 ⟨⟨i,rfl,he⟩,hbw⟩
 refine ⟨_,rfl,_,I.call hbw,?_⟩
 exact (Jp 2∘Jd4∘Jj∘JZ∘Jz1) fun I=>is_as he I.below
theorem qnl {w:World} {A:Option Addr} {c n:Nat} {l:List Int} {v:Int} (hl:l.length=n) (hr:Rd w w.heap.size 1 A n (l.map I64i)) (hn:l.length≤1000000):Calls Tryz.prog 117 #[.slice A n c,vI v] w (Is w (.bool (decide (v∈l)))):=by
 subst hl
 exact qj4 A c l v w hr hn
theorem qj5 (W w:World) (x:Stm) (gm:Nat) (ng nl nu nt ns:Nat) (hx:MdOk x ng nl nu nt ns) (o:Op30) (ho:o.Ok) (T:List Fact) (I:Mem W w (mdA gm x ng nl nu nt ns++T)):
    Calls Tryz.prog 70 #[vP gm 0,.agg o.cells] w (OpIs W gm T (qbe x.sta o)):=by
 obtain ⟨cp,cr,gA,gc,gs,lA,lc,cl,uA,uc,cu,tA,tc,ts,sA,sc,rs⟩:=x
 replace I:Mem W w (fM gm cp cr gA ng gc lA nl lc uA nu uc tA nt tc sA ns sc::fG gA ng gc gs::fI lA nl lc cl::fI uA nu uc cu::fT tA nt tc ts::fS sA ns sc rs::(fR rs++(T))):=I
 obtain ⟨hlg,hll,hlu,hlt,hls⟩:=hx.ln
 replace hlg:gs.length=ng:=hlg;replace hll:cl.length=nl:=hll;replace hlu:cu.length=nu:=hlu;replace hlt:ts.length=nt:=hlt;replace hls:rs.length=ns:=hls
 have hlns:=hx.ln
 have hsp:SpsOk gs cp rs:=hx.spots
 have hrg:rs.length=gs.length:=hx.sh.rs
 have hcr:cr<18446744073709551616:=hx.ok.credit
 obtain ⟨hcp1,hcp2,_,hgs⟩:=zq hx.sh.cfg
 replace hcp1:1≤cp:=hcp1;replace hcp2:cp≤64:=hcp2;replace hgs:gsOk gs=true:=hgs
 have hgl1:=(qq hgs).1;have hgl2:=(qq hgs).2.1
 have hcll:(cl.length:Int)=cp:=hx.sh.cl;have hcul:(cu.length:Int)=cp:=hx.sh.cu
 have hfts:ts.length≤1000000:=hx.few.t
 have hoc:=ho.cpu;have hot:=ho.task;have hog:=ho.group;have how:=ho.weight;have hoto:=ho.to;have hotk:=ho.ticks;have hom:=ho.mask;have hok8:=ho.kind;unfold I64 at hoc hot hog how hoto hotk
 obtain ⟨guA,rfl⟩:=qn (I.own (i:=3) rfl) om
 refine (Jin2 I Tryz.func70 67) ?_
 refine (JP∘JE) fun w3 g3=>(Jp 2∘Jj∘JQ∘JB∘JP∘Jp 1∘Jg 5 O0∘JI (h:=by exact fun I=>qil 1 I rfl hx o.to)) fun w11 hbw=>(Jp 2∘Jd4∘Jj) (Ju (fun hb7=>?_) fun hb7=>?_)
 ·
  intro a Z I
  have hd7:=of_decide_eq_false ((Bool.not_eq_true' _).mp hb7)
  exact Jb Z I ((JT∘JP∘Jp 2∘Jj∘JZ∘Jz2) fun I=>by exact qr (y:=(⟨cp,cr,gA,gc,gs,lA,lc,cl,some ⟨guA,0,none⟩,uc,cu,tA,tc,ts,sA,sc,rs⟩:Stm)) 1 I rfl hlns (if_pos (decide_eq_false hd7)))
 intro a Z I
 have hd7:=of_decide_eq_true ((Bool.not_eq_false' _).mp hb7)
 replace hd7:0≤o.to∧o.to<cp:=hd7
 obtain ⟨c,hcc⟩:∃n:Nat,o.to=(n:Int):=⟨o.to.toNat,by omega⟩
 have hccp:((c:Nat):Int)<cp:=by omega
 have hfcu:cu.length≤1000000:=hx.few.u
 refine Jb Z I ((JF∘JP∘Jg 2 O0∘JI (h:=by exact fun I=>qf5 o.task _)) fun w16 hbw=>(Jp 2∘Jd3∘Jj) (Ju (fun hb13=>?_) fun hb13=>?_))
 ·
  intro a Z I
  have hd13:=of_decide_eq_false ((Bool.not_eq_true' _).mp hb13)
  exact Jb Z I ((JT∘JP∘Jp 2∘Jj∘JZ∘Jz2) fun I=>by exact qr (y:=(⟨cp,cr,gA,gc,gs,lA,lc,cl,some ⟨guA,0,none⟩,uc,cu,tA,tc,ts,sA,sc,rs⟩:Stm)) 1 I rfl hlns ((if_neg (nf (decide_eq_true hd7))).trans (if_pos (decide_eq_false hd13))))
 intro a Z I
 have hd13:=of_decide_eq_true ((Bool.not_eq_false' _).mp hb13)
 refine Jb Z I ((JF∘JS'∘JP∘Jp 1∘Jg 2 O0∘JI (h:=by exact fun I=>qex 1 I rfl hx o.task)) fun w21 hbw=>(Jp 1∘Jd3∘Jj∘JQ∘JB∘JP∘Jp 3∘Jd2∘Jj) (Ju (fun hb22=>?_) fun hb22=>?_))
 ·
  intro a Z I
  have hd22:=of_decide_eq_true hb22
  exact Jb Z I ((JT∘JP∘Jp 2∘Jj∘JZ∘Jz2) fun I=>by exact qr (y:=(⟨cp,cr,gA,gc,gs,lA,lc,cl,some ⟨guA,0,none⟩,uc,cu,tA,tc,ts,sA,sc,rs⟩:Stm)) 1 I rfl hlns ((if_neg (nf (decide_eq_true hd7))).trans ((if_neg (nf (decide_eq_true hd13))).trans (if_pos (hd22)))))
 intro a Z I
 have hd22:=of_decide_eq_false hb22
 obtain ⟨k,t,hk,ht,hkl,hkid⟩:=qhb hd22
 replace hk:fidx ts o.task=(k:Int):=hk;replace ht:ts[k]?=some t:=ht;replace hkl:k<ts.length:=hkl
 obtain ⟨htg,hto⟩:=hx.task ht
 have hti:=htg.id;have htgr:=htg.group;have htc:=htg.cpu;have htw:=htg.weight;have htv:=hto.v;have htr:=hto.r;have htm:=hto.mask
 replace htc:0≤t.cpu∧t.cpu<cp:=htc
 obtain ⟨gt,hgt⟩:∃n:Nat,t.group=(n:Int):=⟨t.group.toNat,by omega⟩
 obtain ⟨ct,hct⟩:∃n:Nat,t.cpu=(n:Int):=⟨t.cpu.toNat,by omega⟩
 obtain ⟨wt,hwt⟩:∃n:Nat,t.weight=(n:Int):=⟨t.weight.toNat,by omega⟩
 have hEo:(⟨t.v,t.r,wt⟩:En).Ok:=En.qh6 htg.ent hwt htv
 revert I;revert a;repeat (first|clear Z|clear I)
 intro a Z I
 obtain ⟨gtA,rfl⟩:=qn (I.own (i:=5) rfl) (Nat.lt_of_le_of_lt (Nat.zero_le _) (show k<nt from (by omega:k<nt)))
 refine Jb Z I ((JF) fun a Z I=>?_)
 refine wp_seq ?_
 refine Jb Z I ((Vs .n []) fun wd8=>(Vp [0]∘Vf 5 2∘Vn 1∘Vf 2 0∘Vf 3 4∘Vc 4 O1∘Vc 6 O0∘VI 7 .n (h:=by exact fun I=>qnl hlu (I.rd (i:=4) rfl) hfcu)) fun w33 hbw=>(Vp [8]∘Vd∘Jd6) (Ji (fun hd25=>?_) fun hd25=>?_))
 ·
  exact (JT∘JP∘Jp 2∘Jj∘JZ∘Jz2) fun I=>by exact qr (y:=(⟨cp,cr,gA,gc,gs,lA,lc,cl,some ⟨guA,0,none⟩,uc,cu,some ⟨gtA,0,none⟩,tc,ts,sA,sc,rs⟩:Stm)) 1 I rfl hlns ((if_neg (nf (decide_eq_true hd7))).trans ((if_neg (nf (decide_eq_true hd13))).trans ((if_neg (by show ¬fidx ts o.task<0;rw [hk];omega)).trans (if_pos (hd25)))))
 refine (JF) fun a Z I=>?_
 refine wp_seq ?_
 refine Jb Z I ((Vs .n []) fun wd10=>(Vp [0]∘Vf 9 5∘Vn 1∘Vf 2 0∘Vf 3 5∘Vc 4 O1∘Vp [5]∘Vo (vI k) (by rw [hk])∘Vy 6 (h:=by exact Yl.ix0 gtA k 8 rfl rfl rfl)∘Vf 7 3∘Vy 8 (v:=vI t.cpu) (h:=by exact Yl.qe rfl rfl kr (fun _ h=>h.qp qf (i:=5) rfl (k:=k) (off:=3) (x:=t) (ht) rfl))∘Vc 10 O0∘Vp [11,12]∘Vd∘Jd6) (Ju (fun hb34=>?_) fun hb34=>?_))
 ·
  intro a Z I
  have hd34:=eq_of_beq hb34
  exact Jb Z I ((JT∘JP∘Jp 2∘Jj∘JZ∘Jz2) fun I=>by exact qr (y:=(⟨cp,cr,gA,gc,gs,lA,lc,cl,some ⟨guA,0,none⟩,uc,cu,some ⟨gtA,0,none⟩,tc,ts,sA,sc,rs⟩:Stm)) 1 I rfl hlns ((if_neg (nf (decide_eq_true hd7))).trans ((if_neg (nf (decide_eq_true hd13))).trans ((if_neg (by show ¬fidx ts o.task<0;rw [hk];omega)).trans ((if_neg (hd25)).trans (if_pos (by rw [qcb (s:=Stm.sta (⟨cp,cr,gA,gc,gs,lA,lc,cl,some ⟨guA,0,none⟩,uc,cu,some ⟨gtA,0,none⟩,tc,ts,sA,sc,rs⟩:Stm)) hk ht];exact hd34)))))))
 intro a Z I
 have hd34:=ne_of_beq_false hb34
 have hmb:=Nat.div_le_self t.mask (2^c)
 refine Jb Z I ((JF) fun a Z I=>?_)
 refine wp_seq ?_
 refine Jb Z I ((Vs .n []) fun wd12=>(Vp [0]∘Vf 9 5∘Vn 1∘Vf 2 0∘Vf 3 5∘Vc 4 O1∘Vp [5]∘Vo (vI k) (by rw [hk])∘Vy 6 (h:=by exact Yl.ix0 gtA k 8 rfl rfl rfl)∘Vf 7 4∘Vy 8 (v:=vQ t.mask) (h:=by exact Yl.qe rfl rfl kr (fun _ h=>h.qp qf (i:=5) rfl (k:=k) (off:=4) (x:=t) (ht) rfl))∘Vc 10 O0∘Vo (vI c) (by rw [hcc])∘Vy 11 (v:=vQ (t.mask/2^c:Nat)) (h:=by exact Yl.shrN (m:=t.mask) (n:=c) rfl rfl rfl (by show _≤64;omega))∘Vp [12]∘Vo (vQ ((t.mask/2^c)%2:Nat)) (by exact qf1 (n:=1) (j:=1) rfl de om)∘Vp [13,14]∘Vd∘Jd6) (Je (fun hd47=>?_) fun hd47=>?_))
 ·
  exact (JT∘JP∘Jp 2∘Jj∘JZ∘Jz2) fun I=>by exact qr (y:=(⟨cp,cr,gA,gc,gs,lA,lc,cl,some ⟨guA,0,none⟩,uc,cu,some ⟨gtA,0,none⟩,tc,ts,sA,sc,rs⟩:Stm)) 1 I rfl hlns ((if_neg (nf (decide_eq_true hd7))).trans ((if_neg (nf (decide_eq_true hd13))).trans ((if_neg (by show ¬fidx ts o.task<0;rw [hk];omega)).trans ((if_neg (hd25)).trans ((if_neg (by rw [qcb (s:=Stm.sta (⟨cp,cr,gA,gc,gs,lA,lc,cl,some ⟨guA,0,none⟩,uc,cu,some ⟨gtA,0,none⟩,tc,ts,sA,sc,rs⟩:Stm)) hk ht];exact hd34)).trans (if_pos (qza (by rw [qcb (s:=Stm.sta (⟨cp,cr,gA,gc,gs,lA,lc,cl,some ⟨guA,0,none⟩,uc,cu,some ⟨gtA,0,none⟩,tc,ts,sA,sc,rs⟩:Stm)) hk ht]) hcc om)))))))
 refine (JF∘JS'∘JP∘Jp 2∘Jo (vI k) (by rw [hk])∘Jf 5∘Jc O0∘Jo (vI c) (by rw [hcc])∘JL (h:=by exact fun I=>qum 1 I rfl hx ht hccp)) ?_
 rintro I _ w66 ⟨y,rfl,hys,HM2⟩
 refine ⟨_,rfl,_,(show Mem W w66 (.blk g3 o.cells 98::(mdB gm y++(T))) from HM2),?_⟩
 exact (Jt5∘Jr∘Jp 2∘Jj∘JZ∘Jz2) fun I=>by exact qy7 1 I rfl ((qnh (x:=(⟨cp,cr,gA,gc,gs,lA,lc,cl,some ⟨guA,0,none⟩,uc,cu,some ⟨gtA,0,none⟩,tc,ts,sA,sc,rs⟩:Stm)) (decide_eq_true hd7) (decide_eq_true hd13) hk ht hd25 hd34 (qnk hcc om)).trans (by rw [hys,hcc]))
theorem q03 {a b:Int}:(a !=b)=decide (a≠b):=by rw [Bool.eq_iff_iff,bne_iff_ne,decide_eq_true_eq]
theorem qls {W w:World} {F T:List Fact} {x:Stm} {ng nl nu nt ns gm c:Nat} {v:Int} (n:Nat) (I:Mem W w F) (he:F.drop n=mdA gm x ng nl nu nt ns++T) (hx:MdOk x ng nl nu nt ns) (hv:loadS x.sta c=v):Calls Tryz.prog 119 #[vP gm 0,vI c] w (Is w (vI v)):=hv▸quk n I he hx
theorem qxo {x:Stm} {o:Op30} {c ct bb:Nat} {fr mo lc be:Int} {t:Tk} {ma:Bool} (hcc:o.cpu=(c:Int)) (hbz:busyF x.sta o.cpu x.cpus.toNat=(fr,mo)) (hlc:loadS x.sta c=lc) (hct:t.cpu=(ct:Int)) (hbb:be.toNat=bb) (hma:(t.ready&& (decide (t.cpu=fr)&& (decide ((t.mask/2^c)%2=1)&&decide (x.cu.getD ct 0≠t.id))))=ma):
  qey x.sta o be t=(ma&&decide (2*t.weight≤mo-lc)&& (decide (be<0)||decide ((x.ts.getD bb Tk.zero).weight<t.weight))):=by
 unfold qey mayB bitOn
 rw [show x.sta.cpus=x.cpus from rfl,hbz,hcc,Int.toNat_natCast,hlc,hbb,←hma,show x.sta.cu=x.cu from rfl,show x.sta.ts=x.ts from rfl,hct,Int.toNat_natCast]
 simp only [Bool.and_assoc]
theorem qj6 (W w:World) (x:Stm) (gm:Nat) (ng nl nu nt ns:Nat) (hx:MdOk x ng nl nu nt ns) (o:Op30) (ho:o.Ok) (T:List Fact) (I:Mem W w (mdA gm x ng nl nu nt ns++T)):
    Calls Tryz.prog 71 #[vP gm 0,.agg o.cells] w (OpIs W gm T (qao x.sta o)):=by
 obtain ⟨cp,cr,gA,gc,gs,lA,lc,cl,uA,uc,cu,tA,tc,ts,sA,sc,rs⟩:=x
 replace I:Mem W w (fM gm cp cr gA ng gc lA nl lc uA nu uc tA nt tc sA ns sc::fG gA ng gc gs::fI lA nl lc cl::fI uA nu uc cu::fT tA nt tc ts::fS sA ns sc rs::(fR rs++(T))):=I
 obtain ⟨hlg,hll,hlu,hlt,hls⟩:=hx.ln
 replace hlg:gs.length=ng:=hlg;replace hll:cl.length=nl:=hll;replace hlu:cu.length=nu:=hlu;replace hlt:ts.length=nt:=hlt;replace hls:rs.length=ns:=hls
 have hlns:=hx.ln
 have hsp:SpsOk gs cp rs:=hx.spots
 have hrg:rs.length=gs.length:=hx.sh.rs
 have hcr:cr<18446744073709551616:=hx.ok.credit
 obtain ⟨hcp1,hcp2,_,hgs⟩:=zq hx.sh.cfg
 replace hcp1:1≤cp:=hcp1;replace hcp2:cp≤64:=hcp2;replace hgs:gsOk gs=true:=hgs
 have hgl1:=(qq hgs).1;have hgl2:=(qq hgs).2.1
 have hcll:(cl.length:Int)=cp:=hx.sh.cl;have hcul:(cu.length:Int)=cp:=hx.sh.cu
 have hfts:ts.length≤1000000:=hx.few.t
 have hoc:=ho.cpu;have hot:=ho.task;have hog:=ho.group;have how:=ho.weight;have hoto:=ho.to;have hotk:=ho.ticks;have hom:=ho.mask;have hok8:=ho.kind;unfold I64 at hoc hot hog how hoto hotk
 have hwt_:=qit hx.sh;replace hwt_:∀t∈ts,1≤t.weight∧t.weight≤65536:=hwt_
 obtain ⟨guA,rfl⟩:=qn (I.own (i:=3) rfl) om
 have hld:∀c,loadS (⟨cp,cr,gA,gc,gs,lA,lc,cl,some ⟨guA,0,none⟩,uc,cu,tA,tc,ts,sA,sc,rs⟩:Stm).sta c≤65536000000∧0≤loadS (⟨cp,cr,gA,gc,gs,lA,lc,cl,some ⟨guA,0,none⟩,uc,cu,tA,tc,ts,sA,sc,rs⟩:Stm).sta c:=fun c=>by have h1:0≤loadN ts c∧loadN ts c≤65536*ts.length:=qg8 (c:=c) hwt_;exact ⟨by show loadN ts c≤_;omega,h1.1⟩
 refine (Jin2 I Tryz.func71 136) ?_
 refine (JP∘JE) fun w3 g3=>(Jp 2∘Jj∘JQ∘JP∘Jp 1∘Jg 1 O0∘JI (h:=by exact fun I=>qil 1 I rfl hx o.cpu)) fun w18 hbw=>(Jp 1∘Jd3∘Jj) (Ju (fun hb19=>?_) fun hb19=>?_)
 ·
  intro a Z I
  have hd19:=of_decide_eq_false ((Bool.not_eq_true' _).mp hb19)
  exact Jb Z I ((JT∘JP∘Jp 2∘Jj∘JZ∘Jz2) fun I=>by exact qr (y:=(⟨cp,cr,gA,gc,gs,lA,lc,cl,some ⟨guA,0,none⟩,uc,cu,tA,tc,ts,sA,sc,rs⟩:Stm)) 1 I rfl hlns (if_pos (decide_eq_false hd19)))
 intro a Z I
 have hd19:=of_decide_eq_true ((Bool.not_eq_false' _).mp hb19)
 replace hd19:0≤o.cpu∧o.cpu<cp:=hd19
 obtain ⟨c,hcc⟩:∃n:Nat,o.cpu=(n:Int):=⟨o.cpu.toNat,by omega⟩
 have hccp:((c:Nat):Int)<cp:=by omega
 obtain ⟨lc_,hlc_⟩:∃z,loadS (⟨cp,cr,gA,gc,gs,lA,lc,cl,some ⟨guA,0,none⟩,uc,cu,tA,tc,ts,sA,sc,rs⟩:Stm).sta c=z:=⟨_,rfl⟩
 have hlcb:=hld c
 rw [hlc_] at hlcb
 refine Jb Z I ((JF∘JS'∘JP∘Jp 2∘Jj∘JQ∘JP∘Jp 1∘Jn∘Jf 0∘Jf 0∘Jg 0 O1∘Jp 1∘Jj∘JB) fun a Z I=>?_)
 refine qj (fun mS aS wS=>∃(i:Nat) (fr:Int) (mo:Int),((i:Int)≤cp)∧(busyF (⟨cp,cr,gA,gc,gs,lA,lc,cl,some ⟨guA,0,none⟩,uc,cu,tA,tc,ts,sA,sc,rs⟩:Stm).sta o.cpu i=(fr,mo))∧mS=cp.toNat-i∧Fr aS 136 [] [(26,vI i),(25,vI cp),(7,vI mo),(6,vI fr),(19,.bool false),(5,vI 0),(4,vI 0),(3,vP g3 0),(0,vP gm 0)]∧Mem W wS (.blk g3 o.cells 98::fM gm cp cr gA ng gc lA nl lc (some ⟨guA,0,none⟩) nu uc tA nt tc sA ns sc::fG gA ng gc gs::fI lA nl lc cl::fI (some ⟨guA,0,none⟩) nu uc cu::fT tA nt tc ts::fS sA ns sc rs::(fR rs++(T)))) (m:=cp.toNat-0) ⟨0,(-1),(-1),by omega,rfl,rfl,Z.sub kr,I.pt 7 [0,1,2,3,4,5,6]⟩ ?_
 clear Z I;rintro mS a w_ ⟨i,fr,mo,hi,hbz,rfl,Z,I⟩
 refine Jb Z I ((JP∘Jp 1∘Jj∘JQ) (Ju (fun hb27=>?_) fun hb27=>?_))
 ·
  intro a Z I
  have hd27:=of_decide_eq_true hb27
  obtain ⟨lw,hlw⟩:∃z,loadS (⟨cp,cr,gA,gc,gs,lA,lc,cl,some ⟨guA,0,none⟩,uc,cu,tA,tc,ts,sA,sc,rs⟩:Stm).sta i=z:=⟨_,rfl⟩
  have hlwb:=hld i
  rw [hlw] at hlwb
  refine Jb Z I ((JT∘JS'∘JQ∘JB∘JP∘Jp 2∘Jd1∘Jr∘Jp 2∘JI (h:=by exact fun I=>qls 1 I rfl hx hlw)) fun w31 hbw=>(Jp 1∘Jd3∘Jr∘Jp 1∘Jf 1∘Jc O0∘Jo (vI c) (by rw [hcc])∘Jp 2) (Jh (fun hd36=>?_) fun hd36=>?_))
  ·
   refine (Jp 4∘Jd6∘Jj) (Ji (fun hd40=>?_) fun hd40=>?_)
   ·
    refine (JT∘JR∘Jp 4∘Jj∘JR∘JaK 1∘Jp 1∘Jd1∘Jq) fun a Z I=>?_
    exact ⟨_,om,i+1,(i:Int),lw,by omega,by rw [qhd hbz,if_pos ⟨by omega,by rw [hlw];omega⟩,hlw],rfl,Z.sub kr,I.pt 7 [0,1,2,3,4,5,6]⟩
   refine (JF∘JS'∘JR∘JaK 1∘Jp 1∘Jd1∘Jq) fun a Z I=>?_
   exact ⟨_,om,i+1,fr,mo,by omega,by rw [qhd hbz,if_neg (by rw [hlw];omega)],rfl,Z.sub kr,I.pt 7 [0,1,2,3,4,5,6]⟩
  refine (Jp 4∘Jd6∘Jj∘JF∘JS'∘JR∘JaK 1∘Jp 1∘Jd1∘Jq) fun a Z I=>?_
  exact ⟨_,om,i+1,fr,mo,by omega,by rw [qhd hbz,if_neg (by rw [hlw];omega)],rfl,Z.sub kr,I.pt 7 [0,1,2,3,4,5,6]⟩
 intro a Z I
 have hd27:=of_decide_eq_false hb27
 have hcpi:i=cp.toNat:=by omega
 revert I;revert a;repeat (first|clear Z|clear I)
 intro a Z I
 subst hcpi
 have hbb_:=qin (cpu:=o.cpu) hld de cp.toNat
 rw [hbz] at hbb_
 replace hbb_: -1≤fr∧fr<(cp.toNat:Int)∧ -1≤mo∧mo≤65536000000:=hbb_
 refine Jb Z I ((JF∘JX∘JG∘JP∘Jp 1∘Jj∘JQ∘JP∘Jp 1∘Jn∘Jf 0∘Jg 5 O1∘Jl∘Jp 1∘Jj∘JB) fun a Z I=>?_)
 refine qj (fun mS aS wS=>∃(n:Nat) (be:Int),(n≤ts.length)∧(bestI (bestF (⟨cp,cr,gA,gc,gs,lA,lc,cl,some ⟨guA,0,none⟩,uc,cu,tA,tc,ts,sA,sc,rs⟩:Stm).sta o n)=be)∧mS=ts.length-n∧Fr aS 136 [] [(50,vI n),(49,vI nt),(48,.slice tA nt tc),(10,vI be),(27,.bool false),(26,vI cp.toNat),(25,vI cp),(7,vI mo),(6,vI fr),(19,.bool false),(5,vI 0),(4,vI 0),(3,vP g3 0),(0,vP gm 0)]∧Mem W wS (.blk g3 o.cells 98::fM gm cp cr gA ng gc lA nl lc (some ⟨guA,0,none⟩) nu uc tA nt tc sA ns sc::fG gA ng gc gs::fI lA nl lc cl::fI (some ⟨guA,0,none⟩) nu uc cu::fT tA nt tc ts::fS sA ns sc rs::(fR rs++(T)))) (m:=ts.length-0) ⟨0,(-1),Nat.zero_le _,rfl,rfl,Z.sub kr,I.pt 7 [0,1,2,3,4,5,6]⟩ ?_
 clear Z I;rintro mS a w_ ⟨n,be,hn,hbe,rfl,Z,I⟩
 refine Jb Z I ((JP∘Jp 1∘Jj∘JQ) (Ju (fun hb51=>?_) fun hb51=>?_))
 ·
  intro a Z I
  have hd51:=of_decide_eq_true hb51
  revert I;revert a;repeat (first|clear Z|clear I)
  intro a Z I
  obtain ⟨gtA,rfl⟩:=qn (I.own (i:=5) rfl) (Nat.lt_of_le_of_lt (Nat.zero_le _) (show n<nt from (by omega:n<nt)))
  obtain ⟨t,ht⟩:∃z,ts[n]?=some z:=⟨_,List.getElem?_eq_getElem om⟩
  obtain ⟨htg,hto⟩:=hx.task ht
  have hti:=htg.id;have htgr:=htg.group;have htc:=htg.cpu;have htw:=htg.weight;have htv:=hto.v;have htr:=hto.r;have htm:=hto.mask
  replace htc:0≤t.cpu∧t.cpu<cp:=htc
  obtain ⟨gt,hgt⟩:∃n:Nat,t.group=(n:Int):=⟨t.group.toNat,by omega⟩
  obtain ⟨ct,hct⟩:∃n:Nat,t.cpu=(n:Int):=⟨t.cpu.toNat,by omega⟩
  obtain ⟨wt,hwt⟩:∃n:Nat,t.weight=(n:Int):=⟨t.weight.toNat,by omega⟩
  have hEo:(⟨t.v,t.r,wt⟩:En).Ok:=En.qh6 htg.ent hwt htv
  have hbi:=qhc hbe
  obtain ⟨bb,hbb⟩:∃n:Nat,be.toNat=n:=⟨_,rfl⟩
  have hmb:=Nat.div_le_self t.mask (2^c)
  have hbw:=fun h=>hwt_ (ts.getD bb Tk.zero) (qd Tk.zero h)
  refine Jb Z I ((JT∘JS'∘JQ∘JB∘JP∘Jp 1∘Jy (h:=by exact Yl.ix0 gtA n 8 rfl rfl rfl)∘Jy (v:= .agg t.cells) (h:=by exact Yl.loadS rfl rfl si_tk rfl (fun _ h=>h.qde qf (i:=5) rfl (ht)))∘JA #[vI 0,vI 0,vI 0,vI 0,vQ 0,.bool false,vQ 0,vW 0]) fun w12 g12=>(Jp 1∘JV si_tk O0' (h1:=by exact qid t)) fun w14_5=>(Jj) fun a Z I=>?_)
  refine zb (fun aS wS=>Fr aS 136 [] [(13,.bool (t.ready&& (decide (t.cpu=fr)&& (decide ((t.mask/2^c)%2=1)&&decide (cu.getD ct 0≠t.id))))),(11,vI n),(12,vP g12 0),(51,.bool true),(50,vI n),(49,vI nt),(48,vS gtA nt tc),(10,vI be),(27,.bool false),(26,vI cp.toNat),(25,vI cp),(7,vI mo),(6,vI fr),(19,.bool false),(5,vI 0),(4,vI 0),(3,vP g3 0),(0,vP gm 0)]∧Mem W wS (.blk g12 t.cells 61:: .blk g3 o.cells 98::fM gm cp cr gA ng gc lA nl lc (some ⟨guA,0,none⟩) nu uc (some ⟨gtA,0,none⟩) nt tc sA ns sc::fG gA ng gc gs::fI lA nl lc cl::fI (some ⟨guA,0,none⟩) nu uc cu::fT (some ⟨gtA,0,none⟩) nt tc ts::fS sA ns sc rs::(fR rs++(T)))) ?_ ?_
  ·
   refine Jb Z I ((Vs .n []) fun wd15=>(Vf 0 5∘Vc 1 O0∘Vp [2]) fun a Z I HS=>?_)
   rcases Z.tf 57 rfl with ⟨hb57,Z⟩|⟨hb57,Z⟩
   ·
    refine Vb Z I HS ((Vf 3 3∘Vp [5]∘Vc 4 O0∘Vp [6,7,8]) fun a Z I HS=>?_)
    rcases Z.tf 63 rfl with ⟨hb63,Z⟩|⟨hb63,Z⟩
    ·
     have hd63:=eq_of_beq hb63
     refine Vb Z I HS ((Vf 9 4∘Vf 11 1∘Vc 10 O0∘Vc 12 O1∘Vo (vI c) (by rw [hcc])∘Vy 13 (v:=vQ (t.mask/2^c:Nat)) (h:=by exact Yl.shrN (m:=t.mask) (n:=c) rfl rfl rfl (by show _≤64;omega))∘Vp [14]∘Vo (vQ ((t.mask/2^c)%2:Nat)) (by exact qf1 (n:=1) (j:=1) rfl de om)∘Vp [15,16,17]) fun a Z I HS=>?_)
     rcases Z.tf 72 rfl with ⟨hb72,Z⟩|⟨hb72,Z⟩
     ·
      have hd72:=eq_of_beq hb72
      refine Vb Z I HS ((Vp [18]∘Vf 23 3∘Vf 27 0∘Vn 19∘Vf 20 0∘Vf 21 4∘Vc 22 O2∘Vc 24 O0∘Vo (vI ct) (by rw [hct])∘Vy 25 (h:=by exact Yl.ix0 guA ct 1 rfl rfl rfl)∘Vy 26 (h:=by exact Yl.r1 5 ct 0 om rfl rfl rfl)∘Vc 28 O0∘Vp [29,30,31]∘Vd∘Jd6) fun a Z I=>?_)
      have Z:=Z.sp 13 (.bool (t.ready&& (decide (t.cpu=fr)&& (decide ((t.mask/2^c)%2=1)&&decide (cu.getD ct 0≠t.id))))) rfl (congrArg Value.bool (by rw [hb57,decide_eq_true hd63,decide_eq_true om,Bool.true_and,Bool.true_and,Bool.true_and];exact q03))
      exact ⟨Z.sub kr,I.pt 8 [0,1,2,3,4,5,6,7]⟩
     have hd72:=ne_of_beq_false hb72
     refine ap Z (fun _=>HS) [18,19,20,21,22,23,24,25,26,27,28,29,30,31] (bt 32 []) [(13,.bool false)] fun a Z=>?_
     refine qb kr ?_
     have Z:=Z.sp 13 (.bool (t.ready&& (decide (t.cpu=fr)&& (decide ((t.mask/2^c)%2=1)&&decide (cu.getD ct 0≠t.id))))) rfl (congrArg Value.bool (by rw [hb57,decide_eq_true hd63,decide_eq_false om];first|done|rfl))
     exact ⟨Z.sub kr,I.pt 8 [0,1,2,3,4,5,6,7]⟩
    have hd63:=ne_of_beq_false hb63
    refine ap Z (fun _=>HS) [9,10,11,12,13,14,15,16,17,18,19,20,21,22,23,24,25,26,27,28,29,30,31] (bt 32 []) [(13,.bool false)] fun a Z=>?_
    refine qb kr ?_
    have Z:=Z.sp 13 (.bool (t.ready&& (decide (t.cpu=fr)&& (decide ((t.mask/2^c)%2=1)&&decide (cu.getD ct 0≠t.id))))) rfl (congrArg Value.bool (by rw [hb57,decide_eq_false hd63];first|done|rfl))
    exact ⟨Z.sub kr,I.pt 8 [0,1,2,3,4,5,6,7]⟩
   refine ap Z (fun _=>HS) [3,4,5,6,7,8,9,10,11,12,13,14,15,16,17,18,19,20,21,22,23,24,25,26,27,28,29,30,31] (bt 32 []) [(13,.bool false)] fun a Z=>?_
   refine qb kr ?_
   have Z:=Z.sp 13 (.bool (t.ready&& (decide (t.cpu=fr)&& (decide ((t.mask/2^c)%2=1)&&decide (cu.getD ct 0≠t.id))))) rfl (congrArg Value.bool (by rw [hb57];try rfl))
   exact ⟨Z.sub kr,I.pt 8 [0,1,2,3,4,5,6,7]⟩
  clear Z I;rintro a w15 ⟨Z,I⟩
  obtain ⟨ma,hma⟩:∃b,(t.ready&& (decide (t.cpu=fr)&& (decide ((t.mask/2^c)%2=1)&&decide (cu.getD ct 0≠t.id))))=b:=⟨_,rfl⟩
  replace Z:=Z.sp 13 (.bool ma) rfl (by rw [hma])
  have htk:=qxo (x:=(⟨cp,cr,gA,gc,gs,lA,lc,cl,some ⟨guA,0,none⟩,uc,cu,some ⟨gtA,0,none⟩,tc,ts,sA,sc,rs⟩:Stm)) (be:=be) hcc hbz hlc_ hct hbb hma
  refine zb (fun aS wS=>Fr aS 136 [] [(116,.bool (qey (⟨cp,cr,gA,gc,gs,lA,lc,cl,some ⟨guA,0,none⟩,uc,cu,some ⟨gtA,0,none⟩,tc,ts,sA,sc,rs⟩:Stm).sta o be t)),(13,.bool ma),(11,vI n),(12,vP g12 0),(51,.bool true),(50,vI n),(49,vI nt),(48,vS gtA nt tc),(10,vI be),(27,.bool false),(26,vI cp.toNat),(25,vI cp),(7,vI mo),(6,vI fr),(19,.bool false),(5,vI 0),(4,vI 0),(3,vP g3 0),(0,vP gm 0)]∧Mem W wS (.blk g12 t.cells 61:: .blk g3 o.cells 98::fM gm cp cr gA ng gc lA nl lc (some ⟨guA,0,none⟩) nu uc (some ⟨gtA,0,none⟩) nt tc sA ns sc::fG gA ng gc gs::fI lA nl lc cl::fI (some ⟨guA,0,none⟩) nu uc cu::fT (some ⟨gtA,0,none⟩) nt tc ts::fS sA ns sc rs::(fR rs++(T)))) ?_ ?_
  ·
   refine Jb Z I ((Vs .n []) fun wd16=>(Vp [0,1]) fun a Z I HS=>?_)
   rcases Z.tf 87 rfl with ⟨hb87,Z⟩|⟨hb87,Z⟩
   ·
    refine Vb Z I HS ((Vf 2 2∘Vp [5,6]∘Vf 7 1∘Vc 3 O0∘Vp [4]∘Vo (vI (2*t.weight)) (by exact qcg ⟨by omega,by omega⟩)∘Vc 8 O1∘Vo (vI c) (by rw [hcc])∘VI 9 .n (h:=by exact fun I=>qls 2 I rfl hx hlc_)) fun w95 hbw=>(Vp [10]∘Vo (vI (mo-lc_)) (by exact qcg ⟨by omega,by omega⟩)∘Vp [11,12,13]) fun a Z I HS=>?_)
    rcases Z.tf 99 rfl with ⟨hb99,Z⟩|⟨hb99,Z⟩
    ·
     have hd99:=of_decide_eq_true hb99
     refine Vb Z I HS ((Vp [14,15,16]) fun a Z I HS=>?_)
     rcases Z.tf 102 rfl with ⟨hb102,Z⟩|⟨hb102,Z⟩
     ·
      have hd102:=of_decide_eq_true hb102
      refine Vb Z I HS ((Vq [17,18,19,20,21,22,23,24,25,26,27,28,29,30] [(116,.bool true)]∘Vd∘Jd6) fun a Z I=>?_)
      have Z:=Z.sp 116 (.bool (qey (⟨cp,cr,gA,gc,gs,lA,lc,cl,some ⟨guA,0,none⟩,uc,cu,some ⟨gtA,0,none⟩,tc,ts,sA,sc,rs⟩:Stm).sta o be t)) rfl (congrArg Value.bool (by rw [htk,hb87,decide_eq_true hd99,decide_eq_true hd102];rfl))
      exact ⟨Z.sub kr,I.pt 8 [0,1,2,3,4,5,6,7]⟩
     have hd102:=of_decide_eq_false hb102
     refine ap Z (fun _=>HS) [17,19] (bt 31 [18,20,21,22,23,24,25,26,27,28,29,30]) [(105,vP gm 0),(103,vP g12 2)] fun a Z=>?_
     refine s_ac Z HS 18 0 (v:=vI t.weight) fun a Z=>?_
     refine s_am Z HS 20 fun a Z=>?_
     refine ap Z (fun _=>HS) [21,22] (bt 31 [23,24,25,26,27,28,29,30]) [(108,vP gm 5)] fun a Z=>?_
     refine s_ac Z HS 23 2 fun a Z=>?_
     refine qcs Z (fun _=>HS) (i:=24) rfl rfl (d:=110) rfl de kr (fun _ _ _ h=>h) (v:=vI be) (fun _=>Yl.pure kr) fun a Z=>?_
     replace Z:=Z.sp 110 (vI bb) rfl (by rw [show be=(bb:Int) by omega])
     refine s_az Z HS 25 rfl (v:=vP gtA (bb*8)) (Yl.ix0 gtA bb 8 rfl rfl rfl) fun a Z=>?_
     refine ap Z (fun _=>HS) [26] (bt 31 [27,28,29,30]) [(112,vP gtA (bb*8+2))] fun a Z=>?_
     refine s_az Z HS 27 rfl (v:=vI ((ts.getD bb Tk.zero).weight)) (Yl.qe rfl rfl kr (fun _ h=>h.qp qf (i:=6) rfl (k:=bb) (off:=2) (x:=(ts.getD bb Tk.zero)) ((getD_at Tk.zero om)) rfl)) fun a Z=>?_
     refine ap Z (fun _=>HS) [28,29,30] (bt 31 []) [(116,.bool (decide ((t.weight:Int)>((ts.getD bb Tk.zero).weight:Int))))] fun a Z=>?_
     refine qb kr ?_
     have Z:=Z.sp 116 (.bool (qey (⟨cp,cr,gA,gc,gs,lA,lc,cl,some ⟨guA,0,none⟩,uc,cu,some ⟨gtA,0,none⟩,tc,ts,sA,sc,rs⟩:Stm).sta o be t)) rfl (congrArg Value.bool (by rw [htk,hb87,decide_eq_true hd99,decide_eq_false hd102];rfl))
     exact ⟨Z.sub kr,I.pt 8 [0,1,2,3,4,5,6,7]⟩
    have hd99:=of_decide_eq_false hb99
    refine ap Z (fun _=>HS) [14,15,16,17,18,19,20,21,22,23,24,25,26,27,28,29,30] (bt 31 []) [(116,.bool false)] fun a Z=>?_
    refine qb kr ?_
    have Z:=Z.sp 116 (.bool (qey (⟨cp,cr,gA,gc,gs,lA,lc,cl,some ⟨guA,0,none⟩,uc,cu,some ⟨gtA,0,none⟩,tc,ts,sA,sc,rs⟩:Stm).sta o be t)) rfl (congrArg Value.bool (by rw [htk,decide_eq_false hd99,Bool.and_false];rfl))
    exact ⟨Z.sub kr,I.pt 8 [0,1,2,3,4,5,6,7]⟩
   refine ap Z (fun _=>HS) [2,3,4,5,6,7,8,9,10,11,12,13,14,15,16,17,18,19,20,21,22,23,24,25,26,27,28,29,30] (bt 31 []) [(116,.bool false)] fun a Z=>?_
   refine qb kr ?_
   have Z:=Z.sp 116 (.bool (qey (⟨cp,cr,gA,gc,gs,lA,lc,cl,some ⟨guA,0,none⟩,uc,cu,some ⟨gtA,0,none⟩,tc,ts,sA,sc,rs⟩:Stm).sta o be t)) rfl (congrArg Value.bool (by rw [htk,hb87];rfl))
   exact ⟨Z.sub kr,I.pt 8 [0,1,2,3,4,5,6,7]⟩
  clear Z I;rintro a w16 ⟨Z,I⟩
  refine Jb Z I (Ju (fun hb116=>?_) fun hb116=>?_)
  ·
   refine (JT∘JR∘Jp 2∘Jd1∘Jj∘JR∘JaK 1∘Jp 1∘Jd1∘Jq) fun a Z I=>?_
   exact ⟨_,om,n+1,(n:Int),by omega,by rw [qle hbe,show (Stm.sta (⟨cp,cr,gA,gc,gs,lA,lc,cl,some ⟨guA,0,none⟩,uc,cu,some ⟨gtA,0,none⟩,tc,ts,sA,sc,rs⟩:Stm)).ts.getD n Tk.zero=t from zy Tk.zero ht,if_pos hb116],rfl,Z.sub kr,I.pt 8 [1,2,3,4,5,6,7]⟩
  refine (JF∘JS'∘JR∘JaK 1∘Jp 1∘Jd1∘Jq) fun a Z I=>?_
  exact ⟨_,om,n+1,be,by omega,by rw [qle hbe,show (Stm.sta (⟨cp,cr,gA,gc,gs,lA,lc,cl,some ⟨guA,0,none⟩,uc,cu,some ⟨gtA,0,none⟩,tc,ts,sA,sc,rs⟩:Stm)).ts.getD n Tk.zero=t from zy Tk.zero ht,if_neg (nt' hb116)],rfl,Z.sub kr,I.pt 8 [1,2,3,4,5,6,7]⟩
 intro a Z I
 have hd51:=of_decide_eq_false hb51
 have hnl:n=ts.length:=by omega
 revert I;revert a;repeat (first|clear Z|clear I)
 intro a Z I
 subst hnl
 have hbi:=qhc hbe
 refine Jb Z I ((JF∘JX∘JG∘JQ∘JP∘Jp 2∘Jd1∘Jj) (Ju (fun hb120=>?_) fun hb120=>?_))
 ·
  intro a Z I
  have hd120:=of_decide_eq_true hb120
  exact Jb Z I ((JT∘JP∘Jp 2∘Jj∘JZ∘Jz2) fun I=>by exact qr (y:=(⟨cp,cr,gA,gc,gs,lA,lc,cl,some ⟨guA,0,none⟩,uc,cu,tA,tc,ts,sA,sc,rs⟩:Stm)) 1 I rfl hlns (qlf (x:=(⟨cp,cr,gA,gc,gs,lA,lc,cl,some ⟨guA,0,none⟩,uc,cu,tA,tc,ts,sA,sc,rs⟩:Stm)) (decide_eq_true hd19) (by rw [hbe];omega)))
 intro a Z I
 have hd120:=of_decide_eq_false hb120
 obtain ⟨k,hk⟩:∃n:Nat,be=(n:Int):=⟨be.toNat,by omega⟩
 revert I;revert a;repeat (first|clear Z|clear I)
 intro a Z I
 subst hk
 revert I;revert a;repeat (first|clear Z|clear I)
 intro a Z I
 obtain ⟨gtA,rfl⟩:=qn (I.own (i:=5) rfl) (Nat.lt_of_le_of_lt (Nat.zero_le _) (show k<nt from (by omega:k<nt)))
 obtain ⟨t2,ht2⟩:∃z,ts[k]?=some z:=⟨_,List.getElem?_eq_getElem om⟩
 refine Jb Z I ((JF∘JS'∘JP∘Jp 1∘Jn∘Jf 0∘Jg 5 O1∘Jp 1∘Jy (h:=by exact Yl.ix0 gtA k 8 rfl rfl rfl)∘Jf 0∘Jy (v:=vI t2.id) (h:=by exact Yl.qe rfl rfl kr (fun _ h=>(by have:=h.qp qf (i:=5) rfl (k:=k) (off:=0) (x:=t2) (ht2) rfl;simpa using this)))∘Jp 1∘Jd6∘Jr∘Jp 2∘Jf 1∘Jc O0∘Jo (vI c) (by rw [hcc])∘JL (h:=by exact fun I=>qum 1 I rfl hx ht2 hccp)) ?_)
 rintro I _ w134 ⟨y,rfl,hys,HM2⟩
 refine ⟨_,rfl,_,(show Mem W w134 (.blk g3 o.cells 98::(mdB gm y++(T))) from HM2),?_⟩
 exact (Jt5∘Jr∘Jp 3∘Jj∘JZ∘Jz2) fun I=>by exact qy7 1 I rfl ((qlg (x:=(⟨cp,cr,gA,gc,gs,lA,lc,cl,some ⟨guA,0,none⟩,uc,cu,some ⟨gtA,0,none⟩,tc,ts,sA,sc,rs⟩:Stm)) (decide_eq_true hd19) hbe ht2).trans (by rw [hys,hcc]))
def qo8 (W:World) (n:Nat) (l:List Tk) (gv:Nat) (t:Tk) (fs:List Fact) (r:Ending) (w':World):Prop:=∃(A:Option Addr) (c:Nat),r= .returned (.slice A (n+1) c)∧n+1≤c∧Mem W w' (fT A (n+1) c l:: .blk gv t.cells 61::fs)
theorem qj7 {W w':World} {n:Nat} {l:List Tk} {gv:Nat} {t:Tk} {fs:List Fact} {r:Ending} {A:Option Addr} {c:Nat} (hr:r= .returned (.slice A (n+1) c)) (I:Mem W w' (fT A (n+1) c l:: .blk gv t.cells 61::fs)):qo8 W n l gv t fs r w':=by
 obtain ⟨A',c',h1,h2⟩:=qef (I.own (i:=0) rfl)
 injection h1 with h3 h4 h5
 subst h5
 exact ⟨A,c,hr,h2,I⟩
theorem qun {W w:World} {fs:List Fact} (I:Mem W w fs) {i j gv g off lb cb m c:Nat} {cs:Array Value} {xs:List Value} {tv:TypeId} (hv:fs[i]?=some (.blk gv cs tv)) (hi:fs[j]?=some (.row (.slice (some ⟨g,0,none⟩) m c) m xs 61 8)) (hij:i≠j) (hm:0<c) {ln lc:Nat}:
  (callFunc 140 [Value.slice (some ⟨gv,0,none⟩) ln lc,.slice (some ⟨g,off,none⟩) lb cb].toArray).run Tryz.prog w= .ok (.value (.bool false)) w:=by
 rw [run_callFunc_extern Tryz.func140 kr kr kr (e:=Extern.SlicesOverlaps.overlaps #[35,35] #[4]) kr]
 show ((Extern.SlicesOverlaps.overlaps #[35,35] #[4] #[.slice (some ⟨gv,0,none⟩) ln lc,.slice (some ⟨g,off,none⟩) lb cb]).run Tryz.prog w).andThen _=_
 rw [qku I ei_tk hv hi hij hm ln lc]
 rfl
theorem add0 {g k:Nat}:(some (⟨g,0,none⟩:Addr)).map (·.add k)=some ⟨g,k,none⟩:=by rw [Option.map_some,Addr.add_mid,Nat.zero_add]
theorem qup (l:List Tk) (i:Nat):(l.flatMap tkL).take (i*8)=(l.take i).flatMap tkL:=by
 rcases Nat.lt_or_ge l.length i with h|h
 ·rw [List.take_of_length_le (by rw [q9];omega),List.take_of_length_le om]
 ·have h1:((l.take i).flatMap tkL).length=i*8:=by rw [q9,List.length_take];omega
  conv=>lhs;rw [←List.take_append_drop i l,List.flatMap_append,←h1]
  exact List.take_left
theorem q24 {W w:World} {fs:List Fact} (h:Mem W w fs) {j g n c i:Nat} {l:List Tk} (hi:fs[j]?=some (.row (.slice (some ⟨g,0,none⟩) n c) n (l.flatMap tkL) 61 8)) (h1:i<l.length) (h2:l.length≤c):
  ∃ad,(if c=i+1 then some (⟨g,0,none⟩:Addr) else (some (⟨g,0,none⟩:Addr)).map (·.add ((i+1)*8)))=some ad∧∀k v,((l.drop (i+1)).flatMap tkL)[k]?=some v→w.cell? (ad.add k)=some v:=by
 by_cases e:c=i+1
 ·rw [if_pos e]
  refine ⟨_,rfl,fun k v hv=>?_⟩
  rw [List.drop_of_length_le om] at hv
  cases hv
 ·rw [if_neg e]
  refine ⟨⟨g,(i+1)*8,none⟩,by simp [Addr.add],?_⟩
  exact h.tkCells (a:=i+1) (ys:=[]) (by rw [List.append_nil];exact hi) ⟨l.length,List.take_of_length_le (by rw [List.length_drop];omega)⟩ om
theorem q04 {xs ys zs:List Value} {k:Nat} (h:xs.length=k) {j:Nat} (hj:k=j:=by rfl):(putAt (xs++ys) k zs).take j=xs:=by
 subst hj;subst h
 rw [qej,List.append_assoc]
 exact List.take_left
theorem quq (z t:Tk) (g:Nat) (w:World) (hg:w.heap[g]?=some (.cells t.cells 61 (0,0))):
    Calls Tryz.prog 108 #[.agg z.cells,vP g 0] w (Is w (.bool (decide (z.id>t.id)))):=by
 refine (JN2 Tryz.func108 9) ?_
 exact (JP∘JE) fun w2 g2=>(Jp 1∘Jr∘Jg 0 O0∘Jf 0∘Jy (v:=vI t.id) (h:=by exact Yl.qe rfl rfl kr (fun _ h=>h.qcc hg rfl))∘Jp 2∘Jd4∘Jj∘JZ) JY1
theorem qrc (A:Option Addr) (c:Nat) (l:List Tk) (t:Tk) (g:Nat) (w:World) (hr:Rd w w.heap.size 8 A l.length (l.flatMap tkL)) (hn:l.length≤1000000) (hg:w.heap[g]?=some (.cells t.cells 61 (0,0))):
    Calls Tryz.prog 107 #[.slice A l.length c,.func (.func 108) #[] #[vP g 0]] w (InsIs w l t.id):=by
 refine (JN2 Tryz.func107 19) ?_
 refine (JP∘Jp 1∘Jj∘JQ∘JP∘Jp 1∘Jl∘Jp 1∘Jj∘JB) fun a Z I=>?_
 refine qj (fun mS aS wS=>∃(k:Nat),(k≤l.length)∧(∀j,j<k→(l.getD j Tk.zero).id≤t.id)∧mS=l.length-k∧Fr aS 19 [] [(8,vI k),(7,vI l.length),(4,vI 0),(0,.slice A l.length c),(1,.func (.func 108) #[] #[vP g 0])]∧Mem w wS []) (m:=l.length-0) ⟨0,Nat.zero_le _,fun j h=>by omega,rfl,Z.sub kr,I.pk []⟩ ?_
 clear Z I;rintro mS a w_ ⟨k,hk,hu,rfl,Z,I⟩
 refine Jb Z I ((JP∘Jp 1∘Jj∘JQ) (Ju (fun hb9=>?_) fun hb9=>?_))
 ·
  intro a Z I
  have hd9:=of_decide_eq_true hb9
  have hk9:k<l.length:=by omega
  refine Jb Z I ((JT∘JS'∘JQ∘JB∘JP∘Jp 2∘Jd1∘Jr∘Jp 3) ?_)
  repeat (first|clear Z|clear I)
  intro a Z I
  obtain ⟨gA,oA,rfl,_⟩:=hr.qm (Nat.lt_of_le_of_lt (Nat.zero_le _) (show k<l.length from by omega)) de
  refine Jb Z I ((Jy (h:=by exact Yl.ix gA oA k 8 rfl rfl rfl)∘Jy (v:= .agg ((l.getD k Tk.zero).cells)) (h:=by exact Yl.loadS rfl rfl si_tk rfl (fun _ h=>(h.old hr).q7 qf ((getD_at Tk.zero om))))) fun a Z I=>?_)
  refine fo Z 5 rfl rfl ?_
  refine qag Z (f:=108) (vs:=[.agg ((l.getD k Tk.zero).cells)]) (fst:=[]) (caps:=[vP g 0]) rfl rfl rfl kr rfl de (quq (l.getD k Tk.zero) t g _ (I.oldBlk hg)) ?_
  rintro _ w16 ⟨rfl,hbw⟩
  refine ⟨_,rfl,?_⟩
  replace I:=I.call hbw
  clear Z;intro a Z
  refine Jb Z I ((Jd5∘Jj) (Ji (fun hd16=>?_) fun hd16=>?_))
  ·
   exact (JT∘JP∘Jp 2∘Jd1∘Jj∘JZ∘Jz1) fun I=>qqw hk9 hu om I.below
  refine (JF∘JS'∘JR∘JaK 1∘Jp 1∘Jd1∘Jq) fun a Z I=>?_
  exact ⟨_,om,k+1,by omega,qqy hu om,rfl,Z.sub kr,I.pk []⟩
 intro a Z I
 have hd9:=of_decide_eq_false hb9
 exact Jb Z I ((JF∘JX∘JG∘JP∘Jp 1∘Jj∘JZ∘Jz1) fun I=>qqx (fun j hj=>hu j om) I.below)
theorem qlt (W w:World) (A:Option Addr) (n c i:Nat) (l:List Tk) (t:Tk) (gv:Nat) (fs:List Fact) (hn:l.length=n) (hnn:n≤1000000) (hi:i≤n) (hcn:n≤c) (I:Mem W w (fT A n c l:: .blk gv t.cells 61::fs)):
    Calls Tryz.prog 109 #[.slice A n c,vI i,.slice (some ⟨gv,0,none⟩) 1 1] w (qo8 W n (insT l i t) gv t fs):=by
 refine (Jin3 I Tryz.func109 95) ?_
 refine (JP∘Jp 1∘Jr∘Jp 2∘Jy (h:=by exact Yl.sliceFrom ei_tk (j:=i) rfl rfl rfl om)∘Jt3∘Jr∘Jp 1∘Jl∘Jp 1∘Jd2∘Jj∘JQ∘JP∘Jv 2 [(16,.bool false)]∘Jj∘JF∘JS'∘JP∘Jp 1∘Jl∘Jp 1∘Jd2∘Jj∘JQ∘JP∘Jp 3∘Jd2∘Jj) (Je (fun hd22=>?_) fun hd22=>?_)
 ·
  refine (JT∘JP∘Jp 2∘JD (tkL t) 0 (fun _ _=>O0') ei_tk (hr:=by exact fun I=>I.rdBlk (i:=1) (n:=1) (size:=8) rfl rfl) (h1:=by exact qjq t)) fun w25 A25 c25 hc25=>fun a Z I=>?_
  replace I:=I.asRow (i:=0) (ys:=((l++[t]).flatMap tkL)) rfl (qt5 l t)
  refine Jb Z I ((Jp 1∘Jd3∘Jj∘JZ) fun a Z I=>?_)
  have HM3:=I.pt 2 [0,1]
  exact s_rt1 rfl Z rfl (qj7 rfl (HM3.asRow (i:=0) rfl (by rw [qw6 (l:=l) (t:=t) (i:=i) om])))
 refine (JF∘JS'∘JQ∘JP∘Jp 2∘JaK 1∘Jp 1∘Jy (h:=by exact Yl.cap rfl rfl kr)∘Jp 1∘Jd5∘Jj) (Ju (fun hb31=>?_) fun hb31=>?_)
 ·
  intro a Z I
  have hd31:=of_decide_eq_true hb31
  revert I;revert a;repeat (first|clear Z|clear I)
  intro a Z I
  obtain ⟨gA,rfl⟩:=qn (I.own (i:=0) rfl) (Nat.lt_of_le_of_lt (Nat.zero_le _) (show i<n from (by omega:i<n)))
  refine Jb Z I ((JT∘JP∘Jp 2∘Jy (h:=by exact Yl.qa3 ei_tk (j:=i) rfl rfl rfl om)∘Jp 2∘JaK 1∘Jp 1∘Js) fun a Z I=>?_)
  refine fo Z 8 rfl rfl ?_
  refine qh3 Z I (kn:= .i64) (xs:=(l.take i).flatMap tkL) (m:=n+1-i) rfl ei_tk kr rfl rfl ⟨by rw [q9,List.length_take];omega,I.tkCells (j:=0) (a:=0) (l:=l) (ys:=[]) (by rw [List.append_nil];rfl) ⟨i,rfl⟩ (Nat.zero_le _)⟩ om om om om rfl de ?_
  clear Z;intro a w40 g40 c40 Z HM2 hc40
  replace I:=HM2
  have hnsomeg400none:i+(n+1-i)=n+1:=om
  replace I:=I.reRow (i:=0) (ys:=((l.take i).flatMap tkL++zT (n+1-i))) rfl hnsomeg400none (rfl)
  replace Z:=Z.sp 40 (vS g40 (n+1) c40) rfl (by rw [hnsomeg400none])
  refine Jb Z I ((Jp 1∘Jd6∘Jr∘Jp 2∘Jy (v:= .slice (if c40=i then some ⟨g40,0,none⟩ else (some ⟨g40,0,none⟩:Option Addr).map (·.add (i*8))) ((n+1)-i) (c40-i)) (h:=by exact Yl.sliceFrom ei_tk (j:=i) rfl rfl rfl om)∘Jo (.slice (some ⟨g40,i*8,none⟩) (n+1-i) (c40-i)) (by rw [if_neg om,add0])∘Jp 1) fun a Z I=>?_)
  refine fo Z 4 rfl rfl ?_
  refine qod Z I (i:=0) (tkL t) rfl ei_tk rfl rfl rfl (by rw [qf,show Nat.min 1 (n+1-i)=1 from Nat.min_eq_left om]) (fun k v hv=>by rw [Addr.add_mid,Nat.zero_add];exact I.cell (i:=2) rfl (by rw [←Array.getElem?_toList];exact hv)) (qjq t) (by rw [qf];simp only [List.length_append,q9,qo3,List.length_take];omega) rfl de ?_
  clear Z I;intro a w45 Z I
  refine Jb Z I ((Jt5∘Jj) fun a Z I=>?_)
  refine wp_seq ?_
  refine Jb Z I ((Vs (.f .n) []) fun wd11=>(Vp [0,1,2,5,6]∘VaK 3 1∘Vy 4 (v:= .slice (if c40=(i+1) then some ⟨g40,0,none⟩ else (some ⟨g40,0,none⟩:Option Addr).map (·.add ((i+1)*8))) ((n+1)- (i+1)) (c40- (i+1))) (h:=by exact Yl.sliceFrom ei_tk (j:=(i+1)) rfl rfl rfl om)∘Vo (.slice (some ⟨g40,(i+1)*8,none⟩) (n+1- (i+1)) (c40- (i+1))) (by rw [if_neg om,add0])∘Vy 7 (v:= .slice (if c=i then some ⟨gA,0,none⟩ else (some ⟨gA,0,none⟩:Option Addr).map (·.add (i*8))) (n-i) (c-i)) (h:=by exact Yl.sliceFrom ei_tk (j:=i) rfl rfl rfl om)∘Vo (.slice (some ⟨gA,i*8,none⟩) (n-i) (c-i)) (by rw [if_neg om,add0])) fun a Z I HS=>?_)
  refine s_on Z 8 rfl ?_
  refine qod Z I (i:=0) ((l.drop i).flatMap tkL) rfl ei_tk rfl rfl rfl (by rw [q9,List.length_drop,show Nat.min (n-i) (n+1- (i+1))=n-i from Nat.min_eq_left om];omega) (I.tkCells (j:=1) (a:=i) (ys:=[]) (by rw [List.append_nil];rfl) ⟨l.length,List.take_of_length_le (by rw [List.length_drop];omega)⟩ om) (fun v hv=>qfu _ v hv) (by rw [qeg (by rw [qf];simp only [List.length_append,q9,qo3,List.length_take];omega),q9,List.length_drop];simp only [List.length_append,q9,qo3,List.length_take];omega) rfl de ?_
  clear Z I;intro a w54 Z I
  refine keepS (I.pt 3 [1,2]) (fun HS=>?_)
  refine Vb Z I HS ((Vd∘Jt6∘JP∘Jp 2∘Jd4∘Jj∘JZ) fun a Z I=>?_)
  have HM3:=I.pt 3 [0,2]
  exact s_rt1 rfl Z rfl (qj7 rfl (HM3.asRow (i:=0) rfl (by rw [←hn];exact qw7 om)))
 intro a Z I
 have hd31:=of_decide_eq_false hb31
 revert I;revert a;repeat (first|clear Z|clear I)
 intro a Z I
 obtain ⟨gA,rfl⟩:=qn (I.own (i:=0) rfl) (Nat.lt_of_le_of_lt (Nat.zero_le _) (show i<n from (by omega:i<n)))
 refine Jb Z I ((JF∘JS'∘JP∘Jp 3∘JaK 1∘Jy (h:=by exact Yl.qa3 ei_tk (j:=n+1) rfl rfl rfl om)∘Jp 1∘Jd5∘Jq) fun a Z I=>?_)
 obtain ⟨ys,hys,HM2⟩:=I.growRow (i:=0) (m':=n+1) rfl om om
 replace I:=HM2;clear HM2
 replace hys:ys.length=8:=by rw [hys];omega
 refine Jb Z I ((JG∘JQ∘JP∘Jp 4∘JaK 1∘Jy (v:= .slice (if c=(i+1) then some ⟨gA,0,none⟩ else (some ⟨gA,0,none⟩:Option Addr).map (·.add ((i+1)*8))) ((n+1)- (i+1)) (c- (i+1))) (h:=by exact Yl.sliceFrom ei_tk (j:=(i+1)) rfl rfl rfl om)∘Jo (.slice (some ⟨gA,(i+1)*8,none⟩) (n+1- (i+1)) (c- (i+1))) (by rw [if_neg om,add0])) fun a Z I=>?_)
 refine fo Z 6 rfl rfl ?_
 refine qwb Z I rfl rfl (qun I (i:=1) (j:=0) rfl rfl de om) rfl de ?_
 clear Z;intro a Z
 refine Jb Z I ((Jp 1∘Jd6∘Jj∘JT) fun a Z I=>?_)
 refine wp_seq ?_
 refine Jb Z I ((Vs (.f .n) []) fun wd15=>(Vp [0,1,2,5,6]∘VaK 3 1∘Vy 4 (v:= .slice (if c=(i+1) then some ⟨gA,0,none⟩ else (some ⟨gA,0,none⟩:Option Addr).map (·.add ((i+1)*8))) ((n+1)- (i+1)) (c- (i+1))) (h:=by exact Yl.sliceFrom ei_tk (j:=(i+1)) rfl rfl rfl om)∘Vo (.slice (some ⟨gA,(i+1)*8,none⟩) (n+1- (i+1)) (c- (i+1))) (by rw [if_neg om,add0])∘Vy 7 (v:= .slice (if c=i then some ⟨gA,0,none⟩ else (some ⟨gA,0,none⟩:Option Addr).map (·.add (i*8))) ((n+1)-i) (c-i)) (h:=by exact Yl.sliceFrom ei_tk (j:=i) rfl rfl rfl om)∘Vo (.slice (some ⟨gA,i*8,none⟩) (n+1-i) (c-i)) (by rw [if_neg om,add0])) fun a Z I HS=>?_)
 refine s_on Z 8 rfl ?_
 refine qod Z I (i:=0) ((l.drop i).flatMap tkL) rfl ei_tk rfl rfl rfl (by rw [q9,List.length_drop,show Nat.min (n+1-i) (n+1- (i+1))=n+1- (i+1) from Nat.min_eq_right om];omega) (I.tkCells (j:=0) (a:=i) (ys:=ys) rfl ⟨l.length,List.take_of_length_le (by rw [List.length_drop];omega)⟩ om) (fun v hv=>qfu _ v hv) (by rw [q9,List.length_drop,List.length_append,q9];omega) rfl de ?_
 clear Z I;intro a w77 Z I
 refine keepS (I.pt 2 [1]) (fun HS=>?_)
 refine Vb Z I HS ((Vd∘Jt6∘JP∘Jp 2∘Jy (v:= .slice (if c=i then some ⟨gA,0,none⟩ else (some ⟨gA,0,none⟩:Option Addr).map (·.add (i*8))) ((n+1)-i) (c-i)) (h:=by exact Yl.sliceFrom ei_tk (j:=i) rfl rfl rfl om)∘Jo (.slice (some ⟨gA,i*8,none⟩) (n+1-i) (c-i)) (by rw [if_neg om,add0])∘Jp 1) fun a Z I=>?_)
 refine fo Z 4 rfl rfl ?_
 refine qod Z I (i:=0) (tkL t) rfl ei_tk rfl rfl rfl (by rw [qf,show Nat.min 1 (n+1-i)=1 from Nat.min_eq_left om]) (fun k v hv=>by rw [Addr.add_mid,Nat.zero_add];exact I.cell (i:=1) rfl (by rw [←Array.getElem?_toList];exact hv)) (qjq t) (by rw [qf,qeg (by rw [q9,List.length_drop,List.length_append,q9];omega),List.length_append,q9];omega) rfl de ?_
 clear Z I;intro a w82 Z I
 refine Jb Z I ((Jt6∘Jr∘Jp 2∘Jd3∘Jj∘JZ) fun a Z I=>?_)
 have HM3:=I.pt 2 [0,1]
 exact s_rt1 rfl Z rfl (qj7 rfl (HM3.asRow (i:=0) rfl (qt6 om hys)))
theorem qlu (W w:World) (g n c i:Nat) (l:List Tk) (fs:List Fact) (hn:l.length=n) (hnn:n≤1000000) (hi:i<n) (hcn:n≤c) (I:Mem W w (fT (some ⟨g,0,none⟩) n c l::fs)):
    Calls Tryz.prog 113 #[.slice (some ⟨g,0,none⟩) n c,vI i,vI ((i+1:Nat):Int)] w (fun r w'=>r= .returned (.slice (some ⟨g,0,none⟩) (n-1) c)∧Mem W w' (fT (some ⟨g,0,none⟩) (n-1) c (l.eraseIdx i)::fs)):=by
 refine (Jin3 I Tryz.func113 33) ?_
 refine (JP∘Jp 1∘Jr∘Jp 4∘Jl∘Jy (v:= .slice (if n=i then some ⟨g,0,none⟩ else (some ⟨g,0,none⟩:Option Addr).map (·.add (i*8))) ((i+1)-i) (n-i)) (h:=by exact Yl.q3s ei_tk (i:=i) (j:=i+1) (q:=n) rfl rfl rfl rfl rfl om om om)∘Jt6∘Jj∘JQ∘JP∘Jp 3∘Jd2∘Jj) (Ju (fun hb16=>?_) fun hb16=>?_)
 ·
  intro a Z I
  have hd16:=eq_of_beq hb16
  exact absurd hd16 om
 intro a Z I
 have hd16:=ne_of_beq_false hb16
 refine Jb Z I ((JF∘JS'∘JP∘Jp 1∘Jl∘Jp 1∘Jd2∘Jj) fun a Z I=>?_)
 refine wp_seq ?_
 refine Jb Z I ((Vs (.f .n) []) fun wd5=>(Vp [0,1,3,4]∘Vy 2 (h:=by exact Yl.qa3 ei_tk (j:=i) rfl rfl rfl om)∘Vy 5 (h:=by exact Yl.sliceFrom ei_tk (j:=(i+1)) rfl rfl rfl om)) fun a Z I HS=>?_)
 refine s_on Z 6 rfl ?_
 obtain ⟨ad,had,hsrc⟩:=q24 I (j:=0) (i:=i) rfl (by omega:i<l.length) (by omega:l.length≤c)
 replace Z:=Z.sp 25 (.slice (some ad) (n- (i+1)) (c- (i+1))) rfl (by rw [had])
 replace I:=I.cutR (i:=0) (m':=i) (ys:=(l.take i).flatMap tkL) rfl om (qup l i)
 refine qmp Z I (i:=0) (news:=(l.drop (i+1)).flatMap tkL) rfl ei_tk rfl rfl rfl (by rw [q9,List.length_drop];omega) hsrc om (fun v hv=>qfu _ v hv) rfl de ?_
 clear Z I;intro a w26 Z I
 refine keepS (I.pt 1 []) (fun HS=>?_)
 refine Vb Z I HS ((Vp [7]∘Vd∘Jd6) fun a Z I=>?_)
 have hnsomeg0none:i+(n- (i+1))=n-1:=om
 replace I:=I.reRow (i:=0) (ys:=(l.eraseIdx i).flatMap tkL) rfl hnsomeg0none (qw8 om)
 replace Z:=Z.sp 0 (vS g (n-1) c) rfl (by rw [hnsomeg0none])
 refine Jb Z I ((JP∘Jp 2∘Jl∘Jp 1∘Jy (v:= .slice (if c=n-1 then some ⟨g,0,none⟩ else (some ⟨g,0,none⟩:Option Addr).map (·.add ((n-1)*8))) (n- (n-1)) (c- (n-1))) (h:=by exact Yl.qv3 ei_tk (i:=n-1) (j:=n) rfl rfl rfl rfl om om)∘Jo (.slice (some ⟨g,(n-1)*8,none⟩) (n- (n-1)) (c- (n-1))) (by rw [if_neg om,add0])) fun a Z I=>?_)
 refine fo Z 5 rfl rfl ?_
 obtain ⟨ys,hys,HM2⟩:=I.growRow (i:=0) (m':=n) rfl om om
 replace I:=HM2;clear HM2
 refine qzx Z I (i:=0) rfl ei_tk rfl rfl om (q22 _) (by rw [List.length_append,hys,q9,List.length_eraseIdx,if_pos om];omega) rfl ?_
 clear I;intro w6_5 I
 replace I:=I.cutR (i:=0) (m':=n-1) (ys:=(l.eraseIdx i).flatMap tkL) rfl om (q04 (by rw [q9,List.length_eraseIdx,if_pos om];omega))
 refine Jb Z I ((Jt5∘Jr∘Jp 2∘Jd1∘Jj∘JZ) fun a Z I=>?_)
 exact s_rt1 rfl Z rfl ⟨rfl,I⟩
theorem qur {W w:World} {g n c i:Nat} {l:List Tk} {F F':List Fact} (O:Upd (fT (some ⟨g,0,none⟩) n c l) (fT (some ⟨g,0,none⟩) (n-1) c (l.eraseIdx i)) F F') (I:Mem W w F) (hn:l.length=n) (hnn:n≤1000000) (hi:i<n):
  Calls Tryz.prog 113 #[.slice (some ⟨g,0,none⟩) n c,vI i,vI ((i+1:Nat):Int)] w (fun r w'=>r= .returned (.slice (some ⟨g,0,none⟩) (n-1) c)∧Mem W w' F'):=by
 obtain ⟨p,q,rfl,rfl⟩:=O.split
 have h2:=I.perm List.perm_middle
 obtain ⟨A',c',h3,h4⟩:=qef (h2.own (i:=0) rfl)
 injection h3 with _ _ h5
 subst h5
 exact (qlu W w g n c i l (p++q) hn hnn hi h4 h2).mono fun r w' h=>⟨h.1,h.2.perm List.perm_middle.symm⟩
theorem At.mem {α:Type} {a:α} {l:List α} (h:At l a):a∈l:=by
 induction h with
 |z=>exact List.mem_cons_self ..
 |s _ ih=>exact List.mem_cons_of_mem _ ih
theorem qlv {W w:World} {A:Option Addr} {n c i gv:Nat} {l:List Tk} {F:List Fact} {F':Option Addr→Nat→List Fact} (t:Tk) (j:Nat) (O:∀A' c',Upd (fT A n c l) (fT A' (n+1) c' (insT l i t)) F (F' A' c')) (V:At F (.blk gv t.cells 61)) (I:Mem W w F) (hn:l.length=n) (hnn:n≤1000000) (hi:i≤n) (hj:F[j]?=some (fT A n c l):=by exact rfl) (hu:(fun A' c'=>F.set j (fT A' (n+1) c' (insT l i t)))=F':=by kernel_rfl):
  Calls Tryz.prog 109 #[.slice A n c,vI i,.slice (some ⟨gv,0,none⟩) 1 1] w (fun r w'=>∃A' c',r= .returned (.slice A' (n+1) c')∧n+1≤c'∧Mem W w' (F' A' c')):=by
 have hjl:=(List.getElem?_eq_some_iff.1 hj).1
 obtain ⟨p,q,hF,hset⟩:∃p q,F=p++fT A n c l::q∧∀b,F.set j b=p++b::q:=⟨F.take j,F.drop (j+1),by rw [←(List.getElem?_eq_some_iff.1 hj).2,←List.drop_eq_getElem_cons hjl,List.take_append_drop],fun b=>by rw [List.set_eq_take_append_cons_drop,if_pos hjl]⟩
 have h2:=(hF▸I).perm (List.perm_middle (l₁:=p) (a:=fT A n c l) (l₂:=q))
 obtain ⟨A',c',h3,h4⟩:=qef (h2.own (i:=0) rfl)
 injection h3 with _ _ h5
 subst h5
 have hv:=V.mem
 rw [hF] at hv
 have hv2:Fact.blk gv t.cells 61∈p++q:=by
  rcases List.mem_append.1 hv with h|h
  ·exact List.mem_append_left _ h
  ·rcases List.mem_cons.1 h with h|h
   ·cases h
   ·exact List.mem_append_right _ h
 obtain ⟨s,u,hs⟩:=List.append_of_mem hv2
 rw [hs] at h2
 have h6:=h2.perm (List.Perm.cons _ (List.perm_middle (l₁:=s) (a:=Fact.blk gv t.cells 61) (l₂:=u)))
 refine (qlt W w A n c i l t gv (s++u) hn hnn hi h4 h6).mono fun r w' ⟨A',c',e1,e2,e3⟩=>⟨A',c',e1,e2,?_⟩
 have h7:=e3.perm (List.Perm.cons _ (List.perm_middle (l₁:=s) (a:=Fact.blk gv t.cells 61) (l₂:=u)).symm)
 rw [←hs] at h7
 have h8:=h7.perm (List.perm_middle (l₁:=p) (l₂:=q)).symm
 rw [←hset] at h8
 have h9:=congrFun (congrFun hu A') c'
 rw [←h9]
 exact h8
theorem q05 {W w:World} {g:Nat} {F F':List Fact} (t t1:Tk) (x:En) (h1:t.put x=t1) (O:Upd (.blk g t.cells 61) (.blk g t1.cells 61) F F') (I:Mem W w F) (hx:x.Ok):
  Calls Tryz.prog 106 #[vP g 0,.agg x.cells] w (fun r w'=>r= .returned (.tuple #[])∧Mem W w' F'):=by
 subst h1
 exact q0s t x O I hx
theorem qus {w:World} {A:Option Addr} {c n g:Nat} {l:List Tk} {t:Tk} (hl:l.length=n) (hr:Rd w w.heap.size 8 A n (l.flatMap tkL)) (hn:l.length≤1000000) (hg:w.heap[g]?=some (.cells t.cells 61 (0,0))):Calls Tryz.prog 107 #[.slice A n c,.func (.func 108) #[] #[vP g 0]] w (InsIs w l t.id):=by
 subst hl
 exact qrc A c l t g w hr hn hg
theorem qo9 {x:Stm} {ng nl nu nt ns nt' tc':Nat} {tA':Option Addr} {ts':List Tk} (h:Lns x ng nl nu nt ns) (ht:ts'.length=nt'):Lns {x with tA:=tA',tc:=tc',ts:=ts'} ng nl nu nt' ns:=⟨h.g,h.l,h.u,ht,h.s⟩
theorem qj8 {o:Op30} {cp:Int} {cn:Nat} (hc:cp=(cn:Int)) (h:1≤o.weight∧o.weight≤65536∧o.mask≠0∧¬2^cn≤o.mask):¬(wOk o.weight=false∨o.mask=0∨qdw o.mask cp=true):=by
 subst hc
 rintro (h1|h1|h1)
 ·exact of_decide_eq_false h1 ⟨h.1,h.2.1⟩
 ·exact h.2.2.1 h1
 ·exact h.2.2.2 (of_decide_eq_true h1)
theorem qxp {o:Op30} {cp:Int} {cn:Nat} (hc:cp=(cn:Int)) (h:¬(1≤o.weight∧o.weight≤65536∧o.mask≠0∧¬2^cn≤o.mask)):wOk o.weight=false∨o.mask=0∨qdw o.mask cp=true:=by
 subst hc
 by_cases h1:1≤o.weight∧o.weight≤65536
 ·by_cases h2:o.mask=0
  ·exact .inr (.inl h2)
  ·exact .inr (.inr (decide_eq_true (Classical.byContradiction fun h3=>h ⟨h1.1,h1.2,h2,h3⟩)))
 ·exact .inl (decide_eq_false h1)
theorem qhi (W w:World) (x:Stm) (gm:Nat) (ng nl nu nt ns:Nat) (hx:MdOk x ng nl nu nt ns) (o:Op30) (ho:o.Ok) (T:List Fact) (I:Mem W w (mdA gm x ng nl nu nt ns++T)) (hcur:∀c,c<x.cu.length→curOk x.sta c=true):
    Calls Tryz.prog 65 #[vP gm 0,.agg o.cells] w (OpIs W gm T (qby x.sta o)):=by
 obtain ⟨cp,cr,gA,gc,gs,lA,lc,cl,uA,uc,cu,tA,tc,ts,sA,sc,rs⟩:=x
 replace I:Mem W w (fM gm cp cr gA ng gc lA nl lc uA nu uc tA nt tc sA ns sc::fG gA ng gc gs::fI lA nl lc cl::fI uA nu uc cu::fT tA nt tc ts::fS sA ns sc rs::(fR rs++(T))):=I
 obtain ⟨hlg,hll,hlu,hlt,hls⟩:=hx.ln
 replace hlg:gs.length=ng:=hlg;replace hll:cl.length=nl:=hll;replace hlu:cu.length=nu:=hlu;replace hlt:ts.length=nt:=hlt;replace hls:rs.length=ns:=hls
 have hlns:=hx.ln
 have hsp:SpsOk gs cp rs:=hx.spots
 have hrg:rs.length=gs.length:=hx.sh.rs
 have hcr:cr<18446744073709551616:=hx.ok.credit
 obtain ⟨hcp1,hcp2,_,hgs⟩:=zq hx.sh.cfg
 replace hcp1:1≤cp:=hcp1;replace hcp2:cp≤64:=hcp2;replace hgs:gsOk gs=true:=hgs
 have hgl1:=(qq hgs).1;have hgl2:=(qq hgs).2.1
 have hcll:(cl.length:Int)=cp:=hx.sh.cl;have hcul:(cu.length:Int)=cp:=hx.sh.cu
 have hfts:ts.length≤1000000:=hx.few.t
 have hoc:=ho.cpu;have hot:=ho.task;have hog:=ho.group;have how:=ho.weight;have hoto:=ho.to;have hotk:=ho.ticks;have hom:=ho.mask;have hok8:=ho.kind;unfold I64 at hoc hot hog how hoto hotk
 have hcuo:=hx.ok.cu
 obtain ⟨guA,rfl⟩:=qn (I.own (i:=3) rfl) om
 refine (Jin2 I Tryz.func65 60) ?_
 refine (JP∘JE) fun w3 g3=>(Jp 2∘Jj∘JQ∘JP∘Jp 1∘Jg 1 O0∘JI (h:=by exact fun I=>qil 1 I rfl hx o.cpu)) fun w11 hbw=>(Jp 1∘Jd3∘Jj) (Ju (fun hb12=>?_) fun hb12=>?_)
 ·
  intro a Z I
  have hd12:=of_decide_eq_false ((Bool.not_eq_true' _).mp hb12)
  exact Jb Z I ((JT∘JP∘Jp 2∘Jj∘JZ∘Jz2) fun I=>by exact qr (y:=(⟨cp,cr,gA,gc,gs,lA,lc,cl,some ⟨guA,0,none⟩,uc,cu,tA,tc,ts,sA,sc,rs⟩:Stm)) 1 I rfl hlns (if_pos (decide_eq_false hd12)))
 intro a Z I
 have hd12:=of_decide_eq_true ((Bool.not_eq_false' _).mp hb12)
 replace hd12:0≤o.cpu∧o.cpu<cp:=hd12
 obtain ⟨c,hcc⟩:∃n:Nat,o.cpu=(n:Int):=⟨o.cpu.toNat,by omega⟩
 have hccp:((c:Nat):Int)<cp:=by omega
 obtain ⟨id,hid⟩:∃z,cu.getD c 0=z:=⟨_,rfl⟩
 have hidI:I64 id:=by rw [←hid];exact hcuo _ (qd 0 (by show c<cu.length;omega))
 unfold I64 at hidI
 refine Jb Z I ((JF∘JS') fun a Z I=>?_)
 refine wp_seq ?_
 refine Jb Z I ((Vs .n []) fun wd3=>(Vp [0]∘Vf 5 1∘Vn 1∘Vf 2 0∘Vf 3 4∘Vc 4 O1∘Vc 6 O0∘Vo (vI c) (by rw [hcc])∘Vy 7 (h:=by exact Yl.ix0 guA c 1 rfl rfl rfl)∘Vy 8 (v:=vI (cu.getD c 0)) (h:=by exact Yl.r1 4 c 0 om rfl rfl rfl)∘Vo (vI id) (by rw [hid])∘Vp [9]∘Vd∘Jd6∘JQ∘JP∘Jp 2∘Jd1∘Jj) (Ju (fun hb23=>?_) fun hb23=>?_))
 ·
  intro a Z I
  have hd23:=eq_of_beq hb23
  exact Jb Z I ((JT∘JP∘Jp 2∘Jj∘JZ∘Jz2) fun I=>by exact qr (y:=(⟨cp,cr,gA,gc,gs,lA,lc,cl,some ⟨guA,0,none⟩,uc,cu,tA,tc,ts,sA,sc,rs⟩:Stm)) 1 I rfl hlns ((if_neg (nf (decide_eq_true hd12))).trans (if_pos (by show cu.getD o.cpu.toNat 0=0;rw [hcc,Int.toNat_natCast,hid];omega))))
 intro a Z I
 have hd23:=ne_of_beq_false hb23
 have hid0:id≠0:=by omega
 have hcuk:=qlr (x:=(⟨cp,cr,gA,gc,gs,lA,lc,cl,some ⟨guA,0,none⟩,uc,cu,tA,tc,ts,sA,sc,rs⟩:Stm)) (hcur c (by show c<cu.length;omega)) (by show cu.getD c 0≠0;rw [hid];exact hid0)
 rw [show (Stm.cu (⟨cp,cr,gA,gc,gs,lA,lc,cl,some ⟨guA,0,none⟩,uc,cu,tA,tc,ts,sA,sc,rs⟩:Stm)).getD c 0=id from hid] at hcuk
 obtain ⟨k,t,hk,ht,hkl,hkid⟩:=hcuk
 replace hk:fidx ts id=(k:Int):=hk;replace ht:ts[k]?=some t:=ht;replace hkl:k<ts.length:=hkl
 revert I;revert a;repeat (first|clear Z|clear I)
 intro a Z I
 obtain ⟨gtA,rfl⟩:=qn (I.own (i:=5) rfl) (Nat.lt_of_le_of_lt (Nat.zero_le _) (show k<nt from (by omega:k<nt)))
 refine Jb Z I ((JF∘JS'∘JP∘Jp 2∘JI (h:=by exact fun I=>qo7 1 I rfl hx id k hk)) fun w26 hbw=>(Jp 1∘Jd3∘Jj) fun a Z I=>?_)
 refine wp_seq ?_
 refine Jb Z I ((Vs (.t (.t (.t (.t (.f .n))))) [17]) fun wd7=>(Vp [0]∘Vf 5 1∘Vp [7,12]∘Vn 1∘Vf 2 0∘Vf 3 4∘Vc 4 O1∘Vc 6 O0∘Vo (vI c) (by rw [hcc])∘Vn 8∘Vf 9 0∘Vf 10 5∘Vc 11 O1∘Vy 13 (h:=by exact Yl.ix0 guA c 1 rfl rfl rfl)) fun a Z I HS=>?_)
 refine s_on Z 14 rfl ?_
 refine q4 Z I (i:=4) rfl rfl rfl rfl kr rfl rfl (by rw [List.length_map];omega) ?_
 clear I;intro w7_14 I
 replace I:=I.asRow (i:=4) (ys:=(cu.set c 0).map I64i) rfl (qc7 I64i cu c 0 om)
 refine keepS (I.pt 7 [0,1,2,3,5,6]) (fun HS=>?_)
 refine Vb Z I HS ((Vu 15 (h:=by exact fun _=>Yl.ix0 gtA k 8 rfl rfl rfl)∘Vf 16 5) fun a Z I HS=>?_)
 refine s_on Z 17 rfl ?_
 refine q4 Z I (i:=5) rfl rfl rfl rfl kr rfl rfl (by rw [zt tkL 8 qf];omega) ?_
 clear I;intro w7_17 I
 replace I:=I.asRow (i:=5) (ys:=(ts.set k {t with ready:=false}).flatMap tkL) rfl (zu tkL 8 qf ts k t {t with ready:=false} ht 5 de _ rfl)
 refine noS kr ?_
 refine qb kr ?_
 refine Jb Z I ((JQ∘JP∘Jg 0 O0∘Jp 1∘Jd6∘Jj) (Je (fun hd45=>?_) fun hd45=>?_))
 ·
  exact (JT∘JR∘Jp 2∘Jn∘Jf 0∘Jg 5 O1∘Jp 2∘JaK 1∘JO (h:=by exact fun I=>qur O5' I (by rw [List.length_set];exact hlt) om om)) fun w55=>(Jn∘Jf 0∘Jf 5∘JW O1' O5') fun w9_13=>(Jt6∘Jr∘Jp 3∘Jj∘JZ∘Jz2) fun I=>by exact qr (y:=(⟨cp,cr,gA,gc,gs,lA,lc,cl,some ⟨guA,0,none⟩,uc,(cu.set c 0),some ⟨gtA,0,none⟩,tc,((ts.set k {t with ready:=false}).eraseIdx k),sA,sc,rs⟩:Stm)) 1 I rfl ⟨hlns.g,hlns.l,by show (cu.set _ _).length=nu;rw [List.length_set];exact hlu,by show ((ts.set k _).eraseIdx k).length=nt-1;rw [List.length_eraseIdx,List.length_set,if_pos om];omega,hlns.s⟩ (qw9 (x:=(⟨cp,cr,gA,gc,gs,lA,lc,cl,some ⟨guA,0,none⟩,uc,cu,some ⟨gtA,0,none⟩,tc,ts,sA,sc,rs⟩:Stm)) (decide_eq_true hd12) hcc hid hid0 hk ht om)
 exact (JF∘JS'∘JP∘Jp 3∘Jj∘JZ∘Jz2) fun I=>by exact qr (y:=(⟨cp,cr,gA,gc,gs,lA,lc,cl,some ⟨guA,0,none⟩,uc,(cu.set c 0),some ⟨gtA,0,none⟩,tc,(ts.set k {t with ready:=false}),sA,sc,rs⟩:Stm)) 1 I rfl ⟨hlns.g,hlns.l,by show (cu.set _ _).length=nu;rw [List.length_set];exact hlu,by show (ts.set k _).length=nt;rw [List.length_set];exact hlt,hlns.s⟩ (qqz (x:=(⟨cp,cr,gA,gc,gs,lA,lc,cl,some ⟨guA,0,none⟩,uc,cu,some ⟨gtA,0,none⟩,tc,ts,sA,sc,rs⟩:Stm)) (decide_eq_true hd12) hcc hid hid0 hk ht om)
theorem qnm (W w:World) (x:Stm) (gm:Nat) (ng nl nu nt ns:Nat) (hx:MdOk x ng nl nu nt ns) (o:Op30) (ho:o.Ok) (T:List Fact) (I:Mem W w (mdA gm x ng nl nu nt ns++T)):
    Calls Tryz.prog 63 #[vP gm 0,.agg o.cells] w (OpIs W gm T (qem x.sta o)):=by
 obtain ⟨cp,cr,gA,gc,gs,lA,lc,cl,uA,uc,cu,tA,tc,ts,sA,sc,rs⟩:=x
 replace I:Mem W w (fM gm cp cr gA ng gc lA nl lc uA nu uc tA nt tc sA ns sc::fG gA ng gc gs::fI lA nl lc cl::fI uA nu uc cu::fT tA nt tc ts::fS sA ns sc rs::(fR rs++(T))):=I
 obtain ⟨hlg,hll,hlu,hlt,hls⟩:=hx.ln
 replace hlg:gs.length=ng:=hlg;replace hll:cl.length=nl:=hll;replace hlu:cu.length=nu:=hlu;replace hlt:ts.length=nt:=hlt;replace hls:rs.length=ns:=hls
 have hlns:=hx.ln
 have hsp:SpsOk gs cp rs:=hx.spots
 have hrg:rs.length=gs.length:=hx.sh.rs
 have hcr:cr<18446744073709551616:=hx.ok.credit
 obtain ⟨hcp1,hcp2,_,hgs⟩:=zq hx.sh.cfg
 replace hcp1:1≤cp:=hcp1;replace hcp2:cp≤64:=hcp2;replace hgs:gsOk gs=true:=hgs
 have hgl1:=(qq hgs).1;have hgl2:=(qq hgs).2.1
 have hcll:(cl.length:Int)=cp:=hx.sh.cl;have hcul:(cu.length:Int)=cp:=hx.sh.cu
 have hfts:ts.length≤1000000:=hx.few.t
 have hoc:=ho.cpu;have hot:=ho.task;have hog:=ho.group;have how:=ho.weight;have hoto:=ho.to;have hotk:=ho.ticks;have hom:=ho.mask;have hok8:=ho.kind;unfold I64 at hoc hot hog how hoto hotk
 obtain ⟨cn,hcn⟩:∃n:Nat,cp=(n:Int):=⟨cp.toNat,by omega⟩
 obtain ⟨gsA,rfl⟩:=qn (I.own (i:=5) rfl) om
 refine (Jin2 I Tryz.func63 139) ?_
 refine (JP∘JE) fun w3 g3=>(Jp 2∘Jr∘Jp 1∘Jn∘Jf 0∘Jp 1∘Jd3∘Jj∘JQ∘JB∘JP∘Jp 1∘Jg 1 O0∘JI (h:=by exact fun I=>qil 1 I rfl hx o.cpu)) fun w19 hbw=>(Jp 2∘Jd4∘Jj) (Ju (fun hb15=>?_) fun hb15=>?_)
 ·
  intro a Z I
  have hd15:=of_decide_eq_false ((Bool.not_eq_true' _).mp hb15)
  exact Jb Z I ((JT∘JP∘Jp 2∘Jj∘JZ∘Jz2) fun I=>by exact qr (y:=(⟨cp,cr,gA,gc,gs,lA,lc,cl,uA,uc,cu,tA,tc,ts,some ⟨gsA,0,none⟩,sc,rs⟩:Stm)) 1 I rfl hlns (if_pos (decide_eq_false hd15)))
 intro a Z I
 have hd15:=of_decide_eq_true ((Bool.not_eq_false' _).mp hb15)
 replace hd15:0≤o.cpu∧o.cpu<cp:=hd15
 obtain ⟨c,hcc⟩:∃n:Nat,o.cpu=(n:Int):=⟨o.cpu.toNat,by omega⟩
 have hccp:((c:Nat):Int)<cp:=by omega
 refine Jb Z I ((JF∘JP∘Jg 2 O0∘JI (h:=by exact fun I=>qf5 o.task _)) fun w24 hbw=>(Jp 2∘Jd3∘Jj) (Ji' (fun hd21=>?_) fun hd21=>?_))
 ·
  exact (JT∘JP∘Jp 2∘Jj∘JZ∘Jz2) fun I=>by exact qr (y:=(⟨cp,cr,gA,gc,gs,lA,lc,cl,uA,uc,cu,tA,tc,ts,some ⟨gsA,0,none⟩,sc,rs⟩:Stm)) 1 I rfl hlns ((if_neg (nf (decide_eq_true hd15))).trans (if_pos (decide_eq_false hd21)))
 refine (JF) fun a Z I=>?_
 refine zb (fun aS wS=>Fr aS 139 [] [(26,.bool (!(decide (0≤o.group∧o.group<rs.length)))),(21,.bool false),(15,.bool false),(6,vP gm 0),(5,vI 0),(4,vI 0),(3,vP g3 0),(0,vP gm 0)]∧Mem W wS (.blk g3 o.cells 98::fM gm cp cr gA ng gc lA nl lc uA nu uc tA nt tc (some ⟨gsA,0,none⟩) ns sc::fG gA ng gc gs::fI lA nl lc cl::fI uA nu uc cu::fT tA nt tc ts::fS (some ⟨gsA,0,none⟩) ns sc rs::(fR rs++(T)))) ?_ ?_
 ·
  refine Jb Z I ((Vs .n []) fun wd6=>(Vf 0 3∘Vc 1 O0∘Vp [2,3]) fun a Z I HS=>?_)
  rcases Z.tf 30 rfl with ⟨hb30,Z⟩|⟨hb30,Z⟩
  ·
   have hd30:=of_decide_eq_true hb30
   refine Vb Z I HS ((Vq [4,5,6,7,8,9,10,11,12,13] [(26,.bool true)]∘Vd∘Jd5) fun a Z I=>?_)
   have Z:=Z.sp 26 (.bool (!(decide (0≤o.group∧o.group<rs.length)))) rfl (congrArg Value.bool (by rw [decide_eq_false om];rfl))
   exact ⟨Z.sub kr,I.pt 7 [0,1,2,3,4,5,6]⟩
  have hd30:=of_decide_eq_false hb30
  refine ap Z (fun _=>HS) [4,6] (bf 14 [0,1,2,3,4,6]) [(33,vP gm 0),(31,vP g3 3)] fun a Z=>?_
  refine s_ac Z HS 5 0 (v:=vI o.group) fun a Z=>?_
  refine s_am Z HS 7 fun a Z=>?_
  refine ap Z (fun _=>HS) [8] (bt 14 [9,10,11,12,13]) [(35,vP gm 6)] fun a Z=>?_
  refine s_ac Z HS 9 1 fun a Z=>?_
  refine s_al Z HS 10 fun a Z=>?_
  refine ap Z (fun _=>HS) [11,12,13] (bt 14 []) [(26,.bool (decide ((o.group:Int)≥(ns:Int))))] fun a Z=>?_
  refine qb kr ?_
  have Z:=Z.sp 26 (.bool (!(decide (0≤o.group∧o.group<rs.length)))) rfl (congrArg Value.bool (by rw [←decide_not];exact decide_eq_decide.2 om))
  exact ⟨Z.sub kr,I.pt 7 [0,1,2,3,4,5,6]⟩
 clear Z I;rintro a w6 ⟨Z,I⟩
 refine Jb Z I (Ju (fun hb26=>?_) fun hb26=>?_)
 ·
  intro a Z I
  have hd26:=of_decide_eq_false ((Bool.not_eq_true' _).mp hb26)
  exact Jb Z I ((JT∘JP∘Jp 2∘Jj∘JZ∘Jz2) fun I=>by exact qr (y:=(⟨cp,cr,gA,gc,gs,lA,lc,cl,uA,uc,cu,tA,tc,ts,some ⟨gsA,0,none⟩,sc,rs⟩:Stm)) 1 I rfl hlns ((if_neg (nf (decide_eq_true hd15))).trans ((if_neg (nf (decide_eq_true hd21))).trans (if_pos (by show ¬(0≤o.group∧o.group<((rs.map Rw.l).length:Nat));rw [List.length_map];exact hd26)))))
 intro a Z I
 have hd26:=of_decide_eq_true ((Bool.not_eq_false' _).mp hb26)
 obtain ⟨g,hgg⟩:∃n:Nat,o.group=(n:Int):=⟨o.group.toNat,by omega⟩
 refine Jb Z I ((JF) fun a Z I=>?_)
 refine zb (fun aS wS=>Fr aS 139 [] [(40,.bool (!(decide (1≤o.weight∧o.weight≤65536∧o.mask≠0∧¬2^cn≤o.mask)))),(26,.bool false),(21,.bool false),(15,.bool false),(6,vP gm 0),(5,vI 0),(4,vI 0),(3,vP g3 0),(0,vP gm 0)]∧Mem W wS (.blk g3 o.cells 98::fM gm cp cr gA ng gc lA nl lc uA nu uc tA nt tc (some ⟨gsA,0,none⟩) ns sc::fG gA ng gc gs::fI lA nl lc cl::fI uA nu uc cu::fT tA nt tc ts::fS (some ⟨gsA,0,none⟩) ns sc rs::(fR rs++(T)))) ?_ ?_
 ·
  refine Jb Z I ((Vs .n []) fun wd8=>(Vf 0 4∘Vc 1 O0) fun a Z I HS=>?_)
  refine s_on Z 2 rfl ?_
  refine e_cl Z [vI o.weight] rfl rfl (qbz o.weight _) ?_
  rintro _ w43 ⟨rfl,hbw⟩
  refine ⟨_,rfl,?_⟩
  replace I:=I.call hbw
  clear Z;intro a Z
  refine keepS (I.pt 7 [0,1,2,3,4,5,6]) (fun HS=>?_)
  refine Vb Z I HS ((Vp [3,4]) fun a Z I HS=>?_)
  rcases Z.tf 45 rfl with ⟨hb45,Z⟩|⟨hb45,Z⟩
  ·
   have hd45:=of_decide_eq_false ((Bool.not_eq_true' _).mp hb45)
   refine Vb Z I HS ((Vq [5,6,7,8,9,10,11,12,13,14,15,16,17,18,19] [(40,.bool true)]∘Vd∘Jd6) fun a Z I=>?_)
   have Z:=Z.sp 40 (.bool (!(decide (1≤o.weight∧o.weight≤65536∧o.mask≠0∧¬2^cn≤o.mask)))) rfl (congrArg Value.bool (by rw [decide_eq_false (fun h=>by omega)];rfl))
   exact ⟨Z.sub kr,I.pt 7 [0,1,2,3,4,5,6]⟩
  have hd45:=of_decide_eq_true ((Bool.not_eq_false' _).mp hb45)
  refine ap Z (fun _=>HS) [5] (bf 20 [0,1,2,3,4,5]) [(46,vP g3 7)] fun a Z=>?_
  refine s_ac Z HS 6 0 (v:=vQ o.mask) fun a Z=>?_
  refine ap Z (fun _=>HS) [7,8,9] (bf 20 [0,1,2,3,4,5,6,7,8,9]) [(50,.bool ((o.mask:Int)==(0:Int)))] fun a Z=>?_
  refine Jb Z I (Je (fun hd50=>?_) fun hd50=>?_)
  ·
   intro a Z I
   refine ap Z (fun _=>HS) [10,11,12,13,14,15,16,17,18,19] (bt 20 []) [(40,.bool true)] fun a Z=>?_
   refine qb kr ?_
   have Z:=Z.sp 40 (.bool (!(decide (1≤o.weight∧o.weight≤65536∧o.mask≠0∧¬2^cn≤o.mask)))) rfl (congrArg Value.bool (by rw [decide_eq_false (fun h=>by omega)];rfl))
   exact ⟨Z.sub kr,I.pt 7 [0,1,2,3,4,5,6]⟩
  intro a Z I
  refine ap Z (fun _=>HS) [10,12] (bt 20 [11,13,14,15,16,17,18,19]) [(53,vP gm 0),(51,vP g3 7)] fun a Z=>?_
  refine s_ac Z HS 11 0 (v:=vQ o.mask) fun a Z=>?_
  refine s_am Z HS 13 fun a Z=>?_
  refine ap Z (fun _=>HS) [14,15] (bt 20 [16,17,18,19]) [(56,vP gm 0)] fun a Z=>?_
  refine s_ac Z HS 16 1 fun a Z=>?_
  replace Z:=Z.sp 57 (vI cn) rfl (by rw [hcn];try rfl)
  refine s_on Z 17 rfl (e_is Z I [vQ o.mask,vI cn] (.bool (decide (2^cn≤o.mask))) rfl rfl (qoo o.mask cn hom ⟨by omega,by omega⟩ _) fun w58 hbw I a Z=>?_)
  refine keepS (I.pt 7 [0,1,2,3,4,5,6]) (fun HS=>?_)
  refine ap Z (fun _=>HS) [18,19] (bt 20 []) [(40,.bool (decide (2^cn≤o.mask)))] fun a Z=>?_
  refine qb kr ?_
  have Z:=Z.sp 40 (.bool (!(decide (1≤o.weight∧o.weight≤65536∧o.mask≠0∧¬2^cn≤o.mask)))) rfl (congrArg Value.bool (by rw [←decide_not];exact decide_eq_decide.2 ⟨fun h1 h2=>h2.2.2.2 h1,fun h1=>Classical.byContradiction fun h2=>h1 ⟨by omega,by omega,by omega,h2⟩⟩))
  exact ⟨Z.sub kr,I.pt 7 [0,1,2,3,4,5,6]⟩
 clear Z I;rintro a w8 ⟨Z,I⟩
 refine Jb Z I (Ju (fun hb40=>?_) fun hb40=>?_)
 ·
  intro a Z I
  have hd40:=of_decide_eq_false ((Bool.not_eq_true' _).mp hb40)
  exact Jb Z I ((JT∘JP∘Jp 2∘Jj∘JZ∘Jz2) fun I=>by exact qr (y:=(⟨cp,cr,gA,gc,gs,lA,lc,cl,uA,uc,cu,tA,tc,ts,some ⟨gsA,0,none⟩,sc,rs⟩:Stm)) 1 I rfl hlns ((if_neg (nf (decide_eq_true hd15))).trans ((if_neg (nf (decide_eq_true hd21))).trans ((if_neg (by show ¬¬(0≤o.group∧o.group<((rs.map Rw.l).length:Nat));rw [List.length_map];exact not_not_intro hd26)).trans (if_pos (qxp hcn hd40))))))
 intro a Z I
 have hd40:=of_decide_eq_true ((Bool.not_eq_false' _).mp hb40)
 obtain ⟨z,hoz⟩:∃n:Nat,o.weight=(n:Int):=⟨o.weight.toNat,by omega⟩
 have hz:1≤z∧z≤65536:=by omega
 have hmb:=Nat.div_le_self o.mask (2^c)
 refine Jb Z I ((JF∘JP∘Jp 1∘Jg 2 O0∘JI (h:=by exact fun I=>qex 1 I rfl hx o.task)) fun w64 hbw=>(Jp 2∘Jd4∘Jj) (Ju (fun hb60=>?_) fun hb60=>?_))
 ·
  intro a Z I
  have hd60:=of_decide_eq_true hb60
  replace hd60:fidx ts o.task≥0:=hd60
  exact Jb Z I ((JT∘JP∘Jp 2∘Jj∘JZ∘Jz2) fun I=>by exact qr (y:=(⟨cp,cr,gA,gc,gs,lA,lc,cl,uA,uc,cu,tA,tc,ts,some ⟨gsA,0,none⟩,sc,rs⟩:Stm)) 1 I rfl hlns ((if_neg (nf (decide_eq_true hd15))).trans ((if_neg (nf (decide_eq_true hd21))).trans ((if_neg (by show ¬¬(0≤o.group∧o.group<((rs.map Rw.l).length:Nat));rw [List.length_map];exact not_not_intro hd26)).trans ((if_neg (qj8 hcn hd40)).trans (if_pos (by show 0≤fidx ts o.task;omega)))))))
 intro a Z I
 have hd60:=of_decide_eq_false hb60
 replace hd60:¬(fidx ts o.task≥0):=hd60
 refine Jb Z I ((JF∘JP∘Jg 7 O0∘Jf 1∘Jc O0∘Jo (vI c) (by rw [hcc])∘Jy (v:=vQ (o.mask/2^c:Nat)) (h:=by exact Yl.shrN (m:=o.mask) (n:=c) rfl rfl rfl (by show _≤64;omega))∘Jp 1∘Jo (vQ ((o.mask/2^c)%2:Nat)) (by exact qf1 (n:=1) (j:=1) rfl de om)∘Jp 2∘Jd6∘Jj) (Ju (fun hb66=>?_) fun hb66=>?_))
 ·
  intro a Z I
  have hd66:=eq_of_beq hb66
  exact Jb Z I ((JT∘JP∘Jp 2∘Jj∘JZ∘Jz2) fun I=>by exact qr (y:=(⟨cp,cr,gA,gc,gs,lA,lc,cl,uA,uc,cu,tA,tc,ts,some ⟨gsA,0,none⟩,sc,rs⟩:Stm)) 1 I rfl hlns ((if_neg (nf (decide_eq_true hd15))).trans ((if_neg (nf (decide_eq_true hd21))).trans ((if_neg (by show ¬¬(0≤o.group∧o.group<((rs.map Rw.l).length:Nat));rw [List.length_map];exact not_not_intro hd26)).trans ((if_neg (qj8 hcn hd40)).trans ((if_neg (by show ¬0≤fidx ts o.task;omega)).trans (if_pos (qza rfl hcc om))))))))
 intro a Z I
 have hd66:=ne_of_beq_false hb66
 obtain ⟨em,hem⟩:∃l,zf (⟨cp,cr,gA,gc,gs,lA,lc,cl,uA,uc,cu,tA,tc,ts,some ⟨gsA,0,none⟩,sc,rs⟩:Stm).sta g c=l:=⟨_,rfl⟩
 have hemm:=fun h hh=>qj0 (x:=(⟨cp,cr,gA,gc,gs,lA,lc,cl,uA,uc,cu,tA,tc,ts,some ⟨gsA,0,none⟩,sc,rs⟩:Stm)) hx (by omega:g<ns) hem h hh
 have hemn:=qhh (x:=(⟨cp,cr,gA,gc,gs,lA,lc,cl,uA,uc,cu,tA,tc,ts,some ⟨gsA,0,none⟩,sc,rs⟩:Stm)) hx (by omega:g<ns) hem
 obtain ⟨⟨yA,yc,yl⟩,hy⟩:∃y,rs.getD g Rw.zero=y:=⟨_,rfl⟩
 have hys:=hsp g om;rw [hy] at hys
 have hyl:(yl.length:Int)=cp:=hys.1
 revert I;revert a;repeat (first|clear Z|clear I)
 intro a Z I
 obtain ⟨gy,rfl⟩:=I.rwSome 7 rfl om hy om
 obtain ⟨yz,hyz⟩:∃z,yl[c]?=some z:=⟨_,List.getElem?_eq_getElem om⟩
 have hyo:=hys.2 yz (List.mem_of_getElem? hyz)
 have hyv:=hyo.1.v;have hyr:=hyo.1.r;have hyf:=hyo.1.floor
 obtain ⟨t1,ht1⟩:∃t,(⟨o.task,o.group,0,o.cpu,o.mask,true,0,0⟩:Tk).put (⟨yz.floor,0,z⟩:En)=t:=⟨_,rfl⟩
 have ht1i:t1.id=o.task:=by rw [←ht1];rfl
 refine Jb Z I ((JF∘JS'∘JP∘Jp 1∘Jf 3∘Jc O0∘Jo (vI g) (by rw [hgg])∘Jf 1∘Jc O0∘Jo (vI c) (by rw [hcc])∘JK (h:=by exact fun I=>qjz 1 I rfl hx (by show ((c:Nat):Int)<cp;omega) om hem)) fun A79 c79 w79 hc79=>(Jp 1∘Jd6∘Jr∘Jg 2 O1∘Jg 3 O1∘Jg 1 O1∘Jg 7 O1∘Jy (v:= .agg #[vI o.task,vI o.group,vI 0,vI o.cpu,vQ o.mask,.bool true,vQ 0,vW 0]) (h:=by exact Yl.build (vs:=[(0,vI o.task),(1,vI o.group),(3,vI o.cpu),(4,vQ o.mask),(5,.bool true)]) rfl kr kr)∘JA #[vI 0,vI 0,vI 0,vI 0,vQ 0,.bool false,vQ 0,vW 0]) fun w8 g8=>(JV si_tk O0') fun w15_10=>(Jd5∘Jj) fun a Z I=>?_)
 refine zb (fun aS wS=>∃(g9:Nat),Fr aS 139 [] [(9,vP g9 0),(8,vP g8 0),(7,.slice A79 em.length c79),(66,.bool false),(60,.bool false),(40,.bool false),(26,.bool false),(21,.bool false),(15,.bool false),(6,vP gm 0),(5,vI 0),(4,vI 0),(3,vP g3 0),(0,vP gm 0)]∧Mem W wS (.blk g9 ((⟨yz.floor,0,z⟩:En).cells) 168:: .blk g8 #[vI o.task,vI o.group,vI 0,vI o.cpu,vQ o.mask,.bool true,vQ 0,vW 0] 61:: .row (.slice A79 em.length c79) em.length (em.map I64v) 3 1:: .blk g3 o.cells 98::fM gm cp cr gA ng gc lA nl lc uA nu uc tA nt tc (some ⟨gsA,0,none⟩) ns sc::fG gA ng gc gs::fI lA nl lc cl::fI uA nu uc cu::fT tA nt tc ts::fS (some ⟨gsA,0,none⟩) ns sc rs::(fR rs++(T)))) ?_ ?_
 ·
  refine Jb Z I ((Vs .n [20]) fun wd16=>(Vp [0]∘Vf 4 3∘Vf 8 1∘Vf 13 4∘Vn 1∘Vf 2 6∘Vc 3 O3∘Vc 5 O2∘Vo (vI g) (by rw [hgg])∘Vy 6 (h:=by exact Yl.ix0 gsA g 1 rfl rfl rfl)∘Vy 7 (v:= .slice ((rs.getD g Rw.zero).A) ((rs.getD g Rw.zero).l.length) ((rs.getD g Rw.zero).c)) (h:=by exact Yl.r1 8 g Rw.zero om rfl rfl rfl)∘Vo (vS gy yl.length yc) (by rw [hy])∘Vc 9 O2∘Vo (vI c) (by rw [hcc])∘Vy 10 (h:=by exact Yl.ix0 gy c 3 rfl rfl rfl)∘Vf 11 2∘Vy 12 (v:=vQ yz.floor) (h:=by exact Yl.qe rfl rfl kr (fun _ h=>h.qb1 9 (j:=2) rfl om hy (hyz) rfl))∘Vc 14 O2∘Vo (vI z) (by rw [hoz])) fun a Z I HS=>?_)
  refine qo [15,19] kr rfl ?_
  refine all_cons ?_ ?_
  ·refine qc Z (i:=15) rfl rfl ?_
   refine e_is Z I [vQ yz.floor,vI z] (.tuple #[.agg ((⟨yz.floor,0,z⟩:En).cells),vI 0]) rfl rfl (qo0 yz.floor z hyf hz _) fun w105 hbw I a Z=>?_
   refine keepS (I.pt 9 [0,1,2,3,4,5,6,7,8]) (fun HS=>?_)
   refine Vb Z I HS ((Vp [16]∘Vx 17∘Vx 18∘VA 19 .n #[vQ 0,vW 0,vW 0]) fun w9 g9=>fun a Z I HS=>?_)
   refine s_on Z 20 rfl (e_sa Z I 0 rfl rfl rfl rfl rfl qk rfl rfl (zk (⟨yz.floor,0,z⟩:En)) ?_)
   clear I;intro w16_20 I
   refine noS kr ?_
   refine ap Z (pastS kr) [21] (bt 22 []) [] fun a Z=>?_
   refine qb kr ?_
   exact ⟨g9,Z.sub kr,I.pt 10 [0,1,2,3,4,5,6,7,8,9]⟩
  refine all_cons ?_ all_nil
  refine qc Z (i:=19) rfl rfl ?_
  refine s_ea Z I #[vQ 0,vW 0,vW 0] ?_
  clear Z I;intro a w9 g9 Z I
  refine keepS (I.pt 10 [1,2,3,4,5,6,7,8,9]) (fun HS=>?_)
  refine Vb Z I HS ((VI 15 (.f .n) (h:=by exact fun I=>qo0 yz.floor z hyf hz _)) fun w105 hbw=>(Vp [16]∘Vx 17∘Vx 18) fun a Z I HS=>?_)
  refine s_on Z 20 rfl (e_sa Z I 0 rfl rfl rfl rfl rfl qk rfl rfl (zk (⟨yz.floor,0,z⟩:En)) ?_)
  clear I;intro w16_20 I
  refine noS kr ?_
  refine ap Z (pastS kr) [21] (bt 22 []) [] fun a Z=>?_
  refine qb kr ?_
  exact ⟨g9,Z.sub kr,I.pt 10 [0,1,2,3,4,5,6,7,8,9]⟩
 clear Z I;rintro a w16 ⟨g9,Z,I⟩
 refine Jb Z I ((JP∘Jy (v:= .agg ((⟨yz.floor,0,z⟩:En).cells)) (h:=by exact Yl.loadS rfl rfl qk rfl (fun _ h=>qa (h.blk (i:=0) rfl)))∘JO (h:=by exact fun I=>q05 (⟨o.task,o.group,0,o.cpu,o.mask,true,0,0⟩:Tk) t1 (⟨yz.floor,0,z⟩:En) ht1 O1' I (qtw hyf hz))) fun w109=>(Jt2∘Jr∘Jp 1∘Jn∘Jg 5 O4∘Jy (h:=by exact Yl.makeFunc (fst:=[]) (caps:=[vP g8 0]) rfl rfl rfl)∘JL (h:=by exact fun I=>qus hlt (I.rd (i:=8) rfl) hfts (I.blk (i:=1) rfl))) ?_)
 rintro I _ w115 ⟨⟨ii,rfl,hins,hi1,hi2⟩,hbw⟩
 refine ⟨_,rfl,_,I.call hbw,?_⟩
 refine (Jp 1∘Jd5∘Jj∘JQ∘JP∘Jp 2∘Jd1∘Jj) (Ju (fun hb117=>?_) fun hb117=>?_)
 ·
  intro a Z I
  have hd117:=of_decide_eq_true hb117
  obtain ⟨ix,hix⟩:∃n,qdc ts t1.id=n:=⟨_,rfl⟩
  have hixl:=qlh ts t1.id
  rw [hix] at hins hixl
  rw [if_pos om] at hins
  refine Jb Z I ((JT∘JR∘Jp 1∘Jn∘Jg 5 O4∘Jl∘Jo (vI ix) (by rw [show nt=ix by omega])∘Jp 1∘Jd4∘Jj) fun a Z I=>?_)
  refine wp_seq ?_
  refine Jb Z I ((Vs (.t (.t (.t (.t (.t (.t (.t (.t (.f .n))))))))) [11]) fun wd21=>(Vp [0,1,5]∘Vn 2∘Vf 3 5∘Vc 4 O4∘Vy 6 (v:= .agg t1.cells) (h:=by exact Yl.loadS rfl rfl si_tk rfl (fun _ h=>qa (h.blk (i:=1) rfl)))) fun a Z I HS=>?_)
  refine s_on Z 7 rfl (s_el Z I ei_tk [(0,.agg t1.cells)] t1.cells ?_)
  clear Z I;intro a w130 g130 Z I
  refine keepS (I.pt 11 [1,2,3,4,5,6,7,8,10]) (fun HS=>?_)
  refine s_on Z 8 rfl ?_
  refine e_cl Z [.slice tA nt tc,vI ix,vS g130 1 1] rfl rfl (qlv (i:=ix) (l:=ts) t1 9 (fun _ _=>O9') O0 I hlt om om) ?_
  rintro _ w131 ⟨A131,c131,rfl,hc131,HM2⟩
  refine ⟨_,rfl,?_⟩
  replace I:=HM2
  clear Z;intro a Z
  refine keepS (I.pt 11 [1,2,3,4,5,6,7,8,10]) (fun HS=>?_)
  refine Vb Z I HS ((Vn 9∘Vf 10 5) fun a Z I HS=>?_)
  refine s_on Z 11 rfl (s_es Z I 5 ?_)
  clear I;intro w21_11 I
  refine noS kr ?_
  refine qb kr ?_
  refine Jb Z I ((JP∘Jp 2∘Jf 1∘Jc O4∘Jo (vI c) (by rw [hcc])∘JL (h:=by exact fun I=>qj1 5 I rfl (j:=3) rfl de (qo9 (tA':=A131) (tc':=c131) (ts':=insT ts ix t1) (nt':=nt+1) hlns (by rw [qf7 om];omega)) (hemm) (hemn) hgs hrg hsp hcr hcp2 (by show ((c:Nat):Int)<cp;omega))) ?_)
  rintro I _ w138 ⟨rs2,rfl,hl2,hsp2,hst2,HM2⟩
  refine ⟨_,rfl,_,(show Mem W w138 (.blk g130 t1.cells 61:: .blk g9 ((⟨yz.floor,0,z⟩:En).cells) 168:: .blk g8 t1.cells 61:: .row (.slice A79 em.length c79) em.length (em.map I64v) 3 1:: .blk g3 o.cells 98::fM gm cp cr gA ng gc lA nl lc uA nu uc A131 (nt+1) c131 (some ⟨gsA,0,none⟩) ns sc::fG gA ng gc gs::fI lA nl lc cl::fI uA nu uc cu::fT A131 (nt+1) c131 (insT ts ix t1)::fS (some ⟨gsA,0,none⟩) ns sc rs2::(fR rs2++(T))) from HM2),?_⟩
  exact (Jt6∘Jr∘Jp 2∘Jj∘JZ∘Jz2) fun I=>by exact qr (y:=(⟨cp,cr,gA,gc,gs,lA,lc,cl,uA,uc,cu,A131,c131,(insT ts ix t1),some ⟨gsA,0,none⟩,sc,rs2⟩:Stm)) 5 I rfl (qo2 (qo9 (tA':=A131) (tc':=c131) (ts':=insT ts ix t1) (nt':=nt+1) hlns (by rw [qf7 om];omega)) hl2) ((qlk (x:=(⟨cp,cr,gA,gc,gs,lA,lc,cl,uA,uc,cu,tA,tc,ts,some ⟨gsA,0,none⟩,sc,rs⟩:Stm)) (t1:=t1) (decide_eq_true hd15) (decide_eq_true hd21) hd26 (qj8 hcn hd40) (by show fidx ts o.task<0;omega) (qnk hcc om) hgg hcc (congrArg Sp.floor (qca (x:=(⟨cp,cr,gA,gc,gs,lA,lc,cl,uA,uc,cu,tA,tc,ts,some ⟨gsA,0,none⟩,sc,rs⟩:Stm)) (by show g<rs.length;omega) hy hyz)) (by rw [←ht1,hoz];rfl) hem).trans (by rw [show qdc ts o.task=ix by rw [←ht1i];exact hix];exact congrArg (fun s=>(s,(0:Int),0)) hst2.symm))
 intro a Z I
 have hd117:=of_decide_eq_false hb117
 obtain ⟨ix,hix⟩:∃n,qdc ts t1.id=n:=⟨_,rfl⟩
 have hixl:=qlh ts t1.id
 rw [hix] at hins hixl
 rw [if_neg om] at hins
 replace Z:=Z.sp 11 (vI ix) rfl (by rw [show ii=(ix:Int) by omega])
 refine Jb Z I ((JF∘JS') fun a Z I=>?_)
 refine wp_seq ?_
 refine Jb Z I ((Vs (.t (.t (.t (.t (.t (.t (.t (.t (.f .n))))))))) [11]) fun wd21=>(Vp [0,1,5]∘Vn 2∘Vf 3 5∘Vc 4 O4∘Vy 6 (v:= .agg t1.cells) (h:=by exact Yl.loadS rfl rfl si_tk rfl (fun _ h=>qa (h.blk (i:=1) rfl)))) fun a Z I HS=>?_)
 refine s_on Z 7 rfl (s_el Z I ei_tk [(0,.agg t1.cells)] t1.cells ?_)
 clear Z I;intro a w130 g130 Z I
 refine keepS (I.pt 11 [1,2,3,4,5,6,7,8,10]) (fun HS=>?_)
 refine s_on Z 8 rfl ?_
 refine e_cl Z [.slice tA nt tc,vI ix,vS g130 1 1] rfl rfl (qlv (i:=ix) (l:=ts) t1 9 (fun _ _=>O9') O0 I hlt om om) ?_
 rintro _ w131 ⟨A131,c131,rfl,hc131,HM2⟩
 refine ⟨_,rfl,?_⟩
 replace I:=HM2
 clear Z;intro a Z
 refine keepS (I.pt 11 [1,2,3,4,5,6,7,8,10]) (fun HS=>?_)
 refine Vb Z I HS ((Vn 9∘Vf 10 5) fun a Z I HS=>?_)
 refine s_on Z 11 rfl (s_es Z I 5 ?_)
 clear I;intro w21_11 I
 refine noS kr ?_
 refine qb kr ?_
 refine Jb Z I ((JP∘Jp 2∘Jf 1∘Jc O4∘Jo (vI c) (by rw [hcc])∘JL (h:=by exact fun I=>qj1 5 I rfl (j:=3) rfl de (qo9 (tA':=A131) (tc':=c131) (ts':=insT ts ix t1) (nt':=nt+1) hlns (by rw [qf7 om];omega)) (hemm) (hemn) hgs hrg hsp hcr hcp2 (by show ((c:Nat):Int)<cp;omega))) ?_)
 rintro I _ w138 ⟨rs2,rfl,hl2,hsp2,hst2,HM2⟩
 refine ⟨_,rfl,_,(show Mem W w138 (.blk g130 t1.cells 61:: .blk g9 ((⟨yz.floor,0,z⟩:En).cells) 168:: .blk g8 t1.cells 61:: .row (.slice A79 em.length c79) em.length (em.map I64v) 3 1:: .blk g3 o.cells 98::fM gm cp cr gA ng gc lA nl lc uA nu uc A131 (nt+1) c131 (some ⟨gsA,0,none⟩) ns sc::fG gA ng gc gs::fI lA nl lc cl::fI uA nu uc cu::fT A131 (nt+1) c131 (insT ts ix t1)::fS (some ⟨gsA,0,none⟩) ns sc rs2::(fR rs2++(T))) from HM2),?_⟩
 exact (Jt6∘Jr∘Jp 2∘Jj∘JZ∘Jz2) fun I=>by exact qr (y:=(⟨cp,cr,gA,gc,gs,lA,lc,cl,uA,uc,cu,A131,c131,(insT ts ix t1),some ⟨gsA,0,none⟩,sc,rs2⟩:Stm)) 5 I rfl (qo2 (qo9 (tA':=A131) (tc':=c131) (ts':=insT ts ix t1) (nt':=nt+1) hlns (by rw [qf7 om];omega)) hl2) ((qlk (x:=(⟨cp,cr,gA,gc,gs,lA,lc,cl,uA,uc,cu,tA,tc,ts,some ⟨gsA,0,none⟩,sc,rs⟩:Stm)) (t1:=t1) (decide_eq_true hd15) (decide_eq_true hd21) hd26 (qj8 hcn hd40) (by show fidx ts o.task<0;omega) (qnk hcc om) hgg hcc (congrArg Sp.floor (qca (x:=(⟨cp,cr,gA,gc,gs,lA,lc,cl,uA,uc,cu,tA,tc,ts,some ⟨gsA,0,none⟩,sc,rs⟩:Stm)) (by show g<rs.length;omega) hy hyz)) (by rw [←ht1,hoz];rfl) hem).trans (by rw [show qdc ts o.task=ix by rw [←ht1i];exact hix];exact congrArg (fun s=>(s,(0:Int),0)) hst2.symm))
theorem ei_fn:EI Tryz.prog 142 99 .nilFunc 1 8:=⟨by kernel_rfl,by kernel_rfl,rfl,by omega⟩
def stepF (k:Nat):FuncId:=[63,64,65,65,66,67,68,69,70,71].getD k 0
theorem fewer {k:Nat} (h:k<10):k=0∨k=1∨k=2∨k=3∨k=4∨k=5∨k=6∨k=7∨k=8∨k=9:=by omega
theorem qrd {k:Nat} (h:k<10):callable Tryz.prog (stepF k)=true:=by
 rcases fewer h with rfl|rfl|rfl|rfl|rfl|rfl|rfl|rfl|rfl|rfl<;>kernel_rfl
theorem q06 (gm:Nat) {k:Nat} (h:k<10):(#[.func (.func 63) #[vP gm 0] #[],.func (.func 64) #[vP gm 0] #[],.func (.func 65) #[vP gm 0] #[],.func (.func 65) #[vP gm 0] #[],.func (.func 66) #[vP gm 0] #[],.func (.func 67) #[vP gm 0] #[],.func (.func 68) #[vP gm 0] #[],.func (.func 69) #[vP gm 0] #[],.func (.func 70) #[vP gm 0] #[],.func (.func 71) #[vP gm 0] #[]]:Array Value)[k]?=some (.func (.func (stepF k)) #[vP gm 0] #[]):=by
 rcases fewer h with rfl|rfl|rfl|rfl|rfl|rfl|rfl|rfl|rfl|rfl<;>rfl
section
variable {W w:World} {F T:List Fact} {x y:Stm} {ng nl nu nt ns gm:Nat} {o:Op30}
theorem qre {k:Nat} (n:Nat) (I:Mem W w F) (he:F.drop n=mdA gm x ng nl nu nt ns++T) (hx:MdOk x ng nl nu nt ns) (hG:GoodS x.sta) (ho:o.Ok) (h:k<10) (hk:o.kind=k+1):Calls Tryz.prog (stepF k) #[vP gm 0,.agg o.cells] w (OpIs W gm (F.take n++T) (stepS x.sta o)):=by
 have HM2:=I.front n he
 have hcur:=(qjs hG.sh.sort).2 hG.cur
 unfold stepS
 rcases fewer h with rfl|rfl|rfl|rfl|rfl|rfl|rfl|rfl|rfl|rfl<;>rw [hk]
 ·exact qnm W w x gm ng nl nu nt ns hx o ho _ HM2
 ·exact qnj W w x gm ng nl nu nt ns hx o ho _ HM2
 ·exact qhi W w x gm ng nl nu nt ns hx o ho _ HM2 hcur
 ·exact qhi W w x gm ng nl nu nt ns hx o ho _ HM2 hcur
 ·exact qq7 W w x gm ng nl nu nt ns hx o ho _ HM2 hcur
 ·exact qq6 W w x gm ng nl nu nt ns hx o ho _ HM2
 ·exact qh5 W w x gm ng nl nu nt ns hx o ho _ HM2
 ·exact qj3 W w x gm ng nl nu nt ns hx o ho _ HM2
 ·exact qj5 W w x gm ng nl nu nt ns hx o ho _ HM2
 ·exact qj6 W w x gm ng nl nu nt ns hx o ho _ HM2
theorem q25 (I:Mem W w (mdB gm y++T)) (hy:GoodS y.sta):Calls Tryz.prog 72 #[vP gm 0] w (fun r w'=>∃z:Stm,r= .returned (.tuple #[])∧z.sta=riseS y.sta∧Mem W w' (mdB gm z++T)):=
 (qq5 W w y gm _ _ _ _ _ (qjt hy.sh) T I).mono fun r w' ⟨rs2,e,hl,_,hs,hm⟩=>⟨{y with rs:=rs2},e,hs,Mem.toB hm ⟨rfl,rfl,rfl,rfl,hl⟩⟩
def FailS (s:Sta) (out:Out30):Prop:=out.2.2≠0→out.1=s∧out.2.1=0
theorem qrf (s:Sta) (o:Op30):FailS s (stepS s o):=by
 have key:∀e:Nat,FailS s (s,0,e):=fun e _=>⟨rfl,rfl⟩
 have key2:∀(t:Sta) (g:Int),FailS s (t,g,0):=fun t g h=>absurd rfl h
 unfold stepS
 split
 ·unfold qem;repeat' split
  all_goals first|exact key _|exact key2 _ _
 ·unfold qen;repeat' split
  all_goals first|exact key _|exact key2 _ _
 ·unfold qby;repeat' split
  all_goals first|exact key _|exact key2 _ _
 ·unfold qby;repeat' split
  all_goals first|exact key _|exact key2 _ _
 ·unfold tickS;repeat' split
  all_goals first|exact key _|exact key2 _ _|(dsimp only;split<;>exact key2 _ _)
 ·unfold pickS;repeat' split
  all_goals first|exact key _|exact key2 _ _
 ·unfold qan;repeat' split
  all_goals first|exact key _|exact key2 _ _
 ·unfold qbd;repeat' split
  all_goals first|exact key _|exact key2 _ _
 ·unfold qbe;repeat' split
  all_goals first|exact key _|exact key2 _ _
 ·unfold qao;repeat' split
  all_goals first|exact key _|exact key2 _ _
 ·exact key _
theorem qut {s:Sta} (h:(stepS s o).2.2≠0):(stepS s o).1=s∧(stepS s o).2.1=0:=qrf s o h
theorem quu {s:Sta} (h:o.kind<1∨10<o.kind):doS s o=(s,0,2):=by
 have e:stepS s o=(s,0,2):=by
  unfold stepS
  split<;>first|rfl|omega
 unfold doS
 rw [e]
 rfl
theorem qnn {s:Sta} (h:(stepS s o).2.2≠0):doS s o=(s,0,(stepS s o).2.2):=by unfold doS;rw [if_pos h]
theorem qno {s:Sta} (h:(stepS s o).2.2=0):doS s o=(riseS (stepS s o).1,(stepS s o).2.1,0):=by unfold doS;rw [if_neg om]
end
theorem qxq (W w:World) (x:Stm) (gm:Nat) (ng nl nu nt ns:Nat) (hx:MdOk x ng nl nu nt ns) (hG:GoodS x.sta) (o:Op30) (ho:o.Ok) (T:List Fact) (I:Mem W w (mdA gm x ng nl nu nt ns++T)):
    Calls Tryz.prog 37 #[vP gm 0,.agg o.cells] w (OpIs W gm T (doS x.sta o)):=by
 obtain ⟨cp,cr,gA,gc,gs,lA,lc,cl,uA,uc,cu,tA,tc,ts,sA,sc,rs⟩:=x
 replace I:Mem W w (fM gm cp cr gA ng gc lA nl lc uA nu uc tA nt tc sA ns sc::fG gA ng gc gs::fI lA nl lc cl::fI uA nu uc cu::fT tA nt tc ts::fS sA ns sc rs::(fR rs++(T))):=I
 obtain ⟨hlg,hll,hlu,hlt,hls⟩:=hx.ln
 replace hlg:gs.length=ng:=hlg;replace hll:cl.length=nl:=hll;replace hlu:cu.length=nu:=hlu;replace hlt:ts.length=nt:=hlt;replace hls:rs.length=ns:=hls
 have hok8:=ho.kind
 refine (Jin2 I Tryz.func37 67) ?_
 refine (JP∘JE) fun w3 g3=>(Jp 2∘Jj∘JQ∘JP∘Jp 1∘Jy (v:= .bool false) (h:=by exact Yl.qv4 rfl rfl rfl)∘Jp 2∘Jn∘Jg 7 O1∘Jp 2∘Jd6∘Jj∘JF∘JS'∘JP∘Jp 1∘Jy (h:=by exact Yl.makeFunc (fst:=[vP gm 0]) (caps:=[]) rfl rfl rfl)∘Jp 1∘Jy (h:=by exact Yl.makeFunc (fst:=[vP gm 0]) (caps:=[]) rfl rfl rfl)∘Jp 1∘Jy (h:=by exact Yl.makeFunc (fst:=[vP gm 0]) (caps:=[]) rfl rfl rfl)∘Jp 1∘Jy (h:=by exact Yl.makeFunc (fst:=[vP gm 0]) (caps:=[]) rfl rfl rfl)∘Jp 1∘Jy (h:=by exact Yl.makeFunc (fst:=[vP gm 0]) (caps:=[]) rfl rfl rfl)∘Jp 1∘Jy (h:=by exact Yl.makeFunc (fst:=[vP gm 0]) (caps:=[]) rfl rfl rfl)∘Jp 1∘Jy (h:=by exact Yl.makeFunc (fst:=[vP gm 0]) (caps:=[]) rfl rfl rfl)∘Jp 1∘Jy (h:=by exact Yl.makeFunc (fst:=[vP gm 0]) (caps:=[]) rfl rfl rfl)∘Jp 1∘Jy (h:=by exact Yl.makeFunc (fst:=[vP gm 0]) (caps:=[]) rfl rfl rfl)∘Jp 1∘Jy (h:=by exact Yl.makeFunc (fst:=[vP gm 0]) (caps:=[]) rfl rfl rfl)∘JU ei_fn #[.func (.func 63) #[vP gm 0] #[],.func (.func 64) #[vP gm 0] #[],.func (.func 65) #[vP gm 0] #[],.func (.func 65) #[vP gm 0] #[],.func (.func 66) #[vP gm 0] #[],.func (.func 67) #[vP gm 0] #[],.func (.func 68) #[vP gm 0] #[],.func (.func 69) #[vP gm 0] #[],.func (.func 70) #[vP gm 0] #[],.func (.func 71) #[vP gm 0] #[]]) fun w38 g38=>(Jp 1∘Jd6∘Jj∘JQ∘JP∘Jg 0 O1∘Jp 2) (Ji (fun hd42=>?_) fun hd42=>?_)
 ·
  exact (Jp 7∘Jd6∘Jj∘JT∘JP∘Jp 2∘Jj∘JZ∘Jz2) fun I=>by exact qr (y:=(⟨cp,cr,gA,gc,gs,lA,lc,cl,uA,uc,cu,tA,tc,ts,sA,sc,rs⟩:Stm)) 2 I rfl hx.ln (quu om)
 refine (Jg 0 O1∘Jw .i64∘Jp 1∘Jl∘Jp 2∘Jd6∘Jj) (Ju (fun hb49=>?_) fun hb49=>?_)
 ·
  intro a Z I
  have hd49:=of_decide_eq_true hb49
  exact Jb Z I ((JT∘JP∘Jp 2∘Jj∘JZ∘Jz2) fun I=>by exact qr (y:=(⟨cp,cr,gA,gc,gs,lA,lc,cl,uA,uc,cu,tA,tc,ts,sA,sc,rs⟩:Stm)) 2 I rfl hx.ln (quu om))
 intro a Z I
 have hd49:=of_decide_eq_false hb49
 obtain ⟨k,hkk⟩:∃k:Nat,o.kind=k+1:=⟨o.kind-1,by omega⟩
 have hk10:k<10:=by omega
 refine Jb Z I ((JF∘JS') fun a Z I=>?_)
 refine wp_seq ?_
 refine qks I [.blk g38 #[.func (.func 63) #[vP gm 0] #[],.func (.func 64) #[vP gm 0] #[],.func (.func 65) #[vP gm 0] #[],.func (.func 65) #[vP gm 0] #[],.func (.func 66) #[vP gm 0] #[],.func (.func 67) #[vP gm 0] #[],.func (.func 68) #[vP gm 0] #[],.func (.func 69) #[vP gm 0] #[],.func (.func 70) #[vP gm 0] #[],.func (.func 71) #[vP gm 0] #[]] 99,.blk g3 o.cells 98] [0,1] [] fun I HS=>?_
 refine ap Z (fun _=>HS) [0,1] (bf 13 [0,1]) [(52,vP g3 0),(51,vS g38 10 10)] fun a Z=>?_
 refine s_ac Z HS 2 1 (v:=vB o.kind) fun a Z=>?_
 refine qcs Z (fun _=>HS) (i:=3) rfl rfl (d:=54) rfl de kr (fun _ _ _ h=>h) (v:=vB (IntKind.u8.wrap ((o.kind:Int)-1))) (fun _=>Yl.pure kr) fun a Z=>?_
 replace Z:=Z.sp 54 (vB k) rfl (by rw [IntKind.wrap_u8];congr 1;omega)
 refine s_az Z HS 4 rfl (v:=vP g38 (k*1)) (Yl.ix0 g38 k 1 rfl rfl rfl) fun a Z=>?_
 refine s_az Z HS 5 rfl (v:= .func (.func (stepF k)) #[vP gm 0] #[]) (Yl.qe rfl rfl kr (fun _ h=>h.cell (i:=0) rfl (by rw [Nat.mul_one];exact q06 gm hk10))) fun a Z=>?_
 refine s_az Z HS 6 rfl (v:= .agg o.cells) (Yl.loadS rfl rfl si_op rfl (fun _ h=>qa (h.blk (i:=1) rfl))) fun a Z=>?_
 refine s_on Z 7 rfl ?_
 refine qag Z (f:=(stepF k)) (vs:=[.agg o.cells]) (fst:=[vP gm 0]) (caps:=[]) rfl rfl rfl (qrd hk10) rfl de (qre 2 I rfl hx hG ho hk10 hkk) ?_
 rintro _ w58 ⟨y,rfl,hyq,HM2⟩
 refine ⟨_,rfl,?_⟩
 replace I:=(show Mem W w58 (.blk g38 #[.func (.func 63) #[vP gm 0] #[],.func (.func 64) #[vP gm 0] #[],.func (.func 65) #[vP gm 0] #[],.func (.func 65) #[vP gm 0] #[],.func (.func 66) #[vP gm 0] #[],.func (.func 67) #[vP gm 0] #[],.func (.func 68) #[vP gm 0] #[],.func (.func 69) #[vP gm 0] #[],.func (.func 70) #[vP gm 0] #[],.func (.func 71) #[vP gm 0] #[]] 99:: .blk g3 o.cells 98::(mdB gm y++(T))) from HM2.back)
 clear Z;intro a Z
 refine keepS (I.pk [0,1]) (fun HS=>?_)
 refine ap Z (fun _=>HS) [8,9,10,11,12] (bt 13 []) [(8,vI ((stepS (⟨cp,cr,gA,gc,gs,lA,lc,cl,uA,uc,cu,tA,tc,ts,sA,sc,rs⟩:Stm).sta o).2.2)),(7,vI ((stepS (⟨cp,cr,gA,gc,gs,lA,lc,cl,uA,uc,cu,tA,tc,ts,sA,sc,rs⟩:Stm).sta o).2.1))] fun a Z=>?_
 refine qb kr ?_
 refine Jb Z I ((JQ∘JP∘Jp 2∘Jd1∘Jj) (Ju (fun hb62=>?_) fun hb62=>?_))
 ·
  intro a Z I
  have hd62:=bne_iff_ne.1 hb62
  replace hd62:(stepS (⟨cp,cr,gA,gc,gs,lA,lc,cl,uA,uc,cu,tA,tc,ts,sA,sc,rs⟩:Stm).sta o).2.2≠0:=by omega
  exact Jb Z I ((JT∘JP∘Jp 3∘Jj∘JZ∘Jz2) fun I=>by rw [qnn hd62];exact ⟨y,rfl,hyq.trans (qut hd62).1,I.dropN 2 rfl⟩)
 intro a Z I
 have hd62:=bne_eq_false_iff_eq.1 hb62
 replace hd62:(stepS (⟨cp,cr,gA,gc,gs,lA,lc,cl,uA,uc,cu,tA,tc,ts,sA,sc,rs⟩:Stm).sta o).2.2=0:=by omega
 have hse:=hd62
 have hyg:GoodS y.sta:=by rw [hyq];exact qhg ho hG hse
 refine Jb Z I ((JF∘JS'∘JP∘Jp 1∘JL (h:=by exact fun I=>q25 (I.dropN 2 rfl) hyg)) ?_)
 rintro I _ w65 ⟨z,rfl,hzq,HM2⟩
 refine ⟨_,rfl,_,HM2,?_⟩
 exact (Jt2∘Jr∘Jp 3∘Jj∘JZ∘Jz2) fun I=>by rw [qno hse];exact ⟨z,rfl,hzq.trans (by rw [hyq]),I⟩
def qhj (w:World) (e:TypeId) (sz n:Nat) (xs:List Value) (r:Ending) (w':World):Prop:=
 (∃A c,r= .returned (.slice A n c)∧w'.ownsRow w.heap.size e sz (.slice A n c) n xs∧n≤c)∧Below w.heap.size w w'
theorem qdt {w w':World} {e:TypeId} {sz n:Nat} {xs:List Value} {A:Option Addr} (hr:Rd w w.heap.size sz A n xs) (h:A.isNone=true) (hb:Below w.heap.size w w'):qhj w e sz n xs (.returned (.slice none 0 0)) w':=by
 have hn:n=0:=by
  rcases Nat.eq_zero_or_pos n with h0|h0
  ·exact h0
  ·obtain ⟨ad,rfl,_⟩:=hr.row h0
   cases h
 subst hn
 have hx:xs=[]:=List.length_eq_zero_iff.1 (by rw [hr.len];omega)
 subst hx
 exact ⟨⟨none,0,rfl,World.ownsRow_nil _ _ _ _,Nat.le_refl _⟩,hb⟩
def rwUp (z:List Rw) (m:Nat):List Rw:=z++List.replicate m Rw.zero
theorem qpa (z:List Rw) (m:Nat):(rwUp z m).length=z.length+m:=by unfold rwUp;rw [List.length_append,List.length_replicate]
theorem qpb {α:Type} (F:α→Value) (z:α) (m:Nat):(madeCells #[F z] (m*1)).toList=(List.replicate m z).map F:=by
 rw [Nat.mul_one]
 unfold madeCells
 refine List.ext_getElem (by simp) fun i h1 h2=>?_
 simp [Nat.mod_one]
theorem quv (m:Nat):(madeCells #[.slice none 0 0] (m*1)).toList=(rwUp [] m).map Rw.val:=qpb Rw.val Rw.zero m
theorem qrg (m:Nat):(madeCells (Value.slice none 0 0).cells (m*1)).toList=(rwUp [] m).map Rw.val:=quv m
theorem qxr {z:List Rw} {m:Nat} (y:Rw) (h:0<m):(rwUp z m).set z.length y=rwUp (z++[y]) (m-1):=by
 obtain ⟨k,rfl⟩:∃k,m=k+1:=⟨m-1,by omega⟩
 unfold rwUp
 rw [List.set_append,if_neg om,Nat.sub_self,List.replicate_succ,List.set_cons_zero,List.append_assoc]
 rfl
theorem quw (z:List Rw):rwUp z 0=z:=by unfold rwUp;rw [List.replicate_zero,List.append_nil]
theorem qux {w w':World} {x:Stm} {z:List Rw} {n i g gc lc uc tc:Nat} {gA lA uA tA:Option Addr} (hz:z.length=i) (hi:i=n) (h1:x.gs.length≤gc) (h2:x.cl.length≤lc) (h3:x.cu.length≤uc) (h4:x.ts.length≤tc) (h5:∀q∈z,q.l.length≤q.c) (h6:x.rs.map Rw.l=z.map Rw.l)
  (hm:Mem w w' (.row (.slice gA x.gs.length gc) x.gs.length (x.gs.flatMap grL) 110 2:: .row (.slice lA x.cl.length lc) x.cl.length (x.cl.map I64i) 3 1:: .row (.slice uA x.cu.length uc) x.cu.length (x.cu.map I64i) 3 1:: .row (.slice tA x.ts.length tc) x.ts.length (x.ts.flatMap tkL) 61 8:: .row (.slice (some ⟨g,0,none⟩) n n) n ((rwUp z (n-i)).map Rw.val) 64 1::rwF 63 z)):
  qtl w x (.returned (.agg #[.int .i64 x.cpus,.int .u64 (x.credit:Int),.slice gA x.gs.length gc,.slice lA x.cl.length lc,.slice uA x.cu.length uc,.slice tA x.ts.length tc,.slice (some ⟨g,0,none⟩) n n])) w':=by
 subst hz
 subst hi
 rw [Nat.sub_self,quw] at hm
 exact ⟨⟨x.cpus,x.credit,gA,gc,x.gs,lA,lc,x.cl,uA,uc,x.cu,tA,tc,x.ts,some ⟨g,0,none⟩,z.length,z⟩,rfl,⟨⟨rfl,rfl,rfl⟩,rfl,rfl,rfl,h6⟩,⟨h1,h2,h3,h4,Nat.le_refl _,h5⟩,hm⟩
theorem qnp (A:Option Addr) (c:Nat) (l:List Gr) (w:World) (hr:Rd w w.heap.size 2 A l.length (l.flatMap grL)) (hn:l.length≤1000000):
    Calls Tryz.prog 96 #[.slice A l.length c] w (qhj w 110 2 l.length (l.flatMap grL)):=by
 refine (JN1 Tryz.func96 8) ?_
 refine (JP∘Jp 1∘Jj∘JQ∘JP∘Jp 1∘Jy (v:= .bool A.isNone) (h:=by exact Yl.qyp rfl rfl rfl)∘Jd1∘Jj) (Ju (fun hb4=>?_) fun hb4=>?_)
 ·
  exact (JT∘JP∘Jp 1∘Jj∘JZ∘Jz1) fun I=>qdt hr (by simpa using hb4) I.below
 refine (JF∘JS'∘JP) fun a Z I=>?_
 refine fo Z 0 rfl rfl ?_
 refine qf0 Z I rfl ei_gr rfl de ?_
 clear Z I;intro a w5 g5 Z I
 refine Jb Z I ((Jp 1∘JD (l.flatMap grL) 0 (fun _ _=>O0') ei_gr (hr:=by exact fun I=>I.old hr) (h1:=by exact qot _)) fun w7 A7 c7 hc7=>fun a Z I=>?_)
 have hnA7:0+l.length=l.length:=Nat.zero_add _
 replace I:=I.reRow (i:=0) (ys:=l.flatMap grL) rfl hnA7 (rfl)
 rw [hnA7] at hc7
 replace Z:=Z.sp 7 (.slice A7 l.length c7) rfl (by rw [hnA7])
 exact Jb Z I ((Jp 1∘Jd4∘Jj∘JZ∘Jz1) fun I=>by exact ⟨⟨_,_,rfl,I.own (i:=0) rfl,hc7⟩,I.below⟩)
theorem qfw (A:Option Addr) (c:Nat) (l:List Int) (w:World) (hr:Rd w w.heap.size 1 A l.length (l.map I64i)) (hn:l.length≤1000000):
    Calls Tryz.prog 97 #[.slice A l.length c] w (qhj w 3 1 l.length (l.map I64i)):=by
 refine (JN1 Tryz.func97 8) ?_
 refine (JP∘Jp 1∘Jj∘JQ∘JP∘Jp 1∘Jy (v:= .bool A.isNone) (h:=by exact Yl.qyp rfl rfl rfl)∘Jd1∘Jj) (Ju (fun hb4=>?_) fun hb4=>?_)
 ·
  exact (JT∘JP∘Jp 1∘Jj∘JZ∘Jz1) fun I=>qdt hr (by simpa using hb4) I.below
 refine (JF∘JS'∘JP) fun a Z I=>?_
 refine fo Z 0 rfl rfl ?_
 refine qf0 Z I rfl ze rfl de ?_
 clear Z I;intro a w5 g5 Z I
 refine Jb Z I ((Jp 1∘JD (l.map I64i) 0 (fun _ _=>O0') ze (hr:=by exact fun I=>I.old hr) (h1:=by exact qtm _)) fun w7 A7 c7 hc7=>fun a Z I=>?_)
 have hnA7:0+l.length=l.length:=Nat.zero_add _
 replace I:=I.reRow (i:=0) (ys:=l.map I64i) rfl hnA7 (rfl)
 rw [hnA7] at hc7
 replace Z:=Z.sp 7 (.slice A7 l.length c7) rfl (by rw [hnA7])
 exact Jb Z I ((Jp 1∘Jd4∘Jj∘JZ∘Jz1) fun I=>by exact ⟨⟨_,_,rfl,I.own (i:=0) rfl,hc7⟩,I.below⟩)
theorem qnq (A:Option Addr) (c:Nat) (l:List Tk) (w:World) (hr:Rd w w.heap.size 8 A l.length (l.flatMap tkL)) (hn:l.length≤1000000):
    Calls Tryz.prog 98 #[.slice A l.length c] w (qhj w 61 8 l.length (l.flatMap tkL)):=by
 refine (JN1 Tryz.func98 8) ?_
 refine (JP∘Jp 1∘Jj∘JQ∘JP∘Jp 1∘Jy (v:= .bool A.isNone) (h:=by exact Yl.qyp rfl rfl rfl)∘Jd1∘Jj) (Ju (fun hb4=>?_) fun hb4=>?_)
 ·
  exact (JT∘JP∘Jp 1∘Jj∘JZ∘Jz1) fun I=>qdt hr (by simpa using hb4) I.below
 refine (JF∘JS'∘JP) fun a Z I=>?_
 refine fo Z 0 rfl rfl ?_
 refine qf0 Z I rfl ei_tk rfl de ?_
 clear Z I;intro a w5 g5 Z I
 refine Jb Z I ((Jp 1∘JD (l.flatMap tkL) 0 (fun _ _=>O0') ei_tk (hr:=by exact fun I=>I.old hr) (h1:=by exact qfu _)) fun w7 A7 c7 hc7=>fun a Z I=>?_)
 have hnA7:0+l.length=l.length:=Nat.zero_add _
 replace I:=I.reRow (i:=0) (ys:=l.flatMap tkL) rfl hnA7 (rfl)
 rw [hnA7] at hc7
 replace Z:=Z.sp 7 (.slice A7 l.length c7) rfl (by rw [hnA7])
 exact Jb Z I ((Jp 1∘Jd4∘Jj∘JZ∘Jz1) fun I=>by exact ⟨⟨_,_,rfl,I.own (i:=0) rfl,hc7⟩,I.below⟩)
theorem qnr (A:Option Addr) (c:Nat) (l:List Sp) (w:World) (hr:Rd w w.heap.size 3 A l.length (l.flatMap spL)) (hn:l.length≤1000000):
    Calls Tryz.prog 99 #[.slice A l.length c] w (qhj w 63 3 l.length (l.flatMap spL)):=by
 refine (JN1 Tryz.func99 8) ?_
 refine (JP∘Jp 1∘Jj∘JQ∘JP∘Jp 1∘Jy (v:= .bool A.isNone) (h:=by exact Yl.qyp rfl rfl rfl)∘Jd1∘Jj) (Ju (fun hb4=>?_) fun hb4=>?_)
 ·
  exact (JT∘JP∘Jp 1∘Jj∘JZ∘Jz1) fun I=>qdt hr (by simpa using hb4) I.below
 refine (JF∘JS'∘JP) fun a Z I=>?_
 refine fo Z 0 rfl rfl ?_
 refine qf0 Z I rfl ei_sp rfl de ?_
 clear Z I;intro a w5 g5 Z I
 refine Jb Z I ((Jp 1∘JD (l.flatMap spL) 0 (fun _ _=>O0') ei_sp (hr:=by exact fun I=>I.old hr) (h1:=by exact qy3 _)) fun w7 A7 c7 hc7=>fun a Z I=>?_)
 have hnA7:0+l.length=l.length:=Nat.zero_add _
 replace I:=I.reRow (i:=0) (ys:=l.flatMap spL) rfl hnA7 (rfl)
 rw [hnA7] at hc7
 replace Z:=Z.sp 7 (.slice A7 l.length c7) rfl (by rw [hnA7])
 exact Jb Z I ((Jp 1∘Jd4∘Jj∘JZ∘Jz1) fun I=>by exact ⟨⟨_,_,rfl,I.own (i:=0) rfl,hc7⟩,I.below⟩)
theorem qiv (x:Stm) (w:World) (hx:StRd w x) (hf:StFew x):
    Calls Tryz.prog 62 #[.agg x.cells] w (qtl w x):=by
 have hfg:=hf.g;have hfl:=hf.l;have hfu:=hf.u;have hft:=hf.t;have hfs:=hf.s
 refine (JN1 Tryz.func62 45) ?_
 refine (JP∘JE) fun w1 g1=>(JA #[vI 0,vQ 0,vN,vN,vN,vN,vN]) fun w2 g2=>(Jr∘Jf 0∘Jg 2 O1∘JK (h:=by exact fun I=>qnp x.gA x.gc x.gs _ (I.old hx.g) (hf.g))) fun A9 c9 w9 hc9=>(Jf 0∘Jf 2) fun a Z I=>?_
 refine fo Z 6 rfl rfl ?_
 refine qb3 Z I (i:=2) rfl rfl rfl rfl kr rfl rfl (by simp [Stm.cells]) ?_
 clear I;intro w1_6 I
 refine Jb Z I ((Jt5∘Jj) fun a Z I=>?_)
 refine wp_seq ?_
 refine Jb Z I ((Vs .n [10,12,14]) fun wd2=>(Vf 0 3∘Vf 3 4∘Vf 6 5∘Vc 1 O2∘Vc 4 O2∘Vc 7 O2∘VK 2 .n (h:=by exact fun I=>qfw x.lA x.lc x.cl _ (I.old hx.l) (hf.l))) fun A14 c14 w14 hc14=>(Vf 9 3∘VK 5 (.f .n) (h:=by exact fun I=>qfw x.uA x.uc x.cu _ (I.old hx.u) (hf.u))) fun A17 c17 w17 hc17=>(VK 8 (.f (.f .n)) (h:=by exact fun I=>qnq x.tA x.tc x.ts _ (I.old hx.t) (hf.t))) fun A20 c20 w20 hc20=>fun a Z I HS=>?_)
 refine s_on Z 10 rfl ?_
 refine qb3 Z I (i:=5) rfl rfl rfl rfl kr rfl rfl (by simp [Stm.cells]) ?_
 clear I;intro w2_10 I
 refine noS kr ?_
 refine ap Z (pastS kr) [11] (bt 15 [12,13,14]) [(22,vP g1 4)] fun a Z=>?_
 refine s_on Z 12 rfl ?_
 refine qb3 Z I (i:=5) rfl rfl rfl rfl kr rfl rfl (by simp [Stm.cells]) ?_
 clear I;intro w2_12 I
 refine noS kr ?_
 refine ap Z (pastS kr) [13] (bt 15 [14]) [(23,vP g1 5)] fun a Z=>?_
 refine s_on Z 14 rfl ?_
 refine qb3 Z I (i:=5) rfl rfl rfl rfl kr rfl rfl (by simp [Stm.cells]) ?_
 clear I;intro w2_14 I
 refine noS kr ?_
 refine qb kr ?_
 refine Jb Z I ((JP∘Jg 6 O5∘Jl) fun a Z I=>?_)
 refine fo Z 3 rfl rfl ?_
 refine qb4 Z I (m:=x.rs.length) rfl ei_rw rfl rfl om om rfl de ?_
 clear Z I;intro a w27 g27 Z I
 refine Jb Z I ((Jp 1∘Jd6∘Jq) fun a Z I=>?_)
 rw [qrg] at I
 replace I:=I.newTail 63 3
 replace I:Mem w _ (.row (vS g27 x.rs.length x.rs.length) x.rs.length ((rwUp [] x.rs.length).map Rw.val) 64 1:: .row (.slice A20 x.ts.length c20) x.ts.length (x.ts.flatMap tkL) 61 8:: .row (.slice A17 x.cu.length c17) x.cu.length (x.cu.map I64i) 3 1:: .row (.slice A14 x.cl.length c14) x.cl.length (x.cl.map I64i) 3 1:: .row (.slice A9 x.gs.length c9) x.gs.length (x.gs.flatMap grL) 110 2:: .blk g2 #[vI 0,vQ 0,vN,vN,vN,vN,vN] 38:: .blk g1 #[vI x.cpus,vQ x.credit,.slice A9 x.gs.length c9,.slice A14 x.cl.length c14,.slice A17 x.cu.length c17,.slice A20 x.ts.length c20,.slice x.sA x.rs.length x.sc] 38::rwF 63 []):=I
 refine Jb Z I ((JG∘JQ∘JP∘Jg 6 O6∘Jl∘Jp 1∘Jj∘JB) fun a Z I=>?_)
 refine qj (fun mS aS wS=>∃(i:Nat) (z:List Rw),(i≤x.rs.length)∧(z.length=i)∧(z.map Rw.l=(x.rs.take i).map Rw.l)∧(∀q∈z,q.l.length≤q.c)∧mS=x.rs.length-i∧Fr aS 45 [] [(31,vI i),(30,vI x.rs.length),(29,.slice x.sA x.rs.length x.sc),(3,vS g27 x.rs.length x.rs.length),(2,vP g2 0),(1,vP g1 0)]∧Mem w wS (.row (vS g27 x.rs.length x.rs.length) x.rs.length ((rwUp z (x.rs.length-i)).map Rw.val) 64 1:: .row (.slice A20 x.ts.length c20) x.ts.length (x.ts.flatMap tkL) 61 8:: .row (.slice A17 x.cu.length c17) x.cu.length (x.cu.map I64i) 3 1:: .row (.slice A14 x.cl.length c14) x.cl.length (x.cl.map I64i) 3 1:: .row (.slice A9 x.gs.length c9) x.gs.length (x.gs.flatMap grL) 110 2:: .blk g2 #[vI 0,vQ 0,vN,vN,vN,vN,vN] 38:: .blk g1 #[vI x.cpus,vQ x.credit,.slice A9 x.gs.length c9,.slice A14 x.cl.length c14,.slice A17 x.cu.length c17,.slice A20 x.ts.length c20,.slice x.sA x.rs.length x.sc] 38::rwF 63 z)) (m:=x.rs.length-0) ⟨0,[],Nat.zero_le _,rfl,rfl,(fun q h=>by cases h),rfl,Z.sub kr,I.pt 7 [0,1,2,3,4,5,6]⟩ ?_
 clear Z I;rintro mS a w_ ⟨i,z,hi,hzl,hz,hzc,rfl,Z,I⟩
 refine Jb Z I ((JP∘Jp 1∘Jj∘JQ) (Ju (fun hb32=>?_) fun hb32=>?_))
 ·
  intro a Z I
  have hd32:=of_decide_eq_true hb32
  have hi32:i<x.rs.length:=by omega
  obtain ⟨y,hy⟩:∃q,x.rs.getD i Rw.zero=q:=⟨_,rfl⟩
  have hyr:Rd w w.heap.size 3 y.A y.l.length (y.l.flatMap spL):=by rw [←hy];exact hx.row hi32
  have hyl:y.l.length≤1000000:=by rw [←hy];exact hf.r _ (qd Rw.zero hi32)
  refine Jb Z I ((JT∘JS'∘JQ∘JB∘JP∘Jp 1) fun a Z I=>?_)
  obtain ⟨gq1,oq1,hq1,_⟩:=Rd.qm hx.s (Nat.lt_of_le_of_lt (Nat.zero_le _) (show i<x.rs.length from by omega)) de
  have hrq1:=hx.s;rw [hq1] at hrq1
  replace Z:=Z.sp 29 (.slice (some ⟨gq1,oq1,none⟩) x.rs.length x.sc) rfl (by rw [hq1];try rfl)
  refine Jb Z I ((Jy (h:=by exact Yl.ix gq1 oq1 i 1 rfl rfl rfl)∘Jy (v:= .slice ((x.rs.getD i Rw.zero).A) ((x.rs.getD i Rw.zero).l.length) ((x.rs.getD i Rw.zero).c)) (h:=by exact Yl.o1 hrq1 i Rw.zero hi32 rfl rfl)∘Jo (.slice y.A y.l.length y.c) (by rw [hy])∘Jp 2∘Jj∘JR∘Jp 3∘JK (h:=by exact fun I=>qnr y.A y.c y.l _ (I.old hyr) (hyl))) fun A39 c39 w39 hc39=>(Jy (h:=by exact Yl.ix0 g27 i 1 rfl rfl rfl)) fun a Z I=>?_)
  refine fo Z 5 rfl rfl ?_
  refine q4 Z I (i:=1) rfl rfl rfl rfl kr rfl rfl (by rw [List.length_map,qpa];omega) ?_
  clear I;intro w7_5 I
  replace I:=I.asRow (i:=1) (ys:=(rwUp (z++[(⟨A39,c39,y.l⟩:Rw)]) (x.rs.length- (i+1))).map Rw.val) rfl ((qc7 Rw.val _ i (⟨A39,c39,y.l⟩:Rw) (by rw [qpa];omega)).trans (by rw [show i=z.length from hzl.symm,qxr (⟨A39,c39,y.l⟩:Rw) om];rfl))
  refine Jb Z I ((Jt5∘Jq) fun a Z I=>?_)
  replace I:=I.pt (fs':=(.row (.slice A39 y.l.length c39) y.l.length (y.l.flatMap spL) 63 3:: .row (vS g27 x.rs.length x.rs.length) x.rs.length ((rwUp (z++[(⟨A39,c39,y.l⟩:Rw)]) (x.rs.length- (i+1))).map Rw.val) 64 1:: .row (.slice A20 x.ts.length c20) x.ts.length (x.ts.flatMap tkL) 61 8:: .row (.slice A17 x.cu.length c17) x.cu.length (x.cu.map I64i) 3 1:: .row (.slice A14 x.cl.length c14) x.cl.length (x.cl.map I64i) 3 1:: .row (.slice A9 x.gs.length c9) x.gs.length (x.gs.flatMap grL) 110 2:: .blk g2 #[vI 0,vQ 0,vN,vN,vN,vN,vN] 38:: .blk g1 #[vI x.cpus,vQ x.credit,.slice A9 x.gs.length c9,.slice A14 x.cl.length c14,.slice A17 x.cu.length c17,.slice A20 x.ts.length c20,.slice x.sA x.rs.length x.sc] 38::rwF 63 z)) 8 [0,1,2,3,4,5,6,7]
  replace I:=Mem.toRw (fs:=[.row (vS g27 x.rs.length x.rs.length) x.rs.length ((rwUp (z++[(⟨A39,c39,y.l⟩:Rw)]) (x.rs.length- (i+1))).map Rw.val) 64 1,.row (.slice A20 x.ts.length c20) x.ts.length (x.ts.flatMap tkL) 61 8,.row (.slice A17 x.cu.length c17) x.cu.length (x.cu.map I64i) 3 1,.row (.slice A14 x.cl.length c14) x.cl.length (x.cl.map I64i) 3 1,.row (.slice A9 x.gs.length c9) x.gs.length (x.gs.flatMap grL) 110 2,.blk g2 #[vI 0,vQ 0,vN,vN,vN,vN,vN] 38,.blk g1 #[vI x.cpus,vQ x.credit,.slice A9 x.gs.length c9,.slice A14 x.cl.length c14,.slice A17 x.cu.length c17,.slice A20 x.ts.length c20,.slice x.sA x.rs.length x.sc] 38]) I
  replace I:Mem w _ (.row (vS g27 x.rs.length x.rs.length) x.rs.length ((rwUp (z++[(⟨A39,c39,y.l⟩:Rw)]) (x.rs.length- (i+1))).map Rw.val) 64 1:: .row (.slice A20 x.ts.length c20) x.ts.length (x.ts.flatMap tkL) 61 8:: .row (.slice A17 x.cu.length c17) x.cu.length (x.cu.map I64i) 3 1:: .row (.slice A14 x.cl.length c14) x.cl.length (x.cl.map I64i) 3 1:: .row (.slice A9 x.gs.length c9) x.gs.length (x.gs.flatMap grL) 110 2:: .blk g2 #[vI 0,vQ 0,vN,vN,vN,vN,vN] 38:: .blk g1 #[vI x.cpus,vQ x.credit,.slice A9 x.gs.length c9,.slice A14 x.cl.length c14,.slice A17 x.cu.length c17,.slice A20 x.ts.length c20,.slice x.sA x.rs.length x.sc] 38::rwF 63 (z++[(⟨A39,c39,y.l⟩:Rw)])):=I
  refine Jb Z I ((JG∘JR∘JaK 1∘Jp 1∘Jd1∘Jq) fun a Z I=>?_)
  replace Z:=Z.sp 29 (.slice x.sA x.rs.length x.sc) rfl (by rw [hq1])
  exact ⟨_,om,i+1,(z++[(⟨A39,c39,y.l⟩:Rw)]),by omega,by rw [List.length_append,hzl];rfl,by rw [List.map_append,hz,qou hi32,hy];rfl,fun q h=>(List.mem_append.1 h).elim (hzc q) (fun h=>by rw [List.mem_singleton] at h;subst h;exact hc39),rfl,Z.sub kr,I.pt 7 [0,1,2,3,4,5,6]⟩
 intro a Z I
 have hd32:=of_decide_eq_false hb32
 have hzt:x.rs.take i=x.rs:=List.take_of_length_le om
 have hil:i=x.rs.length:=by omega
 refine Jb Z I ((JF∘JX∘JG∘JP∘Jp 1∘Jf 6∘JW O6' O6') fun w9_2=>(Jt2∘Jr∘Jy (v:= .agg #[vI x.cpus,vQ x.credit,.slice A9 x.gs.length c9,.slice A14 x.cl.length c14,.slice A17 x.cu.length c17,.slice A20 x.ts.length c20,vS g27 x.rs.length x.rs.length]) (h:=by exact Yl.loadS rfl rfl si_st rfl (fun _ h=>qa (h.blk (i:=6) rfl)))∘JV si_st O5') fun w10_1=>(Jt1∘Jj∘JZ) fun a Z I=>?_)
 exact ret1 rfl Z (.cellS (i:=5) Z I rfl rfl si_st rfl) (qux (x:=x) (n:=x.rs.length) (i:=i) hzl hil hc9 hc14 hc17 hc20 hzc (by rw [hzt] at hz;exact hz.symm) (I.pt 7 [4,3,2,1,0]))
def quy (w:World) (x:Stm) (r:Ending) (w':World):Prop:=∃y:Stm,r= .returned (.tuple #[.agg y.cells,.int .i64 0])∧StaEq x y∧StCap y∧Mem w w' (stF y)
def qzb (w:World) (s:Sta) (r:Ending) (w':World):Prop:=∃(gm:Nat) (y:Stm),r= .returned (.tuple #[.pointer (some ⟨gm,0,none⟩),.int .i64 0])∧y.sta=s∧Mem w w' (mdB gm y)
def NewNo (w:World) (r:Ending) (w':World):Prop:=r= .returned (.tuple #[.pointer none,.int .i64 2])∧Below w.heap.size w w'
def NewIs (w:World) (b:Bool) (s:Sta) (r:Ending) (w':World):Prop:=if b=true then qzb w s r w' else NewNo w r w'
theorem qxs {w w':World} {b:Bool} {s:Sta} (h:b=false) (hb:Below w.heap.size w w'):NewIs w b s (.returned (.tuple #[.pointer none,.int .i64 2])) w':=by
 unfold NewIs
 rw [if_neg (by rw [h];decide)]
 exact ⟨rfl,hb⟩
theorem quz {w w':World} {b:Bool} {s:Sta} {gm:Nat} {y:Stm} (h:b=true) (hs:y.sta=s) (hm:Mem w w' (mdB gm y)):NewIs w b s (.returned (.tuple #[.pointer (some ⟨gm,0,none⟩),.int .i64 0])) w':=by
 unfold NewIs
 rw [if_pos h]
 exact ⟨gm,y,rfl,hs,hm⟩
section
variable {W w w':World} {F T fs gs:List Fact} {x y:Stm} {gm:Nat}
theorem Mem.mdRdB (n:Nat) (h:Mem W w F) (he:F.drop n=mdB gm x++T):StRd w x:=h.mdRd n he ⟨rfl,rfl,rfl,rfl,rfl⟩
theorem Mem.mdBlkB (n:Nat) (h:Mem W w F) (he:F.drop n=mdB gm x++T):w.heap[gm]?=some (.cells #[.int .i64 x.cpus,.int .u64 (x.credit:Int),.slice x.gA x.gs.length x.gc,.slice x.lA x.cl.length x.lc,.slice x.uA x.cu.length x.uc,.slice x.tA x.ts.length x.tc,.slice x.sA x.rs.length x.sc,.bool true] 138 (0,0)):=h.mdBlk n he ⟨rfl,rfl,rfl,rfl,rfl⟩
theorem Mem.q14 (h:Mem W w fs) {g:Nat} {cs ds:Array Value} {t:TypeId} (hb:W.heap[g]?=some (.cells cs t (0,0))) (he:cs.toList.take ds.size=ds.toList):w.rangeAt g 0 ds.toList:=fun j u hu=>by
 have hr:=h.q3q hb
 refine hr j u ?_
 rw [←he,List.getElem?_take] at hu
 split at hu
 ·exact hu
 ·cases hu
theorem Mem.alone (h:Mem W w fs) (k:Mem w w' gs):Mem W w' gs:=(h.joinT k).dropN fs.length (by rw [List.drop_left])
end
theorem qu0 {α:Type} (f:α→List Value) (sz:Nat) (hf:∀x,(f x).length=sz) (h0:0<sz) (z:α) (m:Nat):(madeCells (f z).toArray (m*sz)).toList=(List.replicate m z).flatMap f:=by
 unfold madeCells
 have hl:((List.replicate m z).flatMap f).length=m*sz:=by rw [zt f sz hf,List.length_replicate]
 refine List.ext_getElem (by rw [hl];simp) fun i h1 h2=>?_
 have h3:i<m*sz:=by rw [←hl];exact h2
 have hk:i/sz<(List.replicate m z).length:=by rw [List.length_replicate];exact Nat.div_lt_of_lt_mul (by rw [Nat.mul_comm];exact h3)
 have hj:=Nat.mod_lt i h0
 have h4:=qc1 f sz hf (List.replicate m z) (i/sz) (i%sz) hk hj
 rw [show i/sz*sz+i%sz=i by rw [Nat.mul_comm];exact Nat.div_add_mod i sz,List.getElem?_eq_getElem h2,List.getElem_replicate] at h4
 rw [List.getElem?_eq_getElem (by rw [hf];exact hj)] at h4
 injection h4 with h4
 rw [h4]
 simp [hf]
 rw [List.getElem?_eq_getElem (by rw [hf];exact hj)]
 rfl
theorem q07 (m:Nat):(madeCells (Value.agg #[.int .u64 0,.int .u32 0,.int .u64 0]).cells (m*3)).toList=(List.replicate m Sp.zero).flatMap spL:=qu0 spL 3 (fun _=>rfl) de Sp.zero m
theorem qu1 (m:Nat):(madeCells #[.int .i64 0] (m*1)).toList=(List.replicate m (0:Int)).map I64i:=qpb I64i 0 m
theorem qu2 (x:Stm) (gm:Nat) (w:World) (hf:StFew x) (hx:StRd w x) (hm:w.heap[gm]?=some (.cells #[vI x.cpus,vQ x.credit,.slice x.gA x.gs.length x.gc,.slice x.lA x.cl.length x.lc,.slice x.uA x.cu.length x.uc,.slice x.tA x.ts.length x.tc,.slice x.sA x.rs.length x.sc,.bool true] 138 (0,0))):
    Calls Tryz.prog 38 #[vP gm 0] w (quy w x):=by
 refine (JN1 Tryz.func38 19) ?_
 refine (JP∘JA #[vI 0,vQ 0,vN,vN,vN,vN,vN]) fun w2 g2=>(Jp 1∘Jj∘JQ∘JP∘Jp 1∘Jy (v:= .bool false) (h:=by exact Yl.qv4 rfl rfl rfl)∘Jp 2∘Jn∘Jf 7∘Jy (v:= .bool true) (h:=by exact Yl.qe rfl rfl kr (fun _ h=>h.qcc hm rfl))∘Jp 2∘Jd6∘Jj∘JF∘JS'∘JP∘Jp 1∘Jn∘Jf 0∘Jy (v:= .agg x.cells) (h:=by exact Yl.loadS rfl rfl si_st rfl (fun _ h=>h.q14 hm rfl))∘JL (h:=by exact fun I=>qiv x _ (hx.old I) (hf))) ?_
 rintro I _ w18 ⟨y,rfl,heq,hcap,hm⟩
 refine ⟨_,rfl,_,(show Mem w _ (.blk g2 #[vI 0,vQ 0,vN,vN,vN,vN,vN] 38::stF y) from I.joinT hm),?_⟩
 refine (JV si_st O0' (h1:=by exact qfb y)) fun w3_5=>(Jp 1∘Jd5∘Jj∘JZ) fun a Z I=>?_
 exact ret2 rfl Z (.cellS (i:=0) Z I rfl rfl si_st rfl) (.tmp Z rfl) (⟨y,rfl,heq,hcap,I.pt 1 []⟩)
theorem q08 {cp:Int} {cr gc:Nat} {gA:Option Addr} {gs:List Gr} (hf:gs.length≤1000000):StFew (⟨cp,cr,gA,gc,gs,none,0,[],none,0,[],none,0,[],none,0,[]⟩:Stm):=⟨hf,Nat.zero_le _,Nat.zero_le _,Nat.zero_le _,Nat.zero_le _,fun y hy=>by cases hy⟩
theorem q26 {w:World} {cp:Int} {cr gc:Nat} {gA:Option Addr} {gs:List Gr} (hr:Rd w w.heap.size 2 gA gs.length (gs.flatMap grL)):StRd w (⟨cp,cr,gA,gc,gs,none,0,[],none,0,[],none,0,[],none,0,[]⟩:Stm):=⟨hr,Rd.nil,Rd.nil,Rd.nil,Rd.nil,fun y hy=>by cases hy⟩
theorem q27 {W w:World} {F:List Fact} {rz:List Sp} {cr gc cs g11 g14:Nat} {gA As:Option Addr} {gs:List Gr} {z:List Rw} (I:Mem W w F) (hr:Rd W W.heap.size 2 gA gs.length (gs.flatMap grL)) {q:Nat} (hq:z.length=q) (i j k n:Nat) (h1:F[i]?=some (.row (.slice (some ⟨g11,0,none⟩) rz.length rz.length) rz.length ((List.replicate rz.length (0:Int)).map I64i) 3 1)) (h2:F[j]?=some (.row (.slice (some ⟨g14,0,none⟩) rz.length rz.length) rz.length ((List.replicate rz.length (0:Int)).map I64i) 3 1)) (h3:F[k]?=some (.row (.slice As q cs) q (z.map Rw.val) 64 1)) (h4:F.drop n=rwF 63 z):StRd w (⟨(rz.length:Int),cr,gA,gc,gs,some ⟨g11,0,none⟩,rz.length,(List.replicate rz.length (0:Int)),some ⟨g14,0,none⟩,rz.length,(List.replicate rz.length (0:Int)),none,0,[],As,cs,z⟩:Stm):=
 ⟨I.old hr,by show Rd w _ 1 _ (List.length _) _;rw [List.length_replicate];exact I.rd h1,by show Rd w _ 1 _ (List.length _) _;rw [List.length_replicate];exact I.rd h2,Rd.nil,by show Rd w _ 1 _ z.length _;rw [hq];exact I.rd h3,fun y hy=>I.rdMem (List.mem_of_mem_drop (h4▸qtk hy))⟩
theorem q09 {rz:List Sp} {cr gc cs g11 g14:Nat} {gA As:Option Addr} {gs:List Gr} {z:List Rw} (hr:List.replicate rz.length Sp.zero=rz) (hk:z.length=gs.length) (hz:∀q∈z,q.l=rz):(⟨(rz.length:Int),cr,gA,gc,gs,some ⟨g11,0,none⟩,rz.length,(List.replicate rz.length (0:Int)),some ⟨g14,0,none⟩,rz.length,(List.replicate rz.length (0:Int)),none,0,[],As,cs,z⟩:Stm).sta=newS (rz.length:Int) cr gs:=by
 have h1:z.map Rw.l=List.replicate gs.length rz:=by
  rw [List.eq_replicate_iff]
  refine ⟨by rw [List.length_map];exact hk,fun b hb=>?_⟩
  obtain ⟨q,hq,rfl⟩:=List.mem_map.1 hb
  exact hz q hq
 unfold Stm.sta newS
 dsimp only
 rw [h1,Int.toNat_natCast,hr]
theorem q1a (cp:Int) (cr:Nat) (gA:Option Addr) (gc:Nat) (gs:List Gr) (w:World) (hok:(⟨cp,cr,gA,gc,gs,none,0,[],none,0,[],none,0,[],none,0,[]⟩:Stm).sta.Ok) (hf:gs.length≤1000000) (hr:Rd w w.heap.size 2 gA gs.length (gs.flatMap grL)):
    Calls Tryz.prog 34 #[.agg #[vI cp,vQ cr,.slice gA gs.length gc]] w (NewIs w (cfgOk (⟨cp,cr,gA,gc,gs,none,0,[],none,0,[],none,0,[],none,0,[]⟩:Stm).sta) (newS cp cr gs)):=by
 have hocr:=hok.credit
 refine (JN1 Tryz.func34 34) ?_
 refine (JP∘JE) fun w1 g1=>(Jp 2∘Jj∘JQ∘JP∘Jy (v:= .agg #[vI cp,vQ cr,.slice gA gs.length gc]) (h:=by exact Yl.loadS rfl rfl qab rfl (fun _ h=>qa (h.blk (i:=0) rfl)))∘JI (h:=by exact fun I=>qda (⟨cp,cr,gA,gc,gs,none,0,[],none,0,[],none,0,[],none,0,[]⟩:Stm) hok (q08 hf) _ (q26 (I.old hr)))) fun w6 hbw=>(Jp 1∘Jd2∘Jj) (Ju (fun hb7=>?_) fun hb7=>?_)
 ·
  exact (JT∘JP∘Jp 2∘Jj∘JZ∘Jz2) fun I=>qxs (by simpa using hb7) I.below
 intro a Z I
 obtain ⟨hcp1,hcp2,_,hgs⟩:=zq (x:=(⟨cp,cr,gA,gc,gs,none,0,[],none,0,[],none,0,[],none,0,[]⟩:Stm)) (by simpa using hb7)
 replace hcp1:1≤cp:=hcp1;replace hcp2:cp≤64:=hcp2;replace hgs:gsOk gs=true:=hgs
 have hgl:=(qq hgs).2.1
 have hcfg:cfgOk (⟨cp,cr,gA,gc,gs,none,0,[],none,0,[],none,0,[],none,0,[]⟩:Stm).sta=true:=by simpa using hb7
 obtain ⟨rz,hrz0⟩:∃l:List Sp,List.replicate cp.toNat Sp.zero=l:=⟨_,rfl⟩
 revert I;revert a;repeat (first|clear Z|clear I)
 intro a Z I
 obtain rfl:cp=(rz.length:Int):=by rw [←hrz0,List.length_replicate];omega
 have hrz:List.replicate rz.length Sp.zero=rz:=hrz0
 refine Jb Z I ((JF∘JS') fun a Z I=>?_)
 refine wp_seq ?_
 refine Jb Z I ((Vs .n [9]) fun wd3=>fun a Z I HS=>?_)
 refine qw (f:=0) (l:=(bt 10 [])) (fun aS wS=>∃(g11:Nat) (g14:Nat) (g4:Nat),Fr aS 34 [] [(4,vP g4 0),(7,.bool false),(3,vI 0),(2,.pointer none),(1,vP g1 0),(0,.agg #[vI rz.length,vQ cr,.slice gA gs.length gc])]∧Mem w wS [.blk g4 #[vI rz.length,vQ cr,.slice gA gs.length gc,vS g11 rz.length rz.length,vS g14 rz.length rz.length,vN,vN] 38,.row (vS g14 rz.length rz.length) rz.length ((madeCells #[vI 0] (rz.length*1)).toList) 3 1,.row (vS g11 rz.length rz.length) rz.length ((madeCells #[vI 0] (rz.length*1)).toList) 3 1,.blk g1 #[vI rz.length,vQ cr,.slice gA gs.length gc] 33]) ?_ fun M3_0=>?_
 ·
  clear Z I HS;rintro a wM ⟨g11,g14,g4,Z,I⟩
  refine qb kr ?_
  rw [qu1] at I
  replace I:=I.nil 64 1
  replace I:=I.newTail 63 3
  replace I:Mem w _ (.row (vN) 0 [] 64 1:: .blk g4 #[vI rz.length,vQ cr,.slice gA gs.length gc,vS g11 rz.length rz.length,vS g14 rz.length rz.length,vN,vN] 38:: .row (vS g14 rz.length rz.length) rz.length ((List.replicate rz.length (0:Int)).map I64i) 3 1:: .row (vS g11 rz.length rz.length) rz.length ((List.replicate rz.length (0:Int)).map I64i) 3 1:: .blk g1 #[vI rz.length,vQ cr,.slice gA gs.length gc] 33::rwF 63 []):=I
  refine Jb Z I ((JQ∘JP∘Jg 2 O4∘Jl∘Jp 1∘Jj∘JB) fun a Z I=>?_)
  refine qj (fun mS aS wS=>∃(k:Nat) (z:List Rw) (As:Option Addr) (cs:Nat),(k≤gs.length)∧(z.length=k)∧(∀q∈z,q.l=rz)∧(k≤cs)∧mS=gs.length-k∧Fr aS 34 [] [(19,vI k),(18,vI gs.length),(4,vP g4 0),(7,.bool false),(3,vI 0),(2,.pointer none),(1,vP g1 0)]∧Mem w wS (.row (.slice As k cs) k (z.map Rw.val) 64 1:: .blk g4 #[vI rz.length,vQ cr,.slice gA gs.length gc,vS g11 rz.length rz.length,vS g14 rz.length rz.length,vN,.slice As k cs] 38:: .row (vS g14 rz.length rz.length) rz.length ((List.replicate rz.length (0:Int)).map I64i) 3 1:: .row (vS g11 rz.length rz.length) rz.length ((List.replicate rz.length (0:Int)).map I64i) 3 1:: .blk g1 #[vI rz.length,vQ cr,.slice gA gs.length gc] 33::rwF 63 z)) (m:=gs.length-0) ⟨0,[],none,0,Nat.zero_le _,rfl,(fun q h=>by cases h),Nat.le_refl _,rfl,Z.sub kr,I.pt 5 [0,1,2,3,4]⟩ ?_
  clear Z I;rintro mS a w_ ⟨k,z,As,cs,hk,hzl,hz,hcs,rfl,Z,I⟩
  refine Jb Z I ((JP∘Jp 1∘Jj∘JQ) (Ju (fun hb20=>?_) fun hb20=>?_))
  ·
   intro a Z I
   have hd20:=of_decide_eq_true hb20
   refine Jb Z I ((JT∘JS'∘JQ∘JB∘Vs (.f .n) [8]) fun wd6=>(Vf 0 6∘Vf 2 0∘Vc 1 O0∘Vc 3 O3) fun a Z I HS=>?_)
   refine s_on Z 4 rfl ?_
   refine qb4 Z I (m:=rz.length) rfl ei_sp rfl rfl om om rfl de ?_
   clear Z I;intro a w25 g25 Z I
   refine keepS (I.pt 6 [2,3,4,5]) (fun HS=>?_)
   refine s_on Z 5 rfl (s_el Z I ei_rw [(0,vS g25 rz.length rz.length)] #[vS g25 rz.length rz.length] ?_)
   clear Z I;intro a w26 g26 Z I
   refine keepS (I.pt 7 [3,4,5,6]) (fun HS=>?_)
   refine s_on Z 6 rfl (qad Z I (i:=2) rfl ei_rw rfl rfl rfl (news:=([(⟨some ⟨g25,0,none⟩,rz.length,rz⟩:Rw)].map Rw.val)) (I.rdBlk (i:=0) (n:=1) (size:=1) rfl rfl) (qy4 _) om om rfl de ?_)
   clear Z I;intro a w27 A27 c27 Z I hc27
   refine keepS (I.pt 7 [3,4,5,6]) (fun HS=>?_)
   refine Vb Z I HS ((Vf 7 6) fun a Z I HS=>?_)
   refine s_on Z 8 rfl (s_es Z I 3 ?_)
   clear I;intro w6_8 I
   refine noS kr ?_
   refine qb kr ?_
   replace I:=I.asRow (i:=1) (ys:=rz.flatMap spL) rfl ((q07 _).trans (by rw [hrz]))
   replace I:=I.asRow (i:=2) (ys:=(z++[(⟨some ⟨g25,0,none⟩,rz.length,rz⟩:Rw)]).map Rw.val) rfl (by rw [List.map_append])
   replace I:=I.pt (fs':=(.row (vS g25 rz.length rz.length) rz.length (rz.flatMap spL) 63 3:: .row (.slice A27 (k+1) c27) (k+1) ((z++[(⟨some ⟨g25,0,none⟩,rz.length,rz⟩:Rw)]).map Rw.val) 64 1:: .blk g4 #[vI rz.length,vQ cr,.slice gA gs.length gc,vS g11 rz.length rz.length,vS g14 rz.length rz.length,vN,.slice A27 (k+1) c27] 38:: .row (vS g14 rz.length rz.length) rz.length ((List.replicate rz.length (0:Int)).map I64i) 3 1:: .row (vS g11 rz.length rz.length) rz.length ((List.replicate rz.length (0:Int)).map I64i) 3 1:: .blk g1 #[vI rz.length,vQ cr,.slice gA gs.length gc] 33::rwF 63 z)) 7 [1,2,3,4,5,6]
   replace I:=Mem.toRw (fs:=[.row (.slice A27 (k+1) c27) (k+1) ((z++[(⟨some ⟨g25,0,none⟩,rz.length,rz⟩:Rw)]).map Rw.val) 64 1,.blk g4 #[vI rz.length,vQ cr,.slice gA gs.length gc,vS g11 rz.length rz.length,vS g14 rz.length rz.length,vN,.slice A27 (k+1) c27] 38,.row (vS g14 rz.length rz.length) rz.length ((List.replicate rz.length (0:Int)).map I64i) 3 1,.row (vS g11 rz.length rz.length) rz.length ((List.replicate rz.length (0:Int)).map I64i) 3 1,.blk g1 #[vI rz.length,vQ cr,.slice gA gs.length gc] 33]) I
   replace I:Mem w _ (.row (.slice A27 (k+1) c27) (k+1) ((z++[(⟨some ⟨g25,0,none⟩,rz.length,rz⟩:Rw)]).map Rw.val) 64 1:: .blk g4 #[vI rz.length,vQ cr,.slice gA gs.length gc,vS g11 rz.length rz.length,vS g14 rz.length rz.length,vN,.slice A27 (k+1) c27] 38:: .row (vS g14 rz.length rz.length) rz.length ((List.replicate rz.length (0:Int)).map I64i) 3 1:: .row (vS g11 rz.length rz.length) rz.length ((List.replicate rz.length (0:Int)).map I64i) 3 1:: .blk g1 #[vI rz.length,vQ cr,.slice gA gs.length gc] 33::rwF 63 (z++[(⟨some ⟨g25,0,none⟩,rz.length,rz⟩:Rw)])):=I
   refine Jb Z I ((JG∘JR∘JaK 1∘Jp 1∘Jd6∘Jq) fun a Z I=>?_)
   exact ⟨_,om,k+1,(z++[(⟨some ⟨g25,0,none⟩,rz.length,rz⟩:Rw)]),A27,c27,by omega,by rw [List.length_append,hzl];rfl,fun q h=>(List.mem_append.1 h).elim (hz q) (fun h=>by rw [List.mem_singleton] at h;subst h;rfl),hc27,rfl,Z.sub kr,I.pt 5 [0,1,2,3,4]⟩
  intro a Z I
  have hd20:=of_decide_eq_false hb20
  have hkg:z.length=gs.length:=by omega
  refine Jb Z I ((JF∘JX∘JG∘JP∘Jy (v:= .agg #[vI rz.length,vQ cr,.slice gA gs.length gc,vS g11 rz.length rz.length,vS g14 rz.length rz.length,vN,.slice As k cs]) (h:=by exact Yl.loadS rfl rfl si_st rfl (fun _ h=>qa (h.blk (i:=1) rfl)))∘Jo (.agg ((⟨(rz.length:Int),cr,gA,gc,gs,some ⟨g11,0,none⟩,rz.length,(List.replicate rz.length (0:Int)),some ⟨g14,0,none⟩,rz.length,(List.replicate rz.length (0:Int)),none,0,[],As,cs,z⟩:Stm).cells)) (by unfold Stm.cells;rw [List.length_replicate,hzl];try rfl)∘JL (h:=by exact fun I=>qiv (⟨(rz.length:Int),cr,gA,gc,gs,some ⟨g11,0,none⟩,rz.length,(List.replicate rz.length (0:Int)),some ⟨g14,0,none⟩,rz.length,(List.replicate rz.length (0:Int)),none,0,[],As,cs,z⟩:Stm) _ (q27 I hr hzl 3 2 0 5 rfl rfl rfl rfl) (⟨hf,by rw [List.length_replicate];omega,by rw [List.length_replicate];omega,Nat.zero_le _,by show z.length≤1000000;omega,fun q hq=>by rw [hz q hq];omega⟩))) ?_)
  rintro I _ w31 ⟨y,rfl,heq,hcap,hm⟩
  refine ⟨_,rfl,_,(Mem.alone I hm),?_⟩
  exact (Jy (v:= .agg #[vI y.cpus,vQ y.credit,.slice y.gA y.gs.length y.gc,.slice y.lA y.cl.length y.lc,.slice y.uA y.cu.length y.uc,.slice y.tA y.ts.length y.tc,.slice y.sA y.rs.length y.sc,.bool true]) (h:=by exact Yl.build (vs:=[(0,.agg y.cells),(1,.bool true)]) rfl kr kr)∘JE) fun w33 g33=>(Jp 2∘Jj∘JZ∘Jz2) fun I=>quz (y:=y) hcfg ((qla heq).trans (q09 hrz hkg hz)) (I.pt 1 [0])
 refine qw (f:=2) (l:=(bt 10 [7,9])) (fun aS wS=>∃(g11:Nat) (g4:Nat) (g14:Nat),Fr aS 34 [] [(14,vS g14 rz.length rz.length),(4,vP g4 0),(11,vS g11 rz.length rz.length),(8,.agg #[vI rz.length,vQ cr,.slice gA gs.length gc]),(7,.bool false),(3,vI 0),(2,.pointer none),(1,vP g1 0),(0,.agg #[vI rz.length,vQ cr,.slice gA gs.length gc])]∧Mem w wS [.row (vS g14 rz.length rz.length) rz.length ((madeCells #[vI 0] (rz.length*1)).toList) 3 1,.blk g4 #[vI 0,vQ 0,vN,vN,vN,vN,vN] 38,.row (vS g11 rz.length rz.length) rz.length ((madeCells #[vI 0] (rz.length*1)).toList) 3 1,.blk g1 #[vI rz.length,vQ cr,.slice gA gs.length gc] 33]) ?_ fun M3_1=>?_
 ·
  clear Z I HS;rintro a wM ⟨g11,g4,g14,Z,I⟩
  have HS:=I.pk (fs':=[.blk g1 #[vI rz.length,vQ cr,.slice gA gs.length gc] 33]) [3]
  refine Vb Z I HS ((Vy 7 (v:= .agg #[vI rz.length,vQ cr,.slice gA gs.length gc,vS g11 rz.length rz.length,vS g14 rz.length rz.length,vN,vN]) (h:=by exact Yl.build (vs:=[(0,.agg #[vI rz.length,vQ cr,.slice gA gs.length gc]),(1,vS g11 rz.length rz.length),(2,vS g14 rz.length rz.length)]) rfl kr kr)) fun a Z I HS=>?_)
  refine s_on Z 9 rfl (e_sa Z I 1 rfl rfl rfl rfl rfl si_st rfl rfl (by simp [Value.oneCell']) ?_)
  clear I;intro w3_9 I
  refine noS kr ?_
  exact M3_0 _ _ ⟨g11,g14,g4,Z.sub kr,I.pk [1,0,2,3]⟩
 refine qw (f:=3) (l:=(bt 10 [7,8,9])) (fun aS wS=>∃(g11:Nat) (g14:Nat),Fr aS 34 [] [(14,vS g14 rz.length rz.length),(11,vS g11 rz.length rz.length),(8,.agg #[vI rz.length,vQ cr,.slice gA gs.length gc]),(7,.bool false),(3,vI 0),(2,.pointer none),(1,vP g1 0),(0,.agg #[vI rz.length,vQ cr,.slice gA gs.length gc])]∧Mem w wS [.row (vS g14 rz.length rz.length) rz.length ((madeCells #[vI 0] (rz.length*1)).toList) 3 1,.row (vS g11 rz.length rz.length) rz.length ((madeCells #[vI 0] (rz.length*1)).toList) 3 1,.blk g1 #[vI rz.length,vQ cr,.slice gA gs.length gc] 33]) ?_ fun M3_2=>?_
 ·
  clear Z I HS;rintro a wM ⟨g11,g14,Z,I⟩
  have HS:=I.pk (fs':=[.blk g1 #[vI rz.length,vQ cr,.slice gA gs.length gc] 33]) [2]
  refine Vb Z I HS ((Vy 7 (v:= .agg #[vI rz.length,vQ cr,.slice gA gs.length gc,vS g11 rz.length rz.length,vS g14 rz.length rz.length,vN,vN]) (h:=by exact Yl.build (vs:=[(0,.agg #[vI rz.length,vQ cr,.slice gA gs.length gc]),(1,vS g11 rz.length rz.length),(2,vS g14 rz.length rz.length)]) rfl kr kr)∘VA 8 (.f (.f .n)) #[vI 0,vQ 0,vN,vN,vN,vN,vN]) fun w4 g4=>fun a Z I HS=>?_)
  refine s_on Z 9 rfl (e_sa Z I 0 rfl rfl rfl rfl rfl si_st rfl rfl (by simp [Value.oneCell']) ?_)
  clear I;intro w3_9 I
  refine noS kr ?_
  exact M3_0 _ _ ⟨g11,g14,g4,Z.sub kr,I.pk [0,1,2,3]⟩
 refine qw (f:=3) (l:=(bt 10 [6,7,9])) (fun aS wS=>∃(g11:Nat) (g4:Nat),Fr aS 34 [] [(4,vP g4 0),(11,vS g11 rz.length rz.length),(13,vI rz.length),(8,.agg #[vI rz.length,vQ cr,.slice gA gs.length gc]),(7,.bool false),(3,vI 0),(2,.pointer none),(1,vP g1 0),(0,.agg #[vI rz.length,vQ cr,.slice gA gs.length gc])]∧Mem w wS [.blk g4 #[vI 0,vQ 0,vN,vN,vN,vN,vN] 38,.row (vS g11 rz.length rz.length) rz.length ((madeCells #[vI 0] (rz.length*1)).toList) 3 1,.blk g1 #[vI rz.length,vQ cr,.slice gA gs.length gc] 33]) ?_ fun M3_3=>?_
 ·
  clear Z I HS;rintro a wM ⟨g11,g4,Z,I⟩
  have HS:=I.pk (fs':=[.blk g1 #[vI rz.length,vQ cr,.slice gA gs.length gc] 33]) [2]
  refine s_on Z 6 rfl ?_
  refine qb4 Z I (m:=rz.length) rfl ze rfl rfl om om rfl de ?_
  clear Z I;intro a w14 g14 Z I
  refine keepS (I.pk [3]) (fun HS=>?_)
  exact M3_1 _ _ ⟨g11,g4,g14,Z.sub kr,I.pk [0,1,2,3]⟩
 refine qw (f:=3) (l:=(bt 10 [3,7,9])) (fun aS wS=>∃(g14:Nat) (g4:Nat),Fr aS 34 [] [(4,vP g4 0),(14,vS g14 rz.length rz.length),(10,vI rz.length),(8,.agg #[vI rz.length,vQ cr,.slice gA gs.length gc]),(7,.bool false),(3,vI 0),(2,.pointer none),(1,vP g1 0),(0,.agg #[vI rz.length,vQ cr,.slice gA gs.length gc])]∧Mem w wS [.blk g4 #[vI 0,vQ 0,vN,vN,vN,vN,vN] 38,.row (vS g14 rz.length rz.length) rz.length ((madeCells #[vI 0] (rz.length*1)).toList) 3 1,.blk g1 #[vI rz.length,vQ cr,.slice gA gs.length gc] 33]) ?_ fun M3_4=>?_
 ·
  clear Z I HS;rintro a wM ⟨g14,g4,Z,I⟩
  have HS:=I.pk (fs':=[.blk g1 #[vI rz.length,vQ cr,.slice gA gs.length gc] 33]) [2]
  refine s_on Z 3 rfl ?_
  refine qb4 Z I (m:=rz.length) rfl ze rfl rfl om om rfl de ?_
  clear Z I;intro a w11 g11 Z I
  refine keepS (I.pk [3]) (fun HS=>?_)
  exact M3_1 _ _ ⟨g11,g4,g14,Z.sub kr,I.pk [2,1,0,3]⟩
 refine Vb Z I HS ((Vf 1 0∘Vf 4 0∘Vy 0 (v:= .agg #[vI rz.length,vQ cr,.slice gA gs.length gc]) (h:=by exact Yl.loadS rfl rfl qab rfl (fun _ h=>qa (h.blk (i:=0) rfl)))∘Vc 2 O0∘Vc 5 O0) fun a Z I HS=>?_)
 refine qo [3,6,8] kr rfl ?_
 refine all_cons ?_ ?_
 ·refine qc Z (i:=3) rfl rfl ?_
  refine qb4 Z I (m:=rz.length) rfl ze rfl rfl om om rfl de ?_
  clear Z I;intro a w11 g11 Z I
  refine keepS (I.pk [1]) (fun HS=>?_)
  refine qo [6,8] kr rfl ?_
  refine all_cons ?_ ?_
  ·refine qc Z (i:=6) rfl rfl ?_
   refine qb4 Z I (m:=rz.length) rfl ze rfl rfl om om rfl de ?_
   clear Z I;intro a w14 g14 Z I
   refine keepS (I.pk [2]) (fun HS=>?_)
   exact M3_2 _ _ ⟨g11,g14,Z.sub kr,I.pk [0,1,2]⟩
  refine all_cons ?_ all_nil
  refine qc Z (i:=8) rfl rfl ?_
  refine s_ea Z I #[vI 0,vQ 0,vN,vN,vN,vN,vN] ?_
  clear Z I;intro a w4 g4 Z I
  refine keepS (I.pk [2]) (fun HS=>?_)
  exact M3_3 _ _ ⟨g11,g4,Z.sub kr,I.pk [0,1,2]⟩
 refine all_cons ?_ ?_
 ·refine qc Z (i:=6) rfl rfl ?_
  refine qb4 Z I (m:=rz.length) rfl ze rfl rfl om om rfl de ?_
  clear Z I;intro a w14 g14 Z I
  refine keepS (I.pk [1]) (fun HS=>?_)
  refine qo [3,8] kr rfl ?_
  refine all_cons ?_ ?_
  ·refine qc Z (i:=3) rfl rfl ?_
   refine qb4 Z I (m:=rz.length) rfl ze rfl rfl om om rfl de ?_
   clear Z I;intro a w11 g11 Z I
   refine keepS (I.pk [2]) (fun HS=>?_)
   exact M3_2 _ _ ⟨g11,g14,Z.sub kr,I.pk [1,0,2]⟩
  refine all_cons ?_ all_nil
  refine qc Z (i:=8) rfl rfl ?_
  refine s_ea Z I #[vI 0,vQ 0,vN,vN,vN,vN,vN] ?_
  clear Z I;intro a w4 g4 Z I
  refine keepS (I.pk [2]) (fun HS=>?_)
  exact M3_4 _ _ ⟨g14,g4,Z.sub kr,I.pk [0,1,2]⟩
 refine all_cons ?_ all_nil
 refine qc Z (i:=8) rfl rfl ?_
 refine s_ea Z I #[vI 0,vQ 0,vN,vN,vN,vN,vN] ?_
 clear Z I;intro a w4 g4 Z I
 refine keepS (I.pk [1]) (fun HS=>?_)
 refine qo [3,6] kr rfl ?_
 refine all_cons ?_ ?_
 ·refine qc Z (i:=3) rfl rfl ?_
  refine qb4 Z I (m:=rz.length) rfl ze rfl rfl om om rfl de ?_
  clear Z I;intro a w11 g11 Z I
  refine keepS (I.pk [2]) (fun HS=>?_)
  exact M3_3 _ _ ⟨g11,g4,Z.sub kr,I.pk [1,0,2]⟩
 refine all_cons ?_ all_nil
 refine qc Z (i:=6) rfl rfl ?_
 refine qb4 Z I (m:=rz.length) rfl ze rfl rfl om om rfl de ?_
 clear Z I;intro a w14 g14 Z I
 refine keepS (I.pk [2]) (fun HS=>?_)
 exact M3_4 _ _ ⟨g14,g4,Z.sub kr,I.pk [1,0,2]⟩
structure Nums where
 cpus:Nat
 groups:Nat
 credit:Nat
 ps:List Nat
 ws:List Nat
def Nums.cells (n:Nums):Array Value:=(.int .u8 (n.cpus:Int):: .int .u8 (n.groups:Int):: .int .u32 (n.credit:Int)::(n.ps.map (fun z:Nat=>Value.int .u8 (z:Int))++n.ws.map (fun z:Nat=>Value.int .u16 (z:Int)))).toArray
structure Nums.Ok (n:Nums):Prop where
 cpus:n.cpus<256
 groups:n.groups<256
 credit:n.credit<4294967296
 pl:n.ps.length=5
 wl:n.ws.length=5
 ps:∀z∈n.ps,z<256
 ws:∀z∈n.ws,z<65536
section
variable {n:Nums} {i g:Nat} {gs:List Gr} {ds:List Nat} {x:Gr}
theorem Nums.p_at (h:n.Ok) (hi:i<5):n.cells[3+i*1]?=some (.int .u8 (n.ps.getD i 0:Int))∧n.ps.getD i 0<256:=by
 have hl:i<n.ps.length:=by rw [h.pl];exact hi
 refine ⟨?_,h.ps _ (qd 0 hl)⟩
 rw [Nat.mul_one,Nat.add_comm]
 rw [←Array.getElem?_toList]
 unfold Nums.cells
 dsimp only
 rw [List.getElem?_cons_succ,List.getElem?_cons_succ,List.getElem?_cons_succ,List.getElem?_append_left (by rw [List.length_map];exact hl),List.getElem?_map,getD_at 0 hl]
 rfl
theorem Nums.w_at (h:n.Ok) (hi:i<5):n.cells[8+i*1]?=some (.int .u16 (n.ws.getD i 0:Int))∧n.ws.getD i 0<65536:=by
 have hl:i<n.ws.length:=by rw [h.wl];exact hi
 refine ⟨?_,h.ws _ (qd 0 hl)⟩
 rw [Nat.mul_one,show 8+i=(5+i)+3 by omega]
 rw [←Array.getElem?_toList]
 unfold Nums.cells
 dsimp only
 rw [List.getElem?_cons_succ,List.getElem?_cons_succ,List.getElem?_cons_succ,List.getElem?_append_right (by rw [List.length_map,h.pl];omega),List.length_map,h.pl,Nat.add_sub_cancel_left,List.getElem?_map,getD_at 0 hl]
 rfl
def madeF (ps ws:List Nat):Nat→List Gr×List Nat
 |0=>([⟨0,1⟩],[0])
 |i+1=>
  let q:=madeF ps ws i
  let u:=ps.getD i 0%q.1.length
  let up:=if q.2.getD u 0=4 then 0 else u
  (q.1++[⟨(up:Int),((1+ws.getD i 0:Nat):Int)⟩],q.2++[q.2.getD up 0+1])
theorem qpc:∀(f g:Nat),g<gs.length→(∀i,0<i→i≤g→ParB gs i)→depF (gs++[x]) f g=depF gs f g
 |0,_,_,_=>rfl
 | f + 1, g, hg, hp => by
  rw [depF,depF]
  split
  ·rfl
  ·rename_i h0
   have h1:=hp g om (Nat.le_refl _)
   unfold ParB at h1
   rw [List.getD_eq_getElem?_getD,List.getElem?_append_left hg,←List.getD_eq_getElem?_getD]
   rw [qpc f _ om (fun i hi hl=>hp i hi om)]
theorem qf9 {α:Type} {l:List α} {x d:α} {g:Nat} (hg:g<l.length):(l++[x]).getD g d=l.getD g d:=by
 rw [List.getD_eq_getElem?_getD,List.getElem?_append_left hg,←List.getD_eq_getElem?_getD]
theorem qlw {α:Type} {l:List α} {x d:α}:(l++[x]).getD l.length d=x:=by
 rw [List.getD_eq_getElem?_getD,List.getElem?_append_right (Nat.le_refl _),Nat.sub_self]
 rfl
structure MadeOk (gs:List Gr) (ds:List Nat):Prop where
 len:ds.length=gs.length
 ok:gsOk gs=true
 dep:∀g,g<gs.length→ds.getD g 0=depG gs g
theorem qpd:MadeOk [⟨0,1⟩] [0]:=⟨rfl,by decide,fun g hg=>by
 obtain rfl:g=0:=by simp at hg;omega
 rfl⟩
theorem MadeOk.le (h:MadeOk gs ds) (hg:g<gs.length):ds.getD g 0≤4:=by
 rw [h.dep g hg]
 have h1:=(qq h.ok).2.2.2 g hg
 unfold gOk at h1
 rw [Bool.or_eq_true,beq_iff_eq,decide_eq_true_eq] at h1
 rcases h1 with rfl|h1
 ·exact Nat.zero_le _
 ·exact h1.2.2.2
theorem MadeOk.snoc {up w:Nat} (h:MadeOk gs ds) (hu:up<gs.length) (hd:ds.getD up 0<4) (hw:w<65536) (hl:gs.length<256):MadeOk (gs++[⟨(up:Int),((1+w:Nat):Int)⟩]) (ds++[ds.getD up 0+1]):=by
 obtain ⟨h1,h2,h3,h4⟩:=qq h.ok
 have hlen:(gs++[(⟨(up:Int),((1+w:Nat):Int)⟩:Gr)]).length=gs.length+1:=by rw [List.length_append];rfl
 have hp:∀g,g<gs.length→∀i,0<i→i≤g→ParB gs i:=fun g hg=>qam h.ok hg
 have hdep:∀g,g<gs.length→depG (gs++[⟨(up:Int),((1+w:Nat):Int)⟩]) g=depG gs g:=fun g hg=>qpc g g hg (hp g hg)
 have hlast:(gs++[(⟨(up:Int),((1+w:Nat):Int)⟩:Gr)]).getD gs.length Gr.zero=⟨(up:Int),((1+w:Nat):Int)⟩:=qlw
 have hpl:∀i,0<i→i≤gs.length→ParB (gs++[⟨(up:Int),((1+w:Nat):Int)⟩]) i:=fun i hi hil=>by
  unfold ParB
  rcases Nat.lt_or_ge i gs.length with h5|h5
  ·rw [qf9 h5];exact hp i h5 i hi (Nat.le_refl _)
  ·obtain rfl:i=gs.length:=by omega
   rw [hlast]
   exact ⟨by show (0:Int)≤(up:Int);omega,by show (up:Int)<_;omega⟩
 have hnew:depG (gs++[⟨(up:Int),((1+w:Nat):Int)⟩]) gs.length=ds.getD up 0+1:=by
  rw [qgm hpl om,hlast]
  show depG (gs++[⟨(up:Int),((1+w:Nat):Int)⟩]) ((up:Int)).toNat+1=_
  rw [Int.toNat_natCast,hdep up hu,h.dep up hu]
 refine ⟨by rw [List.length_append,hlen,h.len];rfl,?_,fun g hg=>?_⟩
 ·unfold gsOk
  rw [hlen,qf9 om,decide_eq_true ⟨by omega,by omega,h3⟩,Bool.true_and]
  refine qbm fun g hg=>?_
  rcases Nat.lt_or_ge g gs.length with h5|h5
  ·have h6:=h4 g h5
   unfold gOk at h6⊢
   rw [qf9 h5,hdep g h5]
   exact h6
  ·obtain rfl:g=gs.length:=by omega
   unfold gOk
   rw [hlast,hnew,Bool.or_eq_true,decide_eq_true_eq]
   refine .inr ⟨by show (0:Int)≤(up:Int);omega,by show (up:Int)<_;omega,?_,by omega⟩
   unfold wOk
   rw [decide_eq_true_eq]
   show (1:Int)≤((1+w:Nat):Int)∧((1+w:Nat):Int)≤65536
   omega
 ·rw [hlen] at hg
  rcases Nat.lt_or_ge g gs.length with h5|h5
  ·rw [qf9 (by rw [h.len];exact h5),hdep g h5,h.dep g h5]
  ·obtain rfl:g=gs.length:=by omega
   rw [hnew,←h.len,qlw]
theorem qu3 {ps ws:List Nat} (hw:∀z∈ws,z<65536):∀i,i≤5→MadeOk (madeF ps ws i).1 (madeF ps ws i).2∧(madeF ps ws i).1.length=i+1
 |0,_=>⟨qpd,rfl⟩
 | i + 1, hi => by
  obtain ⟨h1,h2⟩:=qu3 (ps:=ps) hw i om
  have hu:ps.getD i 0% (madeF ps ws i).1.length<(madeF ps ws i).1.length:=Nat.mod_lt _ om
  have hwi:ws.getD i 0<65536:=by
   rcases Nat.lt_or_ge i ws.length with h|h
   ·exact hw _ (qd 0 h)
   ·rw [List.getD_eq_getElem?_getD,List.getElem?_eq_none h];decide
  have h0:(madeF ps ws i).2.getD 0 0=0:=by rw [h1.dep 0 om];rfl
  have key:∀up,up<(madeF ps ws i).1.length→(madeF ps ws i).2.getD up 0<4→MadeOk ((madeF ps ws i).1++[⟨(up:Int),((1+ws.getD i 0:Nat):Int)⟩]) ((madeF ps ws i).2++[(madeF ps ws i).2.getD up 0+1]):=fun up h3 h4=>h1.snoc h3 h4 hwi om
  rw [madeF]
  dsimp only
  refine ⟨?_,by rw [List.length_append,h2];rfl⟩
  by_cases h4:(madeF ps ws i).2.getD (ps.getD i 0% (madeF ps ws i).1.length) 0=4
  ·rw [if_pos h4];exact key 0 om om
  ·rw [if_neg h4];exact key _ hu (by have:=h1.le hu;omega)
theorem qiw {ps ws:List Nat} {u up:Nat} (hq:madeF ps ws i=(gs,ds)) (hu:ps.getD i 0%gs.length=u) (hup:(if ds.getD u 0=4 then 0 else u)=up):madeF ps ws (i+1)=(gs++[⟨(up:Int),((1+ws.getD i 0:Nat):Int)⟩],ds++[ds.getD up 0+1]):=by
 rw [madeF,hq]
 dsimp only
 rw [hu,hup]
end
def Nums.gs (n:Nums):List Gr:=(madeF n.ps n.ws (n.groups%6)).1
def Nums.cp (n:Nums):Nat:=1+n.cpus%4
theorem Nums.right {n:Nums} (h:n.Ok):gsOk n.gs=true∧n.gs.length=n.groups%6+1:=by
 have:=qu3 (ps:=n.ps) h.ws (n.groups%6) om
 exact ⟨this.1.ok,this.2⟩
def Op30.zero:Op30:=⟨0,0,0,0,0,0,0,0⟩
def opL (x:Op30):List Value:=x.cells.toList
theorem q1b (x:Op30):(opL x).length=8:=rfl
theorem qu4 (l:List Op30):∀u∈l.flatMap opL,u.oneCell'=true:=by
 intro u hu
 obtain ⟨x,_,hx⟩:=List.mem_flatMap.1 hu
 exact qy6 x u hx
structure Sml where
 kind:Nat
 cpu:Nat
 task:Nat
 group:Nat
 to:Nat
 weight:Nat
 ticks:Nat
 mask:Nat
structure Sml.Ok (x:Sml):Prop where
 kind:x.kind<256
 cpu:x.cpu<256
 task:x.task<256
 group:x.group<256
 to:x.to<256
 weight:x.weight<65536
 ticks:x.ticks<4294967296
 mask:x.mask<256
def Sml.zero:Sml:=⟨0,0,0,0,0,0,0,0⟩
def Sml.cells (x:Sml):Array Value:= #[.int .u8 (x.kind:Int),.int .u8 (x.cpu:Int),.int .u8 (x.task:Int),.int .u8 (x.group:Int),.int .u8 (x.to:Int),.int .u16 (x.weight:Int),.int .u32 (x.ticks:Int),.int .u8 (x.mask:Int)]
def sml (x:Sml):List Value:=x.cells.toList
theorem qns (x:Sml):(sml x).length=8:=rfl
theorem q1c (x:Sml):∀v∈x.cells.toList,v.oneCell'=true:=by simp [Sml.cells,Value.oneCell']
def kindT:List Nat:=[1,1,1,2,2,3,3,4,5,5,5,5,6,6,6,6,7,8,9,10]
def Sml.msk (x:Sml):Nat:=if 0<x.mask%4 then (1*2^ (1+x.to%4)-1)|||1*2^ (x.cpu%4) else x.mask
def Sml.op (x:Sml):Op30:=⟨kindT.getD (x.kind%20) 0,((x.cpu%4:Nat):Int),((1+x.task%12:Nat):Int),((x.group%6:Nat):Int),((1+x.weight:Nat):Int),((x.to%4:Nat):Int),((1+x.ticks%16777216:Nat):Int),x.msk⟩
theorem qpe {k:Nat} (h:k<20):(#[.int .u8 1,.int .u8 1,.int .u8 1,.int .u8 2,.int .u8 2,.int .u8 3,.int .u8 3,.int .u8 4,.int .u8 5,.int .u8 5,.int .u8 5,.int .u8 5,.int .u8 6,.int .u8 6,.int .u8 6,.int .u8 6,.int .u8 7,.int .u8 8,.int .u8 9,.int .u8 10]:Array Value)[k]?=some (.int .u8 (kindT.getD k 0:Int)):=by
 have:∀k,k<20→(#[.int .u8 1,.int .u8 1,.int .u8 1,.int .u8 2,.int .u8 2,.int .u8 3,.int .u8 3,.int .u8 4,.int .u8 5,.int .u8 5,.int .u8 5,.int .u8 5,.int .u8 6,.int .u8 6,.int .u8 6,.int .u8 6,.int .u8 7,.int .u8 8,.int .u8 9,.int .u8 10]:Array Value)[k]?=some (.int .u8 (kindT.getD k 0:Int)):=by
  intro k hk
  match k,hk with
  |0,_|1,_|2,_|3,_|4,_|5,_|6,_|7,_|8,_|9,_|10,_|11,_|12,_|13,_|14,_|15,_|16,_|17,_|18,_|19,_=>rfl
  |k+20,h=>omega
 exact this k h
theorem qxt (k:Nat):kindT.getD k 0≤10:=by
 rcases Nat.lt_or_ge k 20 with h|h
 ·have:∀k,k<20→kindT.getD k 0≤10:=by decide
  exact this k h
 ·rw [List.getD_eq_getElem?_getD,List.getElem?_eq_none h];decide
theorem q28 {x:Sml} (h:x.Ok):x.msk<256:=by
 unfold Sml.msk
 split
 ·have h1:2^ (1+x.to%4)≤2^4:=Nat.pow_le_pow_right de om
  have h2:2^ (x.cpu%4)≤2^3:=Nat.pow_le_pow_right de om
  exact Nat.or_lt_two_pow (n:=8) om om
 ·exact h.mask
theorem Sml.q3v {x:Sml} (h:x.Ok):x.op.Ok:=by
 have h1:=qxt (x.kind%20)
 have h2:=q28 h
 have h3:=h.weight
 refine ⟨?_,?_,?_,?_,?_,?_,?_,?_⟩
 ·show kindT.getD (x.kind%20) 0<256;omega
 ·show I64 ((x.cpu%4:Nat):Int);unfold I64;omega
 ·show I64 ((1+x.task%12:Nat):Int);unfold I64;omega
 ·show I64 ((x.group%6:Nat):Int);unfold I64;omega
 ·show I64 ((1+x.weight:Nat):Int);unfold I64;omega
 ·show I64 ((x.to%4:Nat):Int);unfold I64;omega
 ·show I64 ((1+x.ticks%16777216:Nat):Int);unfold I64;omega
 ·show x.msk<_;omega
def q5 (l:List Sml) (most:Nat):List Op30:=(l.take most).map Sml.op
theorem qu5 {l:List Sml} {most:Nat} (h:∀x∈l,x.Ok):∀o∈q5 l most,o.Ok:=fun o ho=>by
 obtain ⟨x,hx,rfl⟩:=List.mem_map.1 ho
 exact Sml.q3v (h x (List.mem_of_mem_take hx))
theorem qu6:SI Tryz.prog 27 13:=⟨by kernel_rfl,by kernel_rfl⟩
theorem q29:EI Tryz.prog 28 140 (.agg #[.int .u8 0,.int .u8 0,.int .u8 0,.int .u8 0,.int .u8 0,.int .u16 0,.int .u32 0,.int .u8 0]) 8 16:=⟨by kernel_rfl,by kernel_rfl,rfl,by omega⟩
theorem qzd:SI Tryz.prog 140 8:=⟨by kernel_rfl,by kernel_rfl⟩
theorem qxu (l:List Sml) (m:Nat):Value.int .i64 (if ((m:Int)<(l.length:Int)) then (m:Int) else (l.length:Int))= .int .i64 (((l.take m).length:Nat):Int):=by
 rw [List.length_take]
 congr 1
 split<;>omega
theorem qu7 {z:Nat} (h:z≤4):1*2^z≤18446744073709551615:=by
 have h1:2^z≤2^4:=Nat.pow_le_pow_right de h
 omega
def MkCfg (w:World) (cp:Int) (cr:Nat) (gs:List Gr) (r:Ending) (w':World):Prop:=(∃A c,r= .returned (.agg #[vI cp,vQ cr,.slice A gs.length c])∧w'.ownsRow w.heap.size 110 2 (.slice A gs.length c) gs.length (gs.flatMap grL)∧gs.length≤c)∧Below w.heap.size w w'
theorem qxv {w w':World} {cp:Int} {cr k c:Nat} {gs gs':List Gr} {A:Option Addr} (hg:gs=gs') (hl:gs.length=k) (ho:w'.ownsRow w.heap.size 110 2 (.slice A k c) k (gs.flatMap grL)) (hc:k≤c) (hb:Below w.heap.size w w'):MkCfg w cp cr gs' (.returned (.agg #[vI cp,vQ cr,.slice A k c])) w':=by
 subst hg
 subst hl
 exact ⟨⟨A,c,rfl,ho,hc⟩,hb⟩
theorem qrh (n:Nums) (hn:n.Ok) (w:World):
    Calls Tryz.prog 35 #[.agg n.cells] w (MkCfg w (n.cp:Int) n.credit n.gs):=by
 have hncr:=hn.credit;have hncp:=hn.cpus;have hngr:=hn.groups
 refine (JN1 Tryz.func35 63) ?_
 refine (JP∘JE) fun w1 g1=>(JA #[vI 0,vQ 0,vN]) fun w2 g2=>(Jr∘Jg 0 O1∘Jw .i64∘Jp 1∘Jo (vI (n.cpus%4:Nat)) (by exact qae .i64 _ 4)∘Jp 1∘Jo (vI (1+(n.cpus%4):Nat)) (by exact qa5 om om)∘Jg 2 O1∘Jw .u64∘Jy (v:= .agg #[vI 0,vI 1]) (h:=by exact Yl.build (vs:=[(0,vI 0),(1,vI 1)]) rfl kr kr)∘JU ei_gr #[vI 0,vI 1]) fun w16 g16=>(Jy (v:= .agg #[vI (1+(n.cpus%4):Nat),vQ n.credit,vS g16 1 1]) (h:=by exact Yl.build (vs:=[(0,vI (1+(n.cpus%4):Nat)),(1,vQ n.credit),(2,vS g16 1 1)]) rfl kr kr)∘JA #[vI 0,vQ 0,vN]) fun w3 g3=>(JV qab O0') fun w1_12=>(Jd6∘Jr∘JU ze #[vI 0]) fun w18 g18=>(Jp 1∘Jd1∘Jq) fun a Z I=>?_
 replace I:=I.blkRow (i:=2) (n:=1) (size:=2) rfl rfl de
 replace I:=I.blkRow (i:=0) (n:=1) (size:=1) rfl rfl de
 replace I:Mem w _ [.row (vS g18 1 1) 1 ([0].map I64v) 3 1,.blk g3 #[vI (1+(n.cpus%4):Nat),vQ n.credit,vS g16 1 1] 33,.row (vS g16 1 1) 1 ([(⟨0,1⟩:Gr)].flatMap grL) 110 2,.blk g2 #[vI 0,vQ 0,vN] 33,.blk g1 n.cells 27]:=I
 refine Jb Z I ((JG∘JQ∘JP∘Jg 1 O4∘Jw .i64∘Jp 1∘Jo (vI (n.groups%6:Nat)) (by exact qae .i64 _ 6)∘Jp 1∘Jj∘JB) fun a Z I=>?_)
 refine qj (fun mS aS wS=>∃(i:Nat) (gs:List Gr) (ds:List Nat) (X:Option Addr) (xc:Nat) (Y:Option Addr) (yc:Nat),(i≤n.groups%6)∧(madeF n.ps n.ws i=(gs,ds))∧(MadeOk gs ds)∧(gs.length=i+1)∧(ds.length=i+1)∧(i+1≤xc)∧(i+1≤yc)∧mS=n.groups%6-i∧Fr aS 63 [] [(23,vI i),(22,vI (n.groups%6:Nat)),(4,.slice Y (i+1) yc),(3,vP g3 0),(2,vP g2 0),(1,vP g1 0)]∧Mem w wS [.row (.slice Y (i+1) yc) (i+1) (ds.map I64v) 3 1,.blk g3 #[vI (1+(n.cpus%4):Nat),vQ n.credit,.slice X (i+1) xc] 33,.row (.slice X (i+1) xc) (i+1) (gs.flatMap grL) 110 2,.blk g2 #[vI 0,vQ 0,vN] 33,.blk g1 n.cells 27]) (m:=n.groups%6-0) ⟨0,[⟨0,1⟩],[0],(some ⟨g16,0,none⟩),1,(some ⟨g18,0,none⟩),1,Nat.zero_le _,rfl,qpd,rfl,rfl,Nat.le_refl _,Nat.le_refl _,rfl,Z.sub kr,I.pk [0,1,2,3,4]⟩ ?_
 clear Z I;rintro mS a w_ ⟨i,gs,ds,X,xc,Y,yc,hi,hq,hmk,hgl,hdl,hxc,hyc,rfl,Z,I⟩
 refine Jb Z I ((JP∘Jp 1∘Jj∘JQ) (Ju (fun hb24=>?_) fun hb24=>?_))
 ·
  intro a Z I
  have hd24:=of_decide_eq_true hb24
  have hi5:i<5:=by omega
  have hpv:=(Nums.p_at hn hi5).2
  have hwv:=(Nums.w_at hn hi5).2
  obtain ⟨u,hu⟩:∃u,n.ps.getD i 0%gs.length=u:=⟨_,rfl⟩
  have hul:u<gs.length:=by rw [←hu];exact Nat.mod_lt _ om
  have hdu:=hmk.le hul
  obtain ⟨up,hup⟩:∃z,(if ds.getD u 0=4 then 0 else u)=z:=⟨_,rfl⟩
  refine Jb Z I ((JT∘JS'∘JQ∘JB∘JP∘Jp 2∘Jd1∘Jj) fun a Z I=>?_)
  refine wp_seq ?_
  refine Jb Z I ((Vs .n []) fun wd6=>(Vp [0]∘Vf 1 3∘Vf 5 2∘Vy 2 (v:=vP g1 (3+i*1)) (h:=by exact (Yl.z8 (ad:=⟨g1,3,none⟩) (m:=5) (y:=i) (sz:=1) rfl rfl rfl kr om).as (by rw [Addr.add_mid]))∘Vy 3 (v:=vB (n.ps.getD i 0)) (h:=by exact Yl.qe rfl rfl kr (fun _ h=>h.cell (i:=4) rfl (Nums.p_at hn om).1))∘Vw 4 .i64∘Vc 6 O1∘Vl 7∘Vy 8 (v:=vI ((n.ps.getD i 0)% (i+1):Nat)) (h:=by exact Yl.remN (m:=(n.ps.getD i 0)) (n:=(i+1)) rfl rfl rfl om)∘Vo (vI u) (by rw [←hu,hgl])∘Vp [9]∘Vd∘Jd6∘JQ∘JP∘Jp 2) ?_)
  repeat (first|clear Z|clear I)
  intro a Z I
  obtain ⟨gY,rfl⟩:=qn (I.own (i:=0) rfl) (Nat.lt_of_le_of_lt (Nat.zero_le _) (show u<i+1 from by omega))
  refine Jb Z I ((Jy (h:=by exact Yl.ix0 gY u 1 rfl rfl rfl)∘Jy (h:=by exact Yl.r1 0 u 0 om rfl rfl rfl)∘Jp 1∘Jd4∘Jj) (Ju (fun hb39=>?_) fun hb39=>?_))
  ·
   intro a Z I
   have hd39:=eq_of_beq hb39
   have hup0:up=0:=by rw [←hup,if_pos om]
   have hd0:ds.getD 0 0=0:=by rw [hmk.dep 0 om];rfl
   have hupl:up<gs.length:=by omega
   have hdup:ds.getD up 0<4:=by rw [hup0,hd0];decide
   refine Jb Z I ((JT∘JR∘Jp 1∘Jq) fun a Z I=>?_)
   replace Z:=Z.sp 6 (vI up) rfl (by rw [hup0];try rfl)
   refine Jb Z I ((JG∘JP∘Jp 3∘Jy (h:=by exact Yl.ix0 gY up 1 rfl rfl rfl)∘Jy (h:=by exact Yl.r1 0 up 0 om rfl rfl rfl)∘JaK 1∘JU ze #[vI ((ds.getD up 0)+1:Nat)]) fun w46 g46=>(JD ([ds.getD up 0+1].map I64v) 1 (fun _ _=>O1') ze (hr:=by exact fun I=>I.rdBlk (i:=0) (n:=1) (size:=1) rfl rfl) (h1:=by simp [Value.oneCell',I64v])) fun w47 A47 c47 hc47=>(Jp 1∘Jd6∘Jq) fun a Z I=>?_)
   replace I:=I.asRow (i:=1) (ys:=(ds++[ds.getD up 0+1]).map I64v) rfl (by rw [List.map_append])
   replace I:Mem w _ [.blk g46 #[vI ((ds.getD up 0)+1:Nat)] 3,.row (.slice A47 ((i+1)+1) c47) ((i+1)+1) ((ds++[ds.getD up 0+1]).map I64v) 3 1,.blk g3 #[vI (1+(n.cpus%4):Nat),vQ n.credit,.slice X (i+1) xc] 33,.row (.slice X (i+1) xc) (i+1) (gs.flatMap grL) 110 2,.blk g2 #[vI 0,vQ 0,vN] 33,.blk g1 n.cells 27]:=I
   refine Jb Z I ((JG∘Vs (.t (.t (.t (.f .n)))) [13]) fun wd10=>(Vf 0 2∘Vp [2,3]∘Vf 4 8∘Vc 1 O2∘Vy 5 (v:=vP g1 (8+i*1)) (h:=by exact (Yl.z8 (ad:=⟨g1,8,none⟩) (m:=5) (y:=i) (sz:=1) rfl rfl rfl kr om).as (by rw [Addr.add_mid]))∘Vy 6 (v:= .int .u16 (n.ws.getD i 0)) (h:=by exact Yl.qe rfl rfl kr (fun _ h=>h.cell (i:=4) rfl (Nums.w_at hn om).1))∘Vw 7 .i64∘Vp [8]∘Vo (vI (1+(n.ws.getD i 0):Nat)) (by exact qa5 om om)∘Vy 9 (v:= .agg #[vI up,vI (1+(n.ws.getD i 0):Nat)]) (h:=by exact Yl.build (vs:=[(0,vI up),(1,vI (1+(n.ws.getD i 0):Nat))]) rfl kr kr)) fun a Z I HS=>?_)
   refine s_on Z 10 rfl (s_el Z I ei_gr [(0,.agg #[vI up,vI (1+(n.ws.getD i 0):Nat)])] #[vI up,vI (1+(n.ws.getD i 0):Nat)] ?_)
   clear Z I;intro a w58 g58 Z I
   refine keepS (I.pk [1,2,3,5,6]) (fun HS=>?_)
   refine s_on Z 11 rfl (qad Z I (i:=4) rfl ei_gr rfl rfl rfl (news:=([(⟨(up:Int),((1+n.ws.getD i 0:Nat):Int)⟩:Gr)].flatMap grL)) (I.rdBlk (i:=0) (n:=1) (size:=2) rfl rfl) (qot _) om om rfl de ?_)
   clear Z I;intro a w59 A59 c59 Z I hc59
   refine keepS (I.pk [1,2,3,5,6]) (fun HS=>?_)
   refine Vb Z I HS ((Vf 12 2) fun a Z I HS=>?_)
   refine s_on Z 13 rfl (s_es Z I 3 ?_)
   clear I;intro w10_13 I
   refine noS kr ?_
   refine qb kr ?_
   replace I:=I.asRow (i:=4) (ys:=(gs++[(⟨(up:Int),((1+n.ws.getD i 0:Nat):Int)⟩:Gr)]).flatMap grL) rfl (by rw [List.flatMap_append])
   replace I:Mem w _ [.blk g58 #[vI up,vI (1+(n.ws.getD i 0):Nat)] 110,.blk g46 #[vI ((ds.getD up 0)+1:Nat)] 3,.row (.slice A47 ((i+1)+1) c47) ((i+1)+1) ((ds++[ds.getD up 0+1]).map I64v) 3 1,.blk g3 #[vI (1+(n.cpus%4):Nat),vQ n.credit,.slice A59 ((i+1)+1) c59] 33,.row (.slice A59 ((i+1)+1) c59) ((i+1)+1) ((gs++[(⟨(up:Int),((1+n.ws.getD i 0:Nat):Int)⟩:Gr)]).flatMap grL) 110 2,.blk g2 #[vI 0,vQ 0,vN] 33,.blk g1 n.cells 27]:=I
   refine Jb Z I ((JG∘JR∘JaK 1∘Jp 1∘Jd6∘Jq) fun a Z I=>?_)
   exact ⟨_,om,i+1,(gs++[(⟨(up:Int),((1+n.ws.getD i 0:Nat):Int)⟩:Gr)]),(ds++[ds.getD up 0+1]),A59,c59,A47,c47,by omega,qiw hq hu hup,hmk.snoc hupl hdup hwv om,by rw [List.length_append,hgl];rfl,by rw [List.length_append,hdl];rfl,hc59,hc47,rfl,Z.sub kr,I.pk [2,3,4,5,6]⟩
  intro a Z I
  have hd39:=ne_of_beq_false hb39
  have hup0:up=u:=by rw [←hup,if_neg om]
  have hupl:up<gs.length:=by omega
  have hdup:ds.getD up 0<4:=by rw [hup0];omega
  replace Z:=Z.sp 6 (vI up) rfl (by rw [hup0])
  refine Jb Z I ((JF∘JS'∘JP∘Jp 3∘Jy (h:=by exact Yl.ix0 gY up 1 rfl rfl rfl)∘Jy (h:=by exact Yl.r1 0 up 0 om rfl rfl rfl)∘JaK 1∘JU ze #[vI ((ds.getD up 0)+1:Nat)]) fun w46 g46=>(JD ([ds.getD up 0+1].map I64v) 1 (fun _ _=>O1') ze (hr:=by exact fun I=>I.rdBlk (i:=0) (n:=1) (size:=1) rfl rfl) (h1:=by simp [Value.oneCell',I64v])) fun w47 A47 c47 hc47=>(Jp 1∘Jd6∘Jq) fun a Z I=>?_)
  replace I:=I.asRow (i:=1) (ys:=(ds++[ds.getD up 0+1]).map I64v) rfl (by rw [List.map_append])
  replace I:Mem w _ [.blk g46 #[vI ((ds.getD up 0)+1:Nat)] 3,.row (.slice A47 ((i+1)+1) c47) ((i+1)+1) ((ds++[ds.getD up 0+1]).map I64v) 3 1,.blk g3 #[vI (1+(n.cpus%4):Nat),vQ n.credit,.slice X (i+1) xc] 33,.row (.slice X (i+1) xc) (i+1) (gs.flatMap grL) 110 2,.blk g2 #[vI 0,vQ 0,vN] 33,.blk g1 n.cells 27]:=I
  refine Jb Z I ((JG∘Vs (.t (.t (.t (.f .n)))) [13]) fun wd10=>(Vf 0 2∘Vp [2,3]∘Vf 4 8∘Vc 1 O2∘Vy 5 (v:=vP g1 (8+i*1)) (h:=by exact (Yl.z8 (ad:=⟨g1,8,none⟩) (m:=5) (y:=i) (sz:=1) rfl rfl rfl kr om).as (by rw [Addr.add_mid]))∘Vy 6 (v:= .int .u16 (n.ws.getD i 0)) (h:=by exact Yl.qe rfl rfl kr (fun _ h=>h.cell (i:=4) rfl (Nums.w_at hn om).1))∘Vw 7 .i64∘Vp [8]∘Vo (vI (1+(n.ws.getD i 0):Nat)) (by exact qa5 om om)∘Vy 9 (v:= .agg #[vI up,vI (1+(n.ws.getD i 0):Nat)]) (h:=by exact Yl.build (vs:=[(0,vI up),(1,vI (1+(n.ws.getD i 0):Nat))]) rfl kr kr)) fun a Z I HS=>?_)
  refine s_on Z 10 rfl (s_el Z I ei_gr [(0,.agg #[vI up,vI (1+(n.ws.getD i 0):Nat)])] #[vI up,vI (1+(n.ws.getD i 0):Nat)] ?_)
  clear Z I;intro a w58 g58 Z I
  refine keepS (I.pk [1,2,3,5,6]) (fun HS=>?_)
  refine s_on Z 11 rfl (qad Z I (i:=4) rfl ei_gr rfl rfl rfl (news:=([(⟨(up:Int),((1+n.ws.getD i 0:Nat):Int)⟩:Gr)].flatMap grL)) (I.rdBlk (i:=0) (n:=1) (size:=2) rfl rfl) (qot _) om om rfl de ?_)
  clear Z I;intro a w59 A59 c59 Z I hc59
  refine keepS (I.pk [1,2,3,5,6]) (fun HS=>?_)
  refine Vb Z I HS ((Vf 12 2) fun a Z I HS=>?_)
  refine s_on Z 13 rfl (s_es Z I 3 ?_)
  clear I;intro w10_13 I
  refine noS kr ?_
  refine qb kr ?_
  replace I:=I.asRow (i:=4) (ys:=(gs++[(⟨(up:Int),((1+n.ws.getD i 0:Nat):Int)⟩:Gr)]).flatMap grL) rfl (by rw [List.flatMap_append])
  replace I:Mem w _ [.blk g58 #[vI up,vI (1+(n.ws.getD i 0):Nat)] 110,.blk g46 #[vI ((ds.getD up 0)+1:Nat)] 3,.row (.slice A47 ((i+1)+1) c47) ((i+1)+1) ((ds++[ds.getD up 0+1]).map I64v) 3 1,.blk g3 #[vI (1+(n.cpus%4):Nat),vQ n.credit,.slice A59 ((i+1)+1) c59] 33,.row (.slice A59 ((i+1)+1) c59) ((i+1)+1) ((gs++[(⟨(up:Int),((1+n.ws.getD i 0:Nat):Int)⟩:Gr)]).flatMap grL) 110 2,.blk g2 #[vI 0,vQ 0,vN] 33,.blk g1 n.cells 27]:=I
  refine Jb Z I ((JG∘JR∘JaK 1∘Jp 1∘Jd6∘Jq) fun a Z I=>?_)
  exact ⟨_,om,i+1,(gs++[(⟨(up:Int),((1+n.ws.getD i 0:Nat):Int)⟩:Gr)]),(ds++[ds.getD up 0+1]),A59,c59,A47,c47,by omega,qiw hq hu hup,hmk.snoc hupl hdup hwv om,by rw [List.length_append,hgl];rfl,by rw [List.length_append,hdl];rfl,hc59,hc47,rfl,Z.sub kr,I.pk [2,3,4,5,6]⟩
 intro a Z I
 have hd24:=of_decide_eq_false hb24
 have hie:i=n.groups%6:=by omega
 have hgs:gs=n.gs:=by unfold Nums.gs;rw [←hie,hq]
 refine Jb Z I ((JF∘JX∘JG∘JP∘Jy (v:= .agg #[vI (1+(n.cpus%4):Nat),vQ n.credit,.slice X (i+1) xc]) (h:=by exact Yl.loadS rfl rfl qab rfl (fun _ h=>qa (h.blk (i:=1) rfl)))∘JV qab O3') fun w12_1=>(Jt1∘Jj∘JZ) fun a Z I=>?_)
 exact ret1 rfl Z (.cellS (i:=3) Z I rfl rfl qab rfl) (qxv hgs hgl (I.own (i:=2) rfl) hxc I.below)
theorem List.qmf {α:Type} {l:List α} {m:Nat}:l.take (min m l.length)=l.take m:=by
 rcases Nat.le_total m l.length with h|h
 ·rw [Nat.min_eq_left h]
 ·rw [Nat.min_eq_right h,List.take_length,List.take_of_length_le h]
theorem qix (l:List Sml) (most:Nat):(q5 l most).length=(l.take most).length:=List.length_map ..
theorem qu8 {w w':World} {e:TypeId} {n c:Nat} {A:Option Addr} {q q':List Op30} (h:q=q') (hn:q.length=n) (ho:w'.ownsRow w.heap.size e 8 (.slice A n c) n (q.flatMap opL)) (hc:n≤c) (hb:Below w.heap.size w w'):qhj w e 8 q'.length (q'.flatMap opL) (.returned (.slice A n c)) w':=by
 subst h
 subst hn
 exact ⟨⟨A,c,rfl,ho,hc⟩,hb⟩
theorem qri (A:Option Addr) (c:Nat) (l:List Sml) (most:Nat) (w:World) (hl:∀x∈l,x.Ok) (hr:Rd w w.heap.size 8 A l.length (l.flatMap sml)) (hc:l.length≤c) (hn:l.length≤9223372036854775807) (hm:most≤1000):
    Calls Tryz.prog 36 #[.slice A l.length c,vI most] w (qhj w 98 8 (q5 l most).length ((q5 l most).flatMap opL)):=by
 have hlt:(l.take most).length≤most∧(l.take most).length≤l.length:=by rw [List.length_take];omega
 have hr2:Rd w w.heap.size 8 A (l.take most).length ((l.take most).flatMap sml):=by have h:=hr.upto (k:=(l.take most).length) om;rw [qk1 sml 8 qns,List.length_take,List.qmf] at h;rw [List.length_take];exact h
 have hl0:∀x∈l.take most,x.Ok:=fun x hx=>hl x (List.mem_of_mem_take hx)
 obtain ⟨q0,hq0⟩:∃z,l.take most=z:=⟨_,rfl⟩
 rw [hq0] at hr2 hlt hl0
 refine (JN2 Tryz.func36 79) ?_
 refine (JP∘Jp 1∘Jr∘Jp 1∘Jq) fun a Z I=>?_
 replace I:=I.nil 98 8
 refine Jb Z I ((JG∘JQ∘JP∘Jp 2∘Jl∘Jp 1∘Jy (v:=vI (if (most:Int)<(l.length:Int) then (most:Int) else (l.length:Int))) (h:=by exact Yl.min rfl rfl rfl)∘Jo (vI q0.length) (by rw [←hq0];exact qxu l most)∘Jy (h:=by exact Yl.qa3 q29 (j:=q0.length) rfl rfl rfl om)∘Jl∘Jp 1∘Jj∘JB) fun a Z I=>?_)
 refine qj (fun mS aS wS=>∃(k:Nat) (q:List Op30) (X:Option Addr) (xc:Nat),(k≤q0.length)∧(q=(q0.take k).map Sml.op)∧(k≤xc)∧mS=q0.length-k∧Fr aS 79 [] [(16,vI k),(15,vI q0.length),(14,.slice A q0.length c),(5,.slice X k xc),(4,vN)]∧Mem w wS [.row (.slice X k xc) k (q.flatMap opL) 98 8]) (m:=q0.length-0) ⟨0,[],none,0,Nat.zero_le _,rfl,Nat.le_refl _,rfl,Z.sub kr,I.pk [0]⟩ ?_
 clear Z I;rintro mS a w_ ⟨k,q,X,xc,hk,hq,hxc,rfl,Z,I⟩
 refine Jb Z I ((JP∘Jp 1∘Jj∘JQ) (Ju (fun hb17=>?_) fun hb17=>?_))
 ·
  intro a Z I
  have hd17:=of_decide_eq_true hb17
  have hkl:k<q0.length:=by omega
  obtain ⟨x,hx⟩:∃z,q0.getD k Sml.zero=z:=⟨_,rfl⟩
  have hxo:x.Ok:=by rw [←hx];exact hl0 _ (qd Sml.zero hkl)
  have hx1:=hxo.kind;have hx2:=hxo.cpu;have hx3:=hxo.task;have hx4:=hxo.group;have hx5:=hxo.to;have hx6:=hxo.weight;have hx7:=hxo.ticks;have hx8:=hxo.mask
  have hp1:1≤2^ (1+x.to%4):=Nat.one_le_two_pow
  have hp2:=qu7 (show 1+x.to%4≤4 by omega)
  have hp3:=qu7 (show x.cpu%4≤4 by omega)
  refine Jb Z I ((JT∘JS'∘JQ∘JB∘JP) ?_)
  repeat (first|clear Z|clear I)
  intro a Z I
  obtain ⟨gA,oA,rfl,_⟩:=hr2.qm (Nat.lt_of_le_of_lt (Nat.zero_le _) (show k<q0.length from by omega)) de
  refine Jb Z I ((Jy (h:=by exact Yl.ix gA oA k 8 rfl rfl rfl)∘Jy (v:= .agg ((q0.getD k Sml.zero).cells)) (h:=by exact Yl.loadS rfl rfl qzd rfl (fun _ h=>(h.old hr2).q7 qns ((getD_at Sml.zero om))))∘Jo (.agg x.cells) (by rw [hx])∘JA #[vB 0,vB 0,vB 0,vB 0,vB 0,.int .u16 0,vW 0,vB 0]) fun w7 g7=>(JV qzd O0' (h1:=by exact q1c x)) fun w4_3=>(Jd2∘Jr∘Jg 1 O0∘Jw .i64∘Jp 1∘Jo (vI (x.cpu%4:Nat)) (by exact qae .i64 _ 4)∘Jg 2 O0∘Jw .i64∘Jp 1∘Jo (vI (x.task%12:Nat)) (by exact qae .i64 _ 12)∘Jp 1∘Jo (vI (1+(x.task%12):Nat)) (by exact qa5 om om)∘Jg 3 O0∘Jw .i64∘Jp 1∘Jo (vI (x.group%6:Nat)) (by exact qae .i64 _ 6)∘Jg 4 O0∘Jw .i64∘Jp 1∘Jo (vI (x.to%4:Nat)) (by exact qae .i64 _ 4)∘Jg 5 O0∘Jw .i64∘Jp 1∘Jo (vI (1+x.weight:Nat)) (by exact qa5 om om)∘Jg 6 O0∘Jp 1∘Jo (vW (x.ticks%16777216:Nat)) (by exact qae .u32 _ 16777216)∘Jw .i64∘Jp 1∘Jo (vI (1+(x.ticks%16777216):Nat)) (by exact qa5 om om)∘Jg 7 O0∘Jw .u64∘Jy (v:= .agg #[vB 0,vI (x.cpu%4:Nat),vI (1+(x.task%12):Nat),vI (x.group%6:Nat),vI (1+x.weight:Nat),vI (x.to%4:Nat),vI (1+(x.ticks%16777216):Nat),vQ x.mask]) (h:=by exact Yl.build (vs:=[(1,vI (x.cpu%4:Nat)),(2,vI (1+(x.task%12):Nat)),(3,vI (x.group%6:Nat)),(5,vI (x.to%4:Nat)),(4,vI (1+x.weight:Nat)),(6,vI (1+(x.ticks%16777216):Nat)),(7,vQ x.mask)]) rfl kr kr)∘JA #[vB 0,vI 0,vI 0,vI 0,vI 0,vI 0,vI 0,vQ 0]) fun w8 g8=>(JV si_op O0') fun w5_31=>(Jd6∘Jj∘JQ∘JP∘Jg 7 O1∘Jp 1∘Jo (vB (x.mask%4:Nat)) (by exact qae .u8 _ 4)∘Jp 1∘Jd2∘Jj) (Ju (fun hb53=>?_) fun hb53=>?_))
  ·
   intro a Z I
   have hd53:=of_decide_eq_true hb53
   have hmk:x.msk=(1*2^ (1+x.to%4)-1)|||1*2^ (x.cpu%4):=by unfold Sml.msk;rw [if_pos om]
   refine Jb Z I ((JT∘JP∘Jg 5 O0∘Jp 1∘Jo (vI (1+(x.to%4):Nat)) (by exact qa5 om om)∘Jy (v:=vQ (1*2^ (1+(x.to%4)):Nat)) (h:=by exact Yl.shlN (m:=1) (n:=(1+(x.to%4))) rfl rfl rfl (by show _≤64;omega) (hp2))∘JsK 1∘Jf 7∘JW O0' O7') fun w7_6=>(Jt5∘Jj∘Vs .n [7]) fun wd8=>(Vf 0 7∘Vf 2 1∘Vc 1 O0∘Vc 3 O0∘Vy 4 (v:=vQ (1*2^ (x.cpu%4):Nat)) (h:=by exact Yl.shlN (m:=1) (n:=(x.cpu%4)) rfl rfl rfl (by show _≤64;omega) (hp3))∘Vp [5]∘Vo (vQ ((1*2^ (1+(x.to%4))-1)|||(1*2^ (x.cpu%4)):Nat)) (by exact qyu (m:=1*2^ (1+(x.to%4))-1) (n:=1*2^ (x.cpu%4)) om om)∘Vf 6 7) fun a Z I HS=>?_)
   refine s_on Z 7 rfl (s_es Z I 0 ?_)
   clear I;intro w8_7 I
   refine noS kr ?_
   refine qb kr ?_
   refine Jb Z I ((JG∘JP∘Jy (v:= .agg #[vB 1,vB 1,vB 1,vB 2,vB 2,vB 3,vB 3,vB 4,vB 5,vB 5,vB 5,vB 5,vB 6,vB 6,vB 6,vB 6,vB 7,vB 8,vB 9,vB 10]) (h:=by exact Yl.qme (n:=20) (sz:=1) (vs:=[(0,vB 1),(1,vB 1),(2,vB 1),(3,vB 2),(4,vB 2),(5,vB 3),(6,vB 3),(7,vB 4),(8,vB 5),(9,vB 5),(10,vB 5),(11,vB 5),(12,vB 6),(13,vB 6),(14,vB 6),(15,vB 6),(16,vB 7),(17,vB 8),(18,vB 9),(19,vB 10)]) rfl rfl kr kr)∘Jg 0 O1∘Jp 1∘Jo (vB (x.kind%20:Nat)) (by exact qae .u8 _ 20)∘Jy (v:=vB (kindT.getD (x.kind%20) 0)) (h:=by exact Yl.qzo (m:=20) (y:=x.kind%20) rfl rfl rfl kr om (qpe om))∘Jf 0∘JW O0' O0') fun w9_6=>(Jt6∘Jj∘JR∘Jp 1∘Jy (v:= .agg #[vB (kindT.getD (x.kind%20) 0),vI (x.cpu%4:Nat),vI (1+(x.task%12):Nat),vI (x.group%6:Nat),vI (1+x.weight:Nat),vI (x.to%4:Nat),vI (1+(x.ticks%16777216):Nat),vQ ((1*2^ (1+(x.to%4))-1)|||(1*2^ (x.cpu%4)):Nat)]) (h:=by exact Yl.loadS rfl rfl si_op rfl (fun _ h=>qa (h.blk (i:=0) rfl)))∘Jo (.agg x.op.cells) (by unfold Op30.cells Sml.op;rw [hmk];try rfl)∘JU ei_op x.op.cells) fun w75 g75=>(JD ([x.op].flatMap opL) 3 (fun _ _=>O3') ei_op (hr:=by exact fun I=>I.rdBlk (i:=0) (n:=1) (size:=8) rfl rfl) (h1:=by exact qu4 _)) fun w76 A76 c76 hc76=>(Jp 1∘Jd6∘Jq) fun a Z I=>?_)
   replace I:=I.asRow (i:=3) (ys:=(q++[x.op]).flatMap opL) rfl (by rw [List.flatMap_append])
   replace I:Mem w _ [.blk g75 x.op.cells 98,.blk g8 #[vB (kindT.getD (x.kind%20) 0),vI (x.cpu%4:Nat),vI (1+(x.task%12):Nat),vI (x.group%6:Nat),vI (1+x.weight:Nat),vI (x.to%4:Nat),vI (1+(x.ticks%16777216):Nat),vQ ((1*2^ (1+(x.to%4))-1)|||(1*2^ (x.cpu%4)):Nat)] 98,.blk g7 x.cells 140,.row (.slice A76 (k+1) c76) (k+1) ((q++[x.op]).flatMap opL) 98 8]:=I
   refine Jb Z I ((JG∘JR∘JaK 1∘Jp 1∘Jd1∘Jq) fun a Z I=>?_)
   exact ⟨_,om,k+1,(q++[x.op]),A76,c76,by omega,by rw [hq,qeq Sml.zero hkl,hx,List.map_append];rfl,hc76,rfl,Z.sub kr,I.pk [3]⟩
  intro a Z I
  have hd53:=of_decide_eq_false hb53
  have hmk:x.msk=x.mask:=by unfold Sml.msk;rw [if_neg om]
  refine Jb Z I ((JF∘JS'∘JP∘Jy (v:= .agg #[vB 1,vB 1,vB 1,vB 2,vB 2,vB 3,vB 3,vB 4,vB 5,vB 5,vB 5,vB 5,vB 6,vB 6,vB 6,vB 6,vB 7,vB 8,vB 9,vB 10]) (h:=by exact Yl.qme (n:=20) (sz:=1) (vs:=[(0,vB 1),(1,vB 1),(2,vB 1),(3,vB 2),(4,vB 2),(5,vB 3),(6,vB 3),(7,vB 4),(8,vB 5),(9,vB 5),(10,vB 5),(11,vB 5),(12,vB 6),(13,vB 6),(14,vB 6),(15,vB 6),(16,vB 7),(17,vB 8),(18,vB 9),(19,vB 10)]) rfl rfl kr kr)∘Jg 0 O1∘Jp 1∘Jo (vB (x.kind%20:Nat)) (by exact qae .u8 _ 20)∘Jy (v:=vB (kindT.getD (x.kind%20) 0)) (h:=by exact Yl.qzo (m:=20) (y:=x.kind%20) rfl rfl rfl kr om (qpe om))∘Jf 0∘JW O0' O0') fun w9_6=>(Jt5∘Jj∘JR∘Jp 1∘Jy (v:= .agg #[vB (kindT.getD (x.kind%20) 0),vI (x.cpu%4:Nat),vI (1+(x.task%12):Nat),vI (x.group%6:Nat),vI (1+x.weight:Nat),vI (x.to%4:Nat),vI (1+(x.ticks%16777216):Nat),vQ x.mask]) (h:=by exact Yl.loadS rfl rfl si_op rfl (fun _ h=>qa (h.blk (i:=0) rfl)))∘Jo (.agg x.op.cells) (by unfold Op30.cells Sml.op;rw [hmk];try rfl)∘JU ei_op x.op.cells) fun w75 g75=>(JD ([x.op].flatMap opL) 3 (fun _ _=>O3') ei_op (hr:=by exact fun I=>I.rdBlk (i:=0) (n:=1) (size:=8) rfl rfl) (h1:=by exact qu4 _)) fun w76 A76 c76 hc76=>(Jp 1∘Jd4∘Jq) fun a Z I=>?_)
  replace I:=I.asRow (i:=3) (ys:=(q++[x.op]).flatMap opL) rfl (by rw [List.flatMap_append])
  replace I:Mem w _ [.blk g75 x.op.cells 98,.blk g8 #[vB (kindT.getD (x.kind%20) 0),vI (x.cpu%4:Nat),vI (1+(x.task%12):Nat),vI (x.group%6:Nat),vI (1+x.weight:Nat),vI (x.to%4:Nat),vI (1+(x.ticks%16777216):Nat),vQ x.mask] 98,.blk g7 x.cells 140,.row (.slice A76 (k+1) c76) (k+1) ((q++[x.op]).flatMap opL) 98 8]:=I
  refine Jb Z I ((JG∘JR∘JaK 1∘Jp 1∘Jd1∘Jq) fun a Z I=>?_)
  exact ⟨_,om,k+1,(q++[x.op]),A76,c76,by omega,by rw [hq,qeq Sml.zero hkl,hx,List.map_append];rfl,hc76,rfl,Z.sub kr,I.pk [3]⟩
 intro a Z I
 have hd17:=of_decide_eq_false hb17
 have hke:k=q0.length:=by omega
 have hqe:q=q5 l most:=by rw [hq,hke,List.take_length,←hq0];rfl
 exact Jb Z I ((JF∘JX∘JG∘JP∘Jp 2∘Jd1∘Jj∘JZ∘Jz1) fun I=>qu8 hqe (by rw [hqe,qix,hq0,←hke]) (I.own (i:=0) rfl) hxc I.below)
theorem qxw {s:Sta} {o:Op30} (ho:o.Ok) (h:GoodS s):GoodS (doS s o).1:=by
 by_cases he:(stepS s o).2.2=0
 ·rw [qno he];exact (qhg ho h he).rise
 ·rw [qnn he];exact h
theorem qxx {s:Sta} {o:Op30} (ho:o.Ok) (h:GoodS s) (hr:zg s=true):zg (doS s o).1=true:=by
 by_cases he:(stepS s o).2.2=0
 ·rw [qno he];exact qq0 (qhg ho h he)
 ·rw [qnn he];exact hr
theorem qxy {cp:Int} {cr:Nat} {gs:List Gr} (h1:1≤cp∧cp≤64) (h2:cr≤1099511627776) (h3:gsOk gs=true) (h4:∀g∈gs,g.Ok):GoodS (newS cp cr gs)∧zg (newS cp cr gs)=true:=by
 obtain ⟨c,rfl⟩:∃c:Nat,cp=(c:Int):=⟨cp.toNat,by omega⟩
 have hsp:∀g,g<gs.length→(newS (c:Int) cr gs).sp.getD g []=List.replicate c Sp.zero:=fun g hg=>by
  show (List.replicate gs.length (List.replicate ((c:Int)).toNat Sp.zero)).getD g []=_
  rw [List.getD_eq_getElem?_getD,List.getElem?_replicate,if_pos hg]
  rfl
 have hspot:∀g c',(newS (c:Int) cr gs).spot g c'=Sp.zero:=fun g c'=>by
  unfold Sta.spot
  rcases Nat.lt_or_ge g gs.length with hg|hg
  ·rw [hsp g hg,List.getD_eq_getElem?_getD,List.getElem?_replicate]
   split<;>rfl
  ·rw [show (newS (c:Int) cr gs).sp.getD g []=[] by
    show (List.replicate gs.length _).getD g []=_
    rw [List.getD_eq_getElem?_getD,List.getElem?_eq_none (by rw [List.length_replicate];exact hg)];rfl]
   rfl
 have hz:(Sp.zero).Ok:=⟨by decide,by decide,by decide⟩
 have hsl:(newS (c:Int) cr gs).sp.length=gs.length:=List.length_replicate ..
 have hgd:GoodS (newS (c:Int) cr gs):=by
  refine ⟨⟨⟨by show I64 (c:Int);unfold I64;omega,by show cr<_;omega,h4,fun x hx=>?_,fun x hx=>?_,fun x hx=>(by cases hx),fun l hl x hx=>?_⟩,h1,h2,h3,?_,?_,hsl,fun c' hc'=>?_,fun g hg=>?_,fun g c' hg _=>?_,fun i j _ hj=>absurd hj (Nat.not_lt_zero _),fun t ht=>(by cases ht)⟩,fun d hd=>?_⟩
  ·rw [List.eq_of_mem_replicate hx];unfold I64;decide
  ·rw [List.eq_of_mem_replicate hx];unfold I64;decide
  ·rw [List.eq_of_mem_replicate hl] at hx
   rw [List.eq_of_mem_replicate hx];exact hz
  ·show ((List.replicate ((c:Int)).toNat (0:Int)).length:Int)=(c:Int);rw [List.length_replicate];rfl
  ·show ((List.replicate ((c:Int)).toNat (0:Int)).length:Int)=(c:Int);rw [List.length_replicate];rfl
  ·have:(newS (c:Int) cr gs).cl.getD c' 0=0:=List.eq_of_mem_replicate (qd 0 hc')
   rw [this];decide
  ·rw [hsl] at hg;rw [hsp g hg,List.length_replicate];rfl
  ·rw [hspot]
   rw [hsl] at hg
   unfold spOk
   have hw:=wt_at h3 hg
   rw [Bool.and_eq_true]
   refine ⟨?_,by simp [Sp.zero]⟩
   unfold entOk
   rw [decide_eq_true_eq]
   exact ⟨hw.1,hw.2,by show ((0:Nat):Int)<_;have:=hw.1;show (0:Int)<(gs.getD g Gr.zero).weight;omega,.inr rfl⟩
  ·exact .inl (List.eq_of_mem_replicate (qd 0 hd))
 refine ⟨hgd,?_⟩
 unfold zg
 rw [(qjr hgd.sh.ok).2 hgd.sh,Bool.true_and]
 refine qbm fun d hd=>?_
 rw [(qjs hgd.sh.sort).2 hgd.cur d hd,Bool.true_and]
 refine qbm fun g hg=>?_
 have hm:memS (newS (c:Int) cr gs) g d=[]:=by
  have key:∀n g,gs.length-g≤n→memS (newS (c:Int) cr gs) g d=[]:=by
   intro n
   induction n with
   |zero=>
    intro g hg
    rw [qjb,hsl,List.drop_of_length_le (by rw [List.length_range];omega)]
    rfl
   |succ n ih=>
    intro g hg
    rw [qjb,show (newS (c:Int) cr gs).ts=[] from rfl]
    rw [List.filterMap_nil,List.nil_append,List.filterMap_eq_nil_iff]
    intro h hh
    obtain ⟨i,hi,rfl⟩:=List.getElem_of_mem hh
    rw [List.getElem_drop,List.getElem_range]
    unfold grpM
    rw [if_neg]
    rintro ⟨_,h5⟩
    exact absurd (ih (g+1+i) om) (by simpa using h5)
  exact key _ g (Nat.le_refl _)
 unfold lowS
 rw [decide_eq_true_eq]
 exact .inl hm
theorem q1d {cp:Int} {cr:Nat} {gA:Option Addr} {gc:Nat} {gs:List Gr} {w:World} (h:(⟨cp,cr,gA,gc,gs,none,0,[],none,0,[],none,0,[],none,0,[]⟩:Stm).sta.Ok∧gs.length≤1000000∧cfgOk (⟨cp,cr,gA,gc,gs,none,0,[],none,0,[],none,0,[],none,0,[]⟩:Stm).sta=true) (hr:Rd w w.heap.size 2 gA gs.length (gs.flatMap grL)):Calls Tryz.prog 34 #[.agg #[vI cp,vQ cr,.slice gA gs.length gc]] w (qzb w (newS cp cr gs)):=
 (q1a cp cr gA gc gs w h.1 h.2.1 hr).mono fun r w' k=>by unfold NewIs at k;rwa [if_pos h.2.2] at k
theorem q1e {cp:Int} {cr:Nat} {gA:Option Addr} {gc:Nat} {gs:List Gr} (h1:1≤cp∧cp≤64) (h2:cr≤1099511627776) (h3:gsOk gs=true) (h4:∀g∈gs,g.Ok):(⟨cp,cr,gA,gc,gs,none,0,[],none,0,[],none,0,[],none,0,[]⟩:Stm).sta.Ok∧gs.length≤1000000∧cfgOk (⟨cp,cr,gA,gc,gs,none,0,[],none,0,[],none,0,[],none,0,[]⟩:Stm).sta=true:=by
 have h5:=(qq h3).2.1
 refine ⟨⟨by show I64 cp;unfold I64;omega,by show cr<_;omega,h4,fun x hx=>(by cases hx),fun x hx=>(by cases hx),fun x hx=>(by cases hx),fun l hl=>(by cases hl)⟩,by omega,?_⟩
 unfold cfgOk
 rw [Bool.and_eq_true,decide_eq_true_eq]
 exact ⟨⟨h1.1,h1.2,h2⟩,h3⟩
section
variable {W w:World} {F T:List Fact} {x:Stm} {gm:Nat}
theorem do_y (n:Nat) (I:Mem W w F) (he:F.drop n=mdB gm x++T) (hG:GoodS x.sta) {o:Op30} (ho:o.Ok):Calls Tryz.prog 37 #[vP gm 0,.agg o.cells] w (OpIs W gm (F.take n++T) (doS x.sta o)):=
 qxq W w x gm _ _ _ _ _ (qjt hG.sh) hG o ho _ (I.front n he)
theorem q1f (n:Nat) (I:Mem W w F) (he:F.drop n=mdB gm x++T) (hG:GoodS x.sta):Calls Tryz.prog 38 #[vP gm 0] w (quy w x):=
 qu2 x gm w (qjt hG.sh).few (I.mdRdB n he) (I.mdBlkB n he)
end
section
variable {W w w':World} {F T A B G:List Fact} {x y:Stm} {gm:Nat} {s:Sta}
theorem Mem.dropT (n:Nat) (h:Mem W w F) (he:F.drop n=A++T):Mem W w (F.take n++T):=by
 have h2:Mem W w (F.take n++(A++T)):=by rw [←he,List.take_append_drop];exact h
 exact h2.subl (List.Sublist.append (List.Sublist.refl _) (List.sublist_append_right ..))
theorem Mem.joinF (n:Nat) (h:Mem W w F) (k:Mem w w' G) (he:F.drop n=T):Mem W w' (F.take n++(G++T)):=by
 have h2:=h.joinT k
 rw [←List.take_append_drop n F,he,List.append_assoc] at h2
 exact h2.perm (List.Perm.append_left _ List.perm_append_comm)
theorem Mem.st1 (n:Nat) (h:Mem W w F) (he:F.drop n=stF x++T):StRd w x:=h.stL n he
theorem Mem.st2 (n:Nat) (h:Mem W w F) (he:F.drop n=A++(stF x++T)):StRd w x:=h.stOf fun _ hf=>List.mem_of_mem_drop (he▸List.mem_append_right _ (List.mem_append_left _ hf))
theorem do_s (n:Nat) (I:Mem W w F) (he:F.drop n=mdB gm x++T) (hs:x.sta=s) (hG:GoodS s) {o:Op30} (ho:o.Ok):Calls Tryz.prog 37 #[.pointer (some ⟨gm,0,none⟩),.agg o.cells] w (OpIs W gm (F.take n++T) (doS s o)):=by
 subst hs
 exact do_y n I he hG ho
def StaIs (w:World) (s:Sta) (r:Ending) (w':World):Prop:=∃y:Stm,r= .returned (.tuple #[.agg y.cells,.int .i64 0])∧y.sta=s∧StCap y∧Mem w w' (stF y)
theorem q1g (n:Nat) (I:Mem W w F) (he:F.drop n=mdB gm x++T) (hs:x.sta=s) (hG:GoodS s):Calls Tryz.prog 38 #[.pointer (some ⟨gm,0,none⟩)] w (StaIs w s):=by
 subst hs
 exact (q1f n I he hG).mono fun r w' ⟨y,h1,h2,h3,h4⟩=>⟨y,h1,qla h2,h3,h4⟩
end
def Nums.new (n:Nums):Sta:=newS (n.cp:Int) n.credit n.gs
theorem gs_ok {gs:List Gr} (h:gsOk gs=true):∀g∈gs,g.Ok:=fun x hx=>by
 obtain ⟨g,hg,rfl⟩:=qaf Gr.zero hx
 have hw:=wt_at h hg
 have hl:=(qq h).2.1
 refine ⟨?_,by unfold I64;omega⟩
 rcases Nat.eq_zero_or_pos g with rfl|h0
 ·rw [(qq h).2.2.1];unfold I64;decide
 ·have:=qmq ((qq h).2.2.2 g hg) h0
  unfold ParB at this
  unfold I64;omega
theorem Nums.good {n:Nums} (h:n.Ok):GoodS n.new∧zg n.new=true:=by
 have h1:=Nums.right h
 have h2:=h.credit
 exact qxy (by unfold Nums.cp;omega) om h1.1 (gs_ok h1.1)
theorem Nums.cfg {n:Nums} {gA:Option Addr} {gc:Nat} (h:n.Ok):(⟨(n.cp:Int),n.credit,gA,gc,n.gs,none,0,[],none,0,[],none,0,[],none,0,[]⟩:Stm).sta.Ok∧n.gs.length≤1000000∧cfgOk (⟨(n.cp:Int),n.credit,gA,gc,n.gs,none,0,[],none,0,[],none,0,[],none,0,[]⟩:Stm).sta=true:=by
 have h1:=Nums.right h
 have h2:=h.credit
 exact q1e (by unfold Nums.cp;omega) om h1.1 (gs_ok h1.1)
theorem qu9 (l:List Sml) (most:Nat):(q5 l most).length≤most:=by
 rw [qix,List.length_take]
 omega
theorem qlx {n:Nums} (h:n.Ok):n.cells.size=13:=by
 unfold Nums.cells
 rw [List.size_toArray]
 simp [h.pl,h.wl]
end Go.Proofs.YtcajpeiobkcliaaGreatDoor
set_option linter.all false
namespace Go.Proofs.YtcajpeiobkcliaaGreatDoor
open Go.RowKit Go.ChangeShapes Go.WideShapes Go.ChangeAt
section
variable {H:Type} {enc:TypeId×Value→H} {P:Program} {W:World} {sp:Nat→Bool} {held:Bool}
def intZ:Value→Int
 | .int _ z=>z
 |_=>0
theorem qpf {t e:TypeId} {n:Nat} {k:Go.IntKind} (ht:P.underlying t=some (.array n e)) (he:P.underlying e=some (.int k)) (hc:P.cellsOf e=1) (hn:P.cellsOf t=n) {fuel:Nat} {L:List Value} {d:DataW H} {p:List MemPlace} (hf:DataW.trod enc P W 0 sp held fuel t L=some (d,p)):
  ∃zs:List Int,zs.length=n∧L=zs.map (Value.int k)∧∀z∈zs,(Lit.int k z).wf=true:=by
 obtain ⟨xs,m,_,_,hl,hx,hg⟩:=DataW.trod_array ht hf
 rw [hn] at hl
 have el:∀i,i<n→∃z:Int,L[i]?=some (.int k z)∧(Lit.int k z).wf=true:=fun i hi=>by
  have g:=hg i hi
  rw [hc,Nat.mul_one,List.getElem?_eq_getElem om] at g
  obtain ⟨z,e0,_,w0⟩:=DataW.trod_int he g
  exact ⟨z,qcq e0,w0⟩
 refine ⟨L.map intZ,by rw [List.length_map,hl],qsd (by rw [List.length_map,List.length_map]) fun i hi=>?_,fun z hz=>?_⟩
 ·rw [List.length_map,List.length_map] at hi
  obtain ⟨z,h1,_⟩:=el i om
  rw [List.map_map,List.getElem?_map,h1]
  rfl
 ·obtain ⟨v,hv,rfl⟩:=List.mem_map.1 hz
  obtain ⟨i,hi,rfl⟩:=List.getElem_of_mem hv
  obtain ⟨z,h1,h2⟩:=el i om
  rw [List.getElem?_eq_getElem hi] at h1
  injection h1 with h1
  rw [h1]
  exact h2
end
def qj9:List Go.IntKind:=[.u8,.u8,.u8,.u8,.u8,.u16,.u32,.u8]
theorem qrj:qgd Tryz.prog 140 qj9=true:=by kernel_rfl
theorem qpg:Tryz.prog.underlying 28=some (.slice 140):=by kernel_rfl
theorem qrk:Tryz.prog.cellsOf 140=8:=by kernel_rfl
theorem qrl {cs:List Value} (hl:cs.length=qj9.length) (h:∀(i:Nat) (k:Go.IntKind),qj9[i]?=some k→∃z:Int,cs[i]?=some (Value.int k z)∧(Lit.int k z).wf=true):∃x:Sml,sml x=cs∧x.Ok:=by
 obtain ⟨z0,h0,w0⟩:=h 0 .u8 rfl
 have w0:=u8_wf w0
 obtain ⟨z1,h1,w1⟩:=h 1 .u8 rfl
 have w1:=u8_wf w1
 obtain ⟨z2,h2,w2⟩:=h 2 .u8 rfl
 have w2:=u8_wf w2
 obtain ⟨z3,h3,w3⟩:=h 3 .u8 rfl
 have w3:=u8_wf w3
 obtain ⟨z4,h4,w4⟩:=h 4 .u8 rfl
 have w4:=u8_wf w4
 obtain ⟨z5,h5,w5⟩:=h 5 .u16 rfl
 have w5:=qsc w5
 obtain ⟨z6,h6,w6⟩:=h 6 .u32 rfl
 have w6:=qyr w6
 obtain ⟨z7,h7,w7⟩:=h 7 .u8 rfl
 have w7:=u8_wf w7
 refine ⟨⟨z0.toNat,z1.toNat,z2.toNat,z3.toNat,z4.toNat,z5.toNat,z6.toNat,z7.toNat⟩,?_,⟨by show z0.toNat<_;omega,by show z1.toNat<_;omega,by show z2.toNat<_;omega,by show z3.toNat<_;omega,by show z4.toNat<_;omega,by show z5.toNat<_;omega,by show z6.toNat<_;omega,by show z7.toNat<_;omega⟩⟩
 refine qsd (by rw [hl];rfl) fun i hi=>?_
 have hi':i<8:=by rw [hl] at hi;exact hi
 have hc:i=0∨i=1∨i=2∨i=3∨i=4∨i=5∨i=6∨i=7:=by omega
 rcases hc with rfl|rfl|rfl|rfl|rfl|rfl|rfl|rfl
 ·rw [h0];show some (Value.int .u8 ((z0.toNat:Nat):Int))=_;rw [Int.toNat_of_nonneg w0.1]
 ·rw [h1];show some (Value.int .u8 ((z1.toNat:Nat):Int))=_;rw [Int.toNat_of_nonneg w1.1]
 ·rw [h2];show some (Value.int .u8 ((z2.toNat:Nat):Int))=_;rw [Int.toNat_of_nonneg w2.1]
 ·rw [h3];show some (Value.int .u8 ((z3.toNat:Nat):Int))=_;rw [Int.toNat_of_nonneg w3.1]
 ·rw [h4];show some (Value.int .u8 ((z4.toNat:Nat):Int))=_;rw [Int.toNat_of_nonneg w4.1]
 ·rw [h5];show some (Value.int .u16 ((z5.toNat:Nat):Int))=_;rw [Int.toNat_of_nonneg w5.1]
 ·rw [h6];show some (Value.int .u32 ((z6.toNat:Nat):Int))=_;rw [Int.toNat_of_nonneg w6.1]
 ·rw [h7];show some (Value.int .u8 ((z7.toNat:Nat):Int))=_;rw [Int.toNat_of_nonneg w7.1]
section
variable {H:Type} {enc:TypeId×Value→H} {P:Program} {W:World} {sp:Nat→Bool} {held:Bool}
theorem flat_get {sz:Nat}:∀(css:List (List Value)),(∀l∈css,l.length=sz)→∀p u,(css.flatMap id)[p]?=some u→∃i j,∃hi:i<css.length,j<sz∧p=i*sz+j∧css[i][j]?=some u:=by
 intro css
 induction css with
 |nil=>intro _ p u h;simp at h
 | cons l r ih =>
  intro h p u hu
  have hll:=h l (by simp)
  rw [List.flatMap_cons] at hu
  by_cases hp:p<sz
  ·rw [List.getElem?_append_left (by simp only [id];omega)] at hu
   exact ⟨0,p,by simp,hp,by omega,hu⟩
  ·rw [List.getElem?_append_right (by simp only [id];omega)] at hu
   simp only [id] at hu
   rw [hll] at hu
   obtain ⟨i,j,hi,hj,hpj,hu'⟩:=ih (fun y hy=>h y (by simp [hy])) _ u hu
   exact ⟨i+1,j,by simp;omega,hj,by rw [Nat.succ_mul];omega,by simpa using hu'⟩
theorem qva {sz:Nat}:∀(css:List (List Value)),(∀l∈css,l.length=sz)→(css.flatMap id).length=css.length*sz:=by
 intro css
 induction css with
 |nil=>simp
 |cons l r ih=>intro h;rw [List.flatMap_cons,List.length_append,ih (fun y hy=>h y (by simp [hy])),List.length_cons,Nat.succ_mul];have:=h l (by simp);simp only [id];omega
theorem qrm {α:Type} (f:α→List Value) (Ok:α→Prop) {t e:TypeId} {sz:Nat} (ht:P.underlying t=some (.slice e)) (hsz:P.cellsOf e=sz) (h0:0<sz) (hf:∀x,(f x).length=sz)
  (hE:∀m l y,DataW.trod enc P W 0 sp held m e l=some y→∃x,f x=l∧Ok x) {fuel:Nat} {cs:List Value} {x:DataW H×List MemPlace} (h:DataW.trod enc P W 0 sp held fuel t cs=some x):
  ∃(A:Option Addr) (c:Nat) (l:List α),cs=[.slice A l.length c]∧l.length≤c∧c≤maxLen∧(∀x∈l,Ok x)∧Rd W W.heap.size sz A l.length (l.flatMap f):=by
 rcases DataW.trod_slice ht h with ⟨hc,_⟩|⟨a,len,cap,elems,rest,m,_,hc,_,_,hl,hm,hlen,hel,_⟩
 ·exact ⟨none,0,[],hc,Nat.le_refl _,by unfold maxLen;omega,by simp,Rd.nil⟩
 ·have hall:∀i,i<len→∃x:α,W.cells? 0 (a.add (i*sz)) sz=some (f x)∧Ok x:=by
   intro i hi
   have h1:=hel i hi
   rw [hsz,List.getElem?_eq_getElem (by omega:i<elems.length)] at h1
   obtain ⟨l,h2,h3⟩:=Option.bind_eq_some_iff.1 h1
   obtain ⟨x,rfl,hx⟩:=hE _ _ _ h3
   exact ⟨x,h2,hx⟩
  have key:∀k,k≤len→∃xs:List α,xs.length=k∧∀i (hi:i<xs.length),W.cells? 0 (a.add (i*sz)) sz=some (f xs[i])∧Ok xs[i]:=by
   intro k
   induction k with
   |zero=>intro _;exact ⟨[],rfl,fun i hi=>by simp at hi⟩
   | succ k ih =>
    intro hk
    obtain ⟨xs,h1,h2⟩:=ih om
    obtain ⟨x,h3,h4⟩:=hall k om
    refine ⟨xs++[x],by simp [h1],fun i hi=>?_⟩
    by_cases hik:i<xs.length
    ·rw [List.getElem_append_left hik];exact h2 i hik
    ·obtain rfl:i=xs.length:=by simp at hi;omega
     rw [List.getElem_append_right (Nat.le_refl _)]
     simp only [Nat.sub_self,List.getElem_cons_zero,h1]
     exact ⟨h3,h4⟩
  obtain ⟨xs,h1,h2⟩:=key len (Nat.le_refl _)
  have hfm:xs.flatMap f=(xs.map f).flatMap id:=by rw [List.flatMap_map];rfl
  have hll:∀l∈xs.map f,l.length=sz:=fun l hl'=>by obtain ⟨x,_,rfl⟩:=List.mem_map.1 hl';exact hf x
  have hat:∀i (hi:i<xs.length) j,j<sz→W.cell? (a.add (i*sz+j))=(f xs[i])[j]?:=by
   intro i hi j hj
   have:=(World.cells?_some (h2 i hi).1).2.2 j hj
   rwa [qkh] at this
  refine ⟨some a,cap,xs,by rw [hc,h1],by omega,hm,fun x hx=>by obtain ⟨i,hi,rfl⟩:=List.getElem_of_mem hx;exact (h2 i hi).2,⟨by rw [hfm,qva _ hll,List.length_map],fun hn=>⟨a,rfl,?_,?_⟩⟩⟩
  ·have h3:=hat 0 hn 0 h0
   have h4:=hf xs[0]
   rw [List.getElem?_eq_getElem om] at h3
   have:=World.block_lt_of_cell? W _ h3
   simpa [Addr.add] using this
  ·intro p u hu
   rw [hfm] at hu
   obtain ⟨i,j,hi,hj,rfl,hu'⟩:=flat_get _ hll p u hu
   rw [List.length_map] at hi
   rw [hat i hi j hj,←hu',List.getElem_map]
end
section
variable {H:Type} {enc:TypeId×Value→H} {W:World} {b0:Nat} {v:Value} {d:DataW H} {p:List MemPlace}
theorem qxz {fuel:Nat} {cs:List Value} {x:DataW H×List MemPlace} (hf:DataW.trod enc Tryz.prog W 0 (fun _=>true) true fuel 140 cs=some x):∃e:Sml,sml e=cs∧e.Ok:=by
 obtain ⟨h1,h2⟩:=qmg qrj hf
 exact qrl h1 h2
set_option maxRecDepth 100000 in
theorem qx0 (hval:Value.okWide Tryz.prog W .any b0 28 v) (h:DataW.Trod enc Tryz.prog W 0 (fun _=>true) true 28 v d p):
  ∃(A:Option Addr) (c:Nat) (l:List Sml),v= .slice A l.length c∧l.length≤c∧c≤maxLen∧(∀x∈l,x.Ok)∧Rd W W.heap.size 8 A l.length (l.flatMap sml):=by
 obtain ⟨a0,len,cap,rfl⟩:=okWide_slice qpg hval
 obtain ⟨fuel,hf⟩:=h
 obtain ⟨A,c,l,hcs,h1⟩:=qrm sml Sml.Ok qpg qrk de qns (fun _ _ _ h=>qxz h) hf
 simp only [Value.cells,List.cons.injEq,and_true,Value.slice.injEq] at hcs
 obtain ⟨rfl,rfl,rfl⟩:=hcs
 exact ⟨_,_,l,rfl,h1⟩
theorem nf0:fieldAt Tryz.prog 27 0 0 5=true:=by kernel_rfl
theorem nf1:fieldAt Tryz.prog 27 1 1 5=true:=by kernel_rfl
theorem nf2:fieldAt Tryz.prog 27 2 2 22=true:=by kernel_rfl
theorem nf3:fieldAt Tryz.prog 27 3 3 23=true:=by kernel_rfl
theorem nf4:fieldAt Tryz.prog 27 4 8 25=true:=by kernel_rfl
theorem qrn:Tryz.prog.cellsOf 27=13:=by kernel_rfl
theorem qvb:Tryz.prog.underlying 22=some (.int .u32):=by kernel_rfl
theorem q1h:Tryz.prog.underlying 24=some (.int .u16):=by kernel_rfl
theorem q3a:Tryz.prog.underlying 23=some (.array 5 5):=by kernel_rfl
theorem q3b:Tryz.prog.underlying 25=some (.array 5 24):=by kernel_rfl
theorem qph:Tryz.prog.cellsOf 5=1:=by kernel_rfl
theorem qvc:Tryz.prog.cellsOf 24=1:=by kernel_rfl
theorem qvd:Tryz.prog.cellsOf 22=1:=by kernel_rfl
theorem qpi:Tryz.prog.cellsOf 23=5:=by kernel_rfl
theorem qpj:Tryz.prog.cellsOf 25=5:=by kernel_rfl
theorem qka (k:Go.IntKind):∀{zs:List Int},(∀z∈zs,0≤z)→zs.map (Value.int k)=(zs.map Int.toNat).map (fun z:Nat=>Value.int k (z:Int))
 |[],_=>rfl
 |z::r,h=>by
  rw [List.map_cons,List.map_cons,List.map_cons,qka k (fun y hy=>h y (List.mem_cons_of_mem _ hy)),Int.toNat_of_nonneg (h z (List.mem_cons_self ..))]
theorem qx1 {cs A B:List Value} {a b c:Value} (hl:cs.length=13) (h0:cs[0]?=some a) (h1:cs[1]?=some b) (h2:cs[2]?=some c) (h3:(cs.drop 3).take 5=A) (h4:(cs.drop 8).take 5=B):cs=a::b::c::(A++B):=by
 match cs,hl with
 |[c0,c1,c2,c3,c4,c5,c6,c7,c8,c9,c10,c11,c12],_=>
  injection h0 with h0
  injection h1 with h1
  injection h2 with h2
  rw [←h3,←h4,←h0,←h1,←h2]
  rfl
theorem qve {fuel:Nat} {cs:List Value} {y:DataW H×List MemPlace} (hf:DataW.trod enc Tryz.prog W 0 (fun _=>true) true fuel 27 cs=some y):∃n:Nums,n.cells.toList=cs∧n.Ok:=by
 obtain ⟨hl,_,y0,g0⟩:=qa1 nf0 hf
 obtain ⟨_,_,y1,g1⟩:=qa1 nf1 hf
 obtain ⟨_,_,y2,g2⟩:=qa1 nf2 hf
 obtain ⟨_,_,y3,g3⟩:=qa1 nf3 hf
 obtain ⟨_,_,y4,g4⟩:=qa1 nf4 hf
 rw [qrn] at hl
 obtain ⟨c0,e0,_,w0⟩:=DataW.trod_int qn7 g0
 obtain ⟨c1,e1,_,w1⟩:=DataW.trod_int qn7 g1
 obtain ⟨c2,e2,_,w2⟩:=DataW.trod_int qvb g2
 obtain ⟨ps,l3,e3,w3⟩:=qpf q3a qn7 qph qpi g3
 obtain ⟨ws,l4,e4,w4⟩:=qpf q3b q1h qvc qpj g4
 rw [qph] at e0 e1
 rw [qvd] at e2
 rw [qpi] at e3
 rw [qpj] at e4
 have u0:=u8_wf w0
 have u1:=u8_wf w1
 have u2:=qyr w2
 rw [qka _ fun z hz=>(u8_wf (w3 z hz)).1] at e3
 rw [qka _ fun z hz=>(qsc (w4 z hz)).1] at e4
 refine ⟨⟨c0.toNat,c1.toNat,c2.toNat,ps.map Int.toNat,ws.map Int.toNat⟩,?_,⟨by show c0.toNat<_;omega,by show c1.toNat<_;omega,by show c2.toNat<_;omega,by show (ps.map Int.toNat).length=5;rw [List.length_map,l3],by show (ws.map Int.toNat).length=5;rw [List.length_map,l4],fun z hz=>?_,fun z hz=>?_⟩⟩
 ·rw [qx1 hl (qcq e0) (qcq e1) (qcq e2) e3 e4]
  unfold Nums.cells
  dsimp only
  rw [Int.toNat_of_nonneg u0.1,Int.toNat_of_nonneg u1.1,Int.toNat_of_nonneg u2.1]
 ·obtain ⟨x,hx,rfl⟩:=List.mem_map.1 hz
  have:=u8_wf (w3 x hx)
  omega
 ·obtain ⟨x,hx,rfl⟩:=List.mem_map.1 hz
  have:=qsc (w4 x hx)
  omega
set_option maxRecDepth 100000 in
theorem qx2 (hval:Value.okWide Tryz.prog W .any b0 27 v) (h:DataW.Trod enc Tryz.prog W 0 (fun _=>true) true 27 v d p):∃n:Nums,v= .agg n.cells∧n.Ok:=by
 obtain ⟨fs,hu⟩:=qkl (show qge Tryz.prog 27=true by kernel_rfl)
 obtain ⟨cs,rfl,hs⟩:=okWide_struct hu hval
 obtain ⟨fuel,hf⟩:=h
 obtain ⟨n,e,hn⟩:=qve (cs:=cs.toList) hf
 exact ⟨n,by rw [Array.toList_inj.1 e],hn⟩
end
end Go.Proofs.YtcajpeiobkcliaaGreatDoor
set_option linter.all false
namespace Go.Proofs.YtcajpeiobkcliaaGreatDoor
open Go.RowKit Go.ChangeShapes Go.WideShapes Go.ChangeAt
set_option maxRecDepth 100000 in
theorem qly {W:World} (h:laidMetH Tryz.prog Rows.canonOneRow.laid W):LaidX W.heap.size W:=by
 rw [MakeChecks.laidMetH_plain _ _ _ kr] at h
 obtain ⟨g1, t1, cs1, f1, p1, hg1, ht1, hv1, hd1⟩ := Lib.laidMet.reads h (n := "quantum/crc.halves") (d := Rows.laid_quantum_crc_halves) (List.mem_cons_self ..)
 have gg1 : Tryz.prog.globalNamed "quantum/crc.halves" = some 0 := by kernel_rfl
 obtain rfl:=Option.some.inj (gg1.symm.trans hg1)
 have ty1:(Tryz.prog.globals[0]?).map (·.type)=some 201:=by kernel_rfl
 obtain rfl:=Option.some.inj (ty1.symm.trans ht1)
 have one1:Tryz.prog.cellsOf 22=1:=by kernel_rfl
 have c1:∀i v,cs1.toList[i]?=some v→W.cell? ⟨0,i,none⟩=some v:=fun i v hv=>by
  rw [World.var?_cell gg1 hv1 i];simpa using hv
 have at1:∀(cs:List Value) (i:Nat) (v:Value),(cs.drop (i*1)).take 1=[v]→cs[i]?=some v:=by
  intro cs i v h
  have:=congrArg (·[0]?) h
  simpa [List.getElem?_take,List.getElem?_drop] using this
 have hal:∀k,k<16→W.cell? ⟨0,k,none⟩=some (.int .u32 ((qav.getD k 0:Nat):Int)):=by
  intro k hk
  obtain ⟨f',d,q,hd,ht⟩:=Lib.array_elem (n:=16) (e:=22) kr hd1 k hk
  rw [one1] at ht
  have hdk:d= .lit (.int .u32 ((qav.getD k 0:Nat):Int)):=by
   have hk':k=0∨k=1∨k=2∨k=3∨k=4∨k=5∨k=6∨k=7∨k=8∨k=9∨k=10∨k=11∨k=12∨k=13∨k=14∨k=15:=by omega
   rcases hk' with rfl|rfl|rfl|rfl|rfl|rfl|rfl|rfl|rfl|rfl|rfl|rfl|rfl|rfl|rfl|rfl<;>exact (Option.some.inj hd).symm
  subst hdk
  obtain ⟨z,e1,e2,_⟩:=DataW.trod_int qvb ht
  have e2:=congrArg Prod.fst e2
  simp only [DataW.lit.injEq,Lit.int.injEq,true_and] at e2
  exact c1 k _ (by rw [at1 _ _ _ e1,←e2])
 exact ⟨hal,World.block_lt_of_cell? W _ (hal 0 om)⟩
end Go.Proofs.YtcajpeiobkcliaaGreatDoor
namespace Go.Proofs.YtcajpeiobkcliaaGreatDoor
open Go.RowKit
def IdsIn (m:Int) (l:List Tk):Prop:=∀t∈l,t.id≤m
section
variable {s:Sta} {o:Op30} {m:Int} {l:List Tk} {t':Tk} {i:Nat}
theorem qd5 (h:IdsIn m l) (ht:t'.id=(l.getD i Tk.zero).id):IdsIn m (l.set i t'):=fun t hm=>by
 rcases Nat.lt_or_ge i l.length with h1|h1
 ·rcases List.mem_or_eq_of_mem_set hm with h2|rfl
  ·exact h t h2
  ·rw [ht];exact h _ (qd Tk.zero h1)
 ·rw [List.set_eq_of_length_le h1] at hm
  exact h t hm
theorem qpn (h:IdsIn m s.ts) (to:Int):IdsIn m (moveS s i to).ts:=by
 unfold moveS
 dsimp only
 split
 ·rw [(qbp _ _ _).ts];exact qd5 h rfl
 ·exact qd5 h rfl
theorem ql2 (h:IdsIn m s.ts):IdsIn m (qby s o).1.ts:=by
 unfold qby
 repeat' split
 all_goals first|exact h|skip
 ·show IdsIn m (List.eraseIdx _ _)
  exact fun t ht=>qd5 (t':={s.ts.getD (fidx s.ts (s.cu.getD o.cpu.toNat 0)).toNat Tk.zero with ready:=false}) h rfl t (List.mem_of_mem_eraseIdx ht)
 ·exact qd5 h rfl
theorem qx8 (ho:o.task≤m) (h:IdsIn m s.ts):IdsIn m (stepS s o).1.ts:=by
 unfold stepS
 split
 ·unfold qem
  repeat' split
  all_goals first|exact h|skip
  show IdsIn m (wakeS _ _ _).ts
  rw [(qbp _ _ _).ts]
  intro t ht
  rcases List.mem_append.1 ht with h1|h1
  ·exact h t ((List.takeWhile_sublist _).subset h1)
  ·rcases List.mem_cons.1 h1 with rfl|h2
   ·exact ho
   ·exact h t ((List.dropWhile_sublist _).subset h2)
 ·unfold qen
  repeat' split
  all_goals first|exact h|skip
  show IdsIn m (wakeS _ _ _).ts
  rw [(qbp _ _ _).ts]
  exact qd5 h rfl
 ·exact ql2 h
 ·exact ql2 h
 ·unfold tickS
  repeat' split
  all_goals first|exact h|skip
  show IdsIn m (zr _ _ _ _ _).ts
  rw [(qd4 _ _ _ _ _).ts]
  exact qd5 h rfl
 ·unfold pickS
  split<;>exact h
 ·unfold qan
  repeat' split
  all_goals first|exact h|exact qd5 h rfl
 ·unfold qbd
  repeat' split
  all_goals exact h
 ·unfold qbe
  repeat' split
  all_goals first|exact h|exact qpn h _
 ·unfold qao
  repeat' split
  all_goals first|exact h|exact qpn h _
 ·exact h
theorem q3f (ho:o.task≤m) (h:IdsIn m s.ts):IdsIn m (doS s o).1.ts:=by
 unfold doS
 split
 ·exact h
 ·exact qx8 ho h
end
theorem qnu {l:List Sml} {most:Nat}:∀o∈q5 l most,o.task≤12:=fun o ho=>by
 obtain ⟨x,hx,rfl⟩:=List.mem_map.1 ho
 show ((1+x.task%12:Nat):Int)≤12
 omega
section
variable {W w:World} {fs:List Fact}
end
end Go.Proofs.YtcajpeiobkcliaaGreatDoor
