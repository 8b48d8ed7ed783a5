/- Walks: the reference's drawing of strokes. -/
import Derived.Test.YtggfdnopminemaaGreatDoorZt
import Derived.Test.YtggfdnopminemaaGreatDoorCurE4
set_option linter.all false
namespace Go.Proofs.YtggfdnopminemaaGreatDoor
open Go Go.RowKit
set_option maxHeartbeats 8000000
set_option maxRecDepth 100000
theorem c0w (B C N lo hi:Nat) (u:Value) (l:P.Dic) (w:World) (hN:N<2^31) (h:a1r B C N w) (hr:a6t lo hi w u l) (hlo:C<lo) (hd:b3y l) :
 Calls Tryz.prog 220 #[.pointer (some ⟨C,0,none⟩),.agg #[u]] w (a6h B C (N+100) 40 w):=by
 obtain⟨i0,hi',hy0,hy1,hy2⟩:=info_parts a1z
 have hlt:=h.lt
 obtain⟨ad,cap,rfl,_,_⟩:=hr.now
 have hba:=(Below.refl w.heap.size w).alloc lZ (.cells #[.slice ad l.length cap] 26)
 have HCW:=qh ((a0d.refl h (Nat.le_refl N)).below hba)
 have HD:=qh (DBx.new (.slice ad l.length cap) 26 w)
 have HR:=qh (hr.chg (Below.chg hba (fun _=>False)) (fun _ _ _ h=>h))
 have HDR:=qh hd
 have hl60:=hd.len
 have hhi:=hr.1
 have hzw1:w.heap.size<(w.alloc (.cells #[.slice ad l.length cap] 26)).heap.size:=by simp
 have hzw2:(w.alloc (.cells #[.slice ad l.length cap] 26)).heap.size≤w.heap.size+1:=by simp
 clear h hr hba hd
 go_enter Tryz.func220,Tryz.ntmps220
 go_upto_region 1 with fail
 generalize w.alloc (.cells #[.slice ad l.length cap] 26)=W0 at *
 have HC0:=qh HCW.o.1
 have hz0:C<W0.heap.size:=by omega
 have HC:=qh ((a0d.refl HCW.o.1 (Nat.le_refl N)).alloc (.cells #[] 3))
 have HOW:=qh (show (W0.alloc (.cells #[] 3)).ownsRow W0.heap.size 3 1 (.slice (some ⟨W0.heap.size,0,none⟩) 0 0) 0 [] by have h:=World.ownsRow_lit (base:=W0.heap.size) (e:=3) (size:=1) W0 #[] 0 lZ (Nat.zero_le _) sZ;simpa using h)
 have hb1:=(Below.refl W0.heap.size W0).alloc lZ (.cells #[] 3)
 have HD1:=qh (HD.o.below hb1);have HR1:=qh (HR.o.chg (Below.chg hb1 (fun _=>False)) (fun _ _ _ h=>h))
 clear hb1 HD HR
 go_wp2_with fail
 refine (a1b B C N 6 _ oZ dZ HC.o.1).mono ?_
 rintro e w1 ⟨x,hx,rfl,hc⟩
 have hx3:x<6:=by omega
 have HRN:=qh (show a2t B C (N+2) W0 w1 (.slice (some ⟨W0.heap.size,0,none⟩) 0 0) [] from a2t.cur (K:=N) ⟨⟨_,_,_,rfl⟩,HOW.o,HC.o⟩ hz0 hc)
 have HD2:=qh (HD1.o.a0c hc.2 oZ);have HR2:=qh (HR1.o.chg hc.2 (fun b h1 h2 e=>by omega))
 clear hc hx HD1 HR1 HC HOW
 go_wp2
 go_loopw [5,6] (fun s n wr=>∃(o:List Int) (k:Nat),o.length+8*k≤40∧n=.int .i64 k∧a2t B C (N+90-10*k) W0 wr s o∧DBx w.heap.size (.slice ad l.length cap) wr∧a6t lo hi wr (.slice ad l.length cap) l) (fun _ n _=>(intOf n).toNat)
 case atStart=>exact⟨[],x,by simp;omega,rfl,⟨HRN.o.1,HRN.o.2.1,HRN.o.2.2.mono oZ⟩,HD2.o,HR2.o⟩
 case round=>
  obtain⟨o,k,hk,rfl,hrn,hdb,hre⟩:=hrel;have H3:=qh hrn;have HD3:=qh hdb;have HR3:=qh hre;obtain⟨⟨ua,un,uc,rfl⟩,_⟩:=hrn;clear hdb hre HRN HD2 HR2;have hzz:W0.heap.size≤wr.heap.size:=H3.o.2.2.2.size
  by_cases hp:0<k
  ·have hpk:(0:Int)<(k:Int):=by omega
   obtain⟨b0,_⟩:=HD3.o
   by_cases hpos:0<l.length
   ·have hpi:(0:Int)<(l.length:Int):=by omega
    go_wp2_with fail
    refine (b3b B C (N+90-10*k) 4 _ oZ dZ H3.o.2.2.1).mono ?_;rintro e w2 ⟨b,rfl,hc⟩;have H4:=qh (H3.o.cur hz0 hc);have HD4:=qh (HD3.o.a0c hc.2 oZ);have HR4:=qh (HR3.o.chg hc.2 (fun b h1 h2 e=>by omega));have hz2:wr.heap.size≤w2.heap.size:=hc.2.size;clear hc H3 HD3 HR3 b0
    cases b
    ·have HS:=qh (show DBx w.heap.size (.slice ad l.length cap) w2.drew from HD4.o.below bZ.drew);have hdd:Below w2.heap.size w2 w2.drew:=bZ.drew;have H5:=qh (show a2t B C (N+90-10*k+2) W0 w2.drew (.slice ua un uc) o from⟨⟨_,_,_,rfl⟩,a0k H4.o.2.1 hdd lZ,H4.o.2.2.below hdd⟩);have HR5:=qh (HR4.o.chg (Below.chg hdd (fun _=>False)) (fun _ _ _ h=>h));have hz2':wr.heap.size≤w2.drew.heap.size:=hz2;clear hdd H4 HD4 HR4
     go_upto_region 6 with fail
     refine wp_region_held_drew (S:=DBx w.heap.size (.slice ad l.length cap)) kZ HS.o (fun hS0=>?_);generalize w2.drew=v0 at *;refine tk3 0 hS0 ?_;refine tk3 1 hS0 ?_;refine tk3 2 hS0 ?_;refine tk3 3 hS0 ?_;refine tk3 4 hS0 ?_;refine tk3 5 hS0 ?_;refine tk3 6 hS0 ?_;refine trd 7 fun K hK=>?_;go_simp;refine (a1b B C (N+90-10*k+2) l.length _ oZ oZ H5.o.2.2.1).mono ?_;rintro e v1 ⟨i,hip,rfl,hc⟩;have hil:i<l.length:=by omega
     have H6:=qh (H5.o.cur hz0 hc);have HR6:=qh (HR5.o.chg hc.2 (fun b h1 h2 e=>by omega));have hz6:v0.heap.size≤v1.heap.size:=hc.2.size;refine hK.out _ _ (hS0.a0c hc.2 oZ) (fun hS1=>?_);clear hK K hc hip H5 HR5;obtain⟨g,p,rfl,hg,xv,c0,c1,hx⟩:=HR6.o.now.at i hil;have HX:=qh hx;obtain⟨xd,xc,rfl,_,_⟩:=hx;have hol:=HDR.o.outs _ (List.getElem_mem hil);have i1:(i:Int)<(l.length:Int):=by omega
     generalize l[i]=en at *;obtain⟨eo,et⟩:=en;simp only at HX c0 hol
     try simp only [qA,qB,qC,Act.put,qD,qE,qF]
     refine tk3 8 (v:=.pointer (some ⟨g,p+i*2,none⟩)) hS1 ?_;refine tk3 9 (v:=.pointer (some ⟨g,p+i*2,none⟩)) hS1 ?_;refine trd 10 fun K hK=>?_;go_simp;refine hK.out _ _ hS1 (fun hS2=>?_);clear hK K
     try simp only [qA,qB,qC,Act.put,qD,qE,qF]
     have hul:un=o.length:=by
      rcases H6.o.2.1.2 with⟨e1,e2⟩|⟨_,_,_,e1,_⟩
      ·injection e1 with _ e3 _;omega
      ·injection e1
     have hlo6:∀k,(Value.slice ua un uc).ownBlock=some k→W0.heap.size≤k:=fun k hk=>(World.ownsRow.lt H6.o.2.1 k hk).1;refine trd 11 fun K hK=>?_;refine b3g rfl _ _ 33 rfl W0.heap.size 3 i0 (.int .i64 0) 1 8 Tryz.underlying33 hi' hy0 hy1 hy2 rfl dZ (.slice ua un uc) o.length (ints o) rfl H6.o.2.1 (.slice xd eo.length xc) eo.length (ints eo) rfl (a5z HX.o) (by unfold maxLen;omega) oZ oZ ?_;intro cv n2 hown hgr;obtain⟨cd,cc,rfl⟩:=b1c hown;have H7:=qh (show a2t B C (N+90-10*k+4) W0 n2 (.slice cd (o.length+eo.length) cc) (o++eo) from⟨⟨_,_,_,rfl⟩,by rw [List.length_append,show ints (o++eo)=ints o++ints eo by simp [ints]];exact hown,H6.o.2.2.new (Chg.grown hgr) (fun b hb=>hlo6 b hb) oZ oZ⟩);have HR7:=qh (HR6.o.chg (Chg.grown hgr) (fun b h1 h2 e=>by have:=hlo6 _ e;omega));have hS3':=hS2.a0c (Chg.grown hgr) (fun e=>by have:=hlo6 _ e;omega);have HD7:=qh hS3';refine hK.out _ _ hS3' (fun hS3=>?_);clear hK K hown hgr hS3' hlo6
     try simp only [qA,qB,qC,Act.put,qD,qE,qF]
     refine tk3 12 hS3 ?_;refine wpAnyH_done kZ ?_ _;clear hS0 hS1 hS2 hS3 c0 c1 HX H6 HR6;go_wp2
     go_roundw
     case rel=>exact⟨o++eo,k-1,by rw [List.length_append];omega,by go_num,⟨H7.o.1,H7.o.2.1,H7.o.2.2.mono oZ⟩,HD7.o,HR7.o⟩
     case measure=>simp [intOf];omega
    ·skip
     go_wp2_with fail
     refine (b1n B C (N+90-10*k+2) _ oZ H4.o.2.2.1).mono ?_;rintro e w3 ⟨y,rfl,hc⟩;have H5:=qh (H4.o.cur hz0 hc);have HD5:=qh (HD4.o.a0c hc.2 oZ);have HR5:=qh (HR4.o.chg hc.2 (fun b h1 h2 e=>by omega));exact zq8
   ·have hpi:¬(0:Int)<(l.length:Int):=by omega
    go_wp2_with fail
    refine (b1n B C (N+90-10*k) _ oZ H3.o.2.2.1).mono ?_;rintro e w3 ⟨y,rfl,hc⟩;have H5:=qh (H3.o.cur hz0 hc);have HD5:=qh (HD3.o.a0c hc.2 oZ);have HR5:=qh (HR3.o.chg hc.2 (fun b h1 h2 e=>by omega));exact zq8
  ·have hpk:¬(0:Int)<(k:Int):=by omega
   go_wp2;go_ret;exact⟨o,_,rfl,by omega,a5l H3.o.2.1 oZ,(HCW.o.mono lZ).trans (H3.o.2.2.mono oZ)⟩
theorem d3u {B C K:Nat} {w v:World} {ua:Option Addr} {un uc:Nat} {o:List Int} (h:a2t B C K w v (.slice ua un uc) o):un=o.length:=by
 rcases h.2.1.2 with⟨e1,e2⟩|⟨_,_,_,e1,_⟩
 ·injection e1 with _ e3 _;omega
 ·injection e1
theorem b3q (B C N lo hi:Nat) (u:Value) (l:P.Dic) (w:World) (hN:N<2^30) (h:a1r B C N w) (hr:a6t lo hi w u l) (hlo:C<lo) (hd:b3y l) :
 Calls Tryz.prog 149 #[.pointer (some ⟨C,0,none⟩),.agg #[u]] w (a6h B C (N+2000) 62 w):=by
 obtain⟨i0,hi',hy0,hy1,hy2⟩:=info_parts a1z
 have hlt:=h.lt
 obtain⟨ad,cap,rfl,_,_⟩:=hr.now
 have hba:=(Below.refl w.heap.size w).alloc lZ (.cells #[.slice ad l.length cap] 26)
 have HCW:=qh ((a0d.refl h (Nat.le_refl N)).below hba)
 have HD:=qh (DBx.new (.slice ad l.length cap) 26 w)
 have HR:=qh (hr.chg (Below.chg hba (fun _=>False)) (fun _ _ _ h=>h))
 have hzw1:w.heap.size<(w.alloc (.cells #[.slice ad l.length cap] 26)).heap.size:=by simp
 clear h hr hba
 go_enter Tryz.func149,Tryz.ntmps149
 go_upto_region 1 with fail
 generalize w.alloc (.cells #[.slice ad l.length cap] 26)=W0 at *
 have HC0:=qh HCW.o.1
 have hz0:C<W0.heap.size:=by omega
 obtain⟨b0,_⟩:=HD.o
 go_wp2_with fail
 refine (c0w B C N lo hi _ l _ oZ HCW.o.1 HR.o hlo hd).mono ?_
 rintro e w1 ⟨o,x,rfl,ho,hown,hc⟩
 obtain⟨ua,uc,rfl⟩:=b1c hown
 have H1:=qh (show a2t B C (N+100) W0 w1 (.slice ua o.length uc) o from⟨⟨_,_,_,rfl⟩,hown,hc⟩)
 clear hown hc HD HR b0
 go_wp2_with fail
 refine (a1b B C (N+100) 24 _ oZ dZ H1.o.2.2.1).mono ?_
 rintro e w2 ⟨p,hp,rfl,hc⟩
 have H2:=qh (H1.o.cur hz0 hc)
 clear hc H1
 by_cases p0:p=0
 ·subst p0
  go_wp2_with fail
  refine (a8y B C (N+102) _ oZ H2.o.2.2.1).mono ?_;rintro e w3 ⟨y,rfl,hc⟩;have H5:=qh (H2.o.cur hz0 hc);have HOW2:=qh (H5.o.2.1.alloc (.cells #[.int .i64 y] 3));have HZ3:=qh H5.o.2.2.2.size;clear hc
  go_wp2_with (at_builtin;refine wpList_append_own _ rfl _ _ 33 rfl W0.heap.size 3 i0 (.int .i64 0) 1 8 Tryz.underlying33 hi' hy0 hy1 hy2 rfl dZ (.slice ua o.length uc) o.length (ints o) rfl HOW2.o ⟨w3.heap.size,0,none⟩ 1 1 [.int .i64 y] rfl rfl ?_ ?_ ?_ ?_ ?_ ?_)
  all_goals first|exact⟨rfl,rfl⟩|(intro z hz;simp only [List.mem_cons,List.not_mem_nil,or_false]at hz;subst hz;rfl)|(unfold maxLen;omega)|omega|(have h1:=HZ3.o;simp;omega)|(intro i z hz;rcases i with _|i;(injection hz with hz;subst hz;rw [add0];go_simp);cases hz)|skip
  intro u4 w4 hown hgr _;have H6:=qh (H5.o.app HC0.o 3 hown hgr);have HEND:=qh (show a6h B C (N+2000) 62 w (.returned u4) w4 from⟨o++[y],u4,rfl,by rw [List.length_append];simp;omega,a5l H6.o.2.1 oZ,(HCW.o.mono lZ).trans (H6.o.2.2.mono oZ)⟩);clear hown hgr;go_wp2;go_ret;exact HEND.o
 ·have n0:((p:Int)==0)=false:=by rw [beq_eq_false_iff_ne];omega
  by_cases p1:p=1
  ·subst p1;go_wp2
   go_loopw [5] (fun s wr=>∃(o:List Int),o.length≤62∧a2t B C (N+200+10*o.length) W0 wr s o) (fun s _=>62-(match s with|.slice _ n _=>n|_=>0))
   case atStart=>exact⟨o,by omega,H2.o.1,H2.o.2.1,H2.o.2.2.mono oZ⟩
   case round=>
    obtain⟨o1,ho1,hrn⟩:=hrel;have H3:=qh hrn;obtain⟨⟨va,vn,vc,rfl⟩,_⟩:=hrn;have hvn:=d3u H3.o;subst hvn;clear H2
    go_wp2_with fail
    refine (a1b B C (N+200+10*o1.length) 2 _ oZ dZ H3.o.2.2.1).mono ?_;rintro e w3 ⟨q,hq,rfl,hc⟩;have hq2:q<2:=by omega
    have H4:=qh (H3.o.cur hz0 hc);have hw5:IntKind.i64.wrap (60+(q:Int))=60+(q:Int):=IntWalk.i64_in _ oZ;clear hc H3 hq
    by_cases hcl:o1.length<60+q
    ·have i1:(o1.length:Int)<60+(q:Int):=by omega
     go_wp2_with fail
     refine (b1n B C (N+200+10*o1.length+2) _ oZ H4.o.2.2.1).mono ?_;rintro e w4 ⟨y,rfl,hc⟩;have H5:=qh (H4.o.cur hz0 hc);have HOW2:=qh (H5.o.2.1.alloc (.cells #[.int .i64 y] 3));have HZ3:=qh H5.o.2.2.2.size;clear hc H4
     go_wp2_with (at_builtin;refine wpList_append_own _ rfl _ _ 33 rfl W0.heap.size 3 i0 (.int .i64 0) 1 8 Tryz.underlying33 hi' hy0 hy1 hy2 rfl dZ (.slice va o1.length vc) o1.length (ints o1) rfl HOW2.o ⟨w4.heap.size,0,none⟩ 1 1 [.int .i64 y] rfl rfl ?_ ?_ ?_ ?_ ?_ ?_)
     all_goals first|exact⟨rfl,rfl⟩|(intro z hz;simp only [List.mem_cons,List.not_mem_nil,or_false]at hz;subst hz;rfl)|(unfold maxLen;omega)|omega|(have h1:=HZ3.o;simp;omega)|(intro i z hz;rcases i with _|i;(injection hz with hz;subst hz;rw [add0];go_simp);cases hz)|skip
     intro u4 w5 hown hgr _;have H6:=qh (H5.o.app HC0.o 3 hown hgr);obtain⟨xa,xc,rfl⟩:=b1c hown;clear hown hgr;go_wp2
     go_roundw
     case rel=>exact⟨o1++[y],by rw [List.length_append];simp;omega,H6.o.1,H6.o.2.1,H6.o.2.2.mono (by rw [List.length_append];simp;omega)⟩
     case measure=>simp;omega
    ·have i1:¬(o1.length:Int)<60+(q:Int):=by omega
     have HEND:=qh (show a6h B C (N+2000) 62 w (.returned (.slice va o1.length vc)) w3 from⟨o1,_,rfl,ho1,a5l H4.o.2.1 oZ,(HCW.o.mono lZ).trans (H4.o.2.2.mono oZ)⟩);go_wp2;go_ret;exact HEND.o
  ·have n1:((p:Int)==1)=false:=by rw [beq_eq_false_iff_ne];omega
   have HEND:=qh (show a6h B C (N+2000) 62 w (.returned (.slice ua o.length uc)) w2 from⟨o,_,rfl,by omega,a5l H2.o.2.1 oZ,(HCW.o.mono lZ).trans (H2.o.2.2.mono oZ)⟩);go_wp2;go_ret;exact HEND.o
end Go.Proofs.YtggfdnopminemaaGreatDoor
