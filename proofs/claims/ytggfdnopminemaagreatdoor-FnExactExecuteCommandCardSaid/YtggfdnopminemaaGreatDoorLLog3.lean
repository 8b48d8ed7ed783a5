/- Walks: encoding of records. -/
import Derived.Test.YtggfdnopminemaaGreatDoorZt
import Derived.Test.YtggfdnopminemaaGreatDoorLLog1
namespace Go.Proofs.YtggfdnopminemaaGreatDoor.L
open Go Go.RowKit
set_option maxHeartbeats 8000000
set_option maxRecDepth 100000
theorem appendChecksum (s:Str) (w:World) (hs:s.length≤2^30) (hE:Env w) :
 Calls Tryz.prog 219 #[.string (S s)] w fun e w'=>e=.returned (.tuple #[.string (S (P.appendChecksum s).1),.bool (P.appendChecksum s).2])∧Below w.heap.size w w':=by
 have hs':s.length≤maxLen:=by unfold maxLen;omega
 have HE:=qh hE;clear hE
 have hl:=c0p s
 have hl2:=P.num_len (P.sum s) oZ
 by_cases h1:(s.length:Int)≤4000
 ·have hp:P.sealed s=s++35::P.num (P.sum s):=rfl;have hps:(P.sealed s).length=s.length+((P.num (P.sum s)).length+1):=by rw [hp];simp
  have HP:=qh hp;clear hp;have HPS:=qh hps;clear hps;have hd1:decide ((s.length:Int)≤4000)=true:=decide_eq_true h1;have HD1:=qh hd1;clear hd1
  cases h2:Lib.contains s [35]
  ·by_cases h3:(s.length:Int)+(((P.num (P.sum s)).length:Int)+1)≤4000
   ·have HF:=qh (show P.appendChecksum s=(P.sealed s,true) by unfold P.appendChecksum P.sealable;rw [HD1.o,h2,HPS.o,decide_eq_true oZ];rfl);have H1:=qh h1;clear h1;have h3':(s.length:Int)+((P.num (P.sum s)).length:Int)<4000:=by omega
    clear h3
    go_enter Tryz.func219,Tryz.ntmps219
    go_wp2_with (first|(go_at_call 277;refine (b8g _ _ hs').mono ?_;rintro e w' ⟨rfl,rfl⟩;rw [if_pos H1.o,HD1.o])|(go_at_call 145;refine (a5e _ _ oZ oZ HE.o).mono ?_;rintro e w' ⟨rfl,hb⟩;have HB:=qh hb;clear hb;rw [Int.toNat_natCast])|(go_at_call 136;refine (contains_one _ 35 _).mono ?_;rintro e w' ⟨rfl,rfl⟩))
    go_ret2;exact⟨by rw [HF.o,HP.o];rfl,HB.o⟩
   ·have h3':=Int.not_le.1 h3;clear h3;have HF:=qh (show P.appendChecksum s=([],false) by unfold P.appendChecksum P.sealable;rw [HD1.o,h2,HPS.o,decide_eq_false oZ];rfl);exact zq59
  ·have HF:=qh (show P.appendChecksum s=([],false) by unfold P.appendChecksum P.sealable;rw [HD1.o,h2];rfl);exact zq59
 ·have HF:=qh (show P.appendChecksum s=([],false) by unfold P.appendChecksum P.sealable;rw [decide_eq_false h1];rfl);have h0:=P.num_len 0 oZ;have hd1:decide ((s.length:Int)≤4000)=false:=decide_eq_false h1;have HD1:=qh hd1;clear hd1
  go_enter Tryz.func219,Tryz.ntmps219
  go_wp2_with (first|(go_at_call 277;refine (b8g _ _ hs').mono ?_;rintro e w' ⟨rfl,rfl⟩;rw [if_neg h1,HD1.o])|(go_at_call 145;refine (a5e _ _ oZ oZ HE.o).mono ?_;rintro e w' ⟨rfl,hb⟩;have HB:=qh hb;clear hb;rw [show (0:Int).toNat=0 from rfl])|(go_at_call 136;refine (contains_one _ 35 _).mono ?_;rintro e w' ⟨rfl,rfl⟩))
  go_ret2;exact⟨by rw [HF.o];rfl,HB.o⟩
theorem b0m (s:Str):(P.appendChecksum s).1.length≤4000:=by
 unfold P.appendChecksum
 cases h:P.sealable s
 ·simp
 ·unfold P.sealable at h;simp only [Bool.and_eq_true,decide_eq_true_eq]at h;have:=h.2.2
  show (P.sealed s).length≤4000
  omega
theorem b2k (k:Int) (c r:Str) (w:World) (hc:c.length≤2^28) (hr:r.length≤2^28) (hE:Env w) :
 Calls Tryz.prog 147 #[.int .i64 k,.agg #[.string (S c),.string (S r)]] w fun e w'=>e=.returned (.tuple #[.string (S (P.encode k c r).1),.bool (P.encode k c r).2])∧Below w.heap.size w w':=by
 have HE:=qh hE;clear hE
 cases h1:decide (0≤k∧k≤59)
 ·have HF:=qh (show P.encode k c r=([],false) by unfold P.encode;rw [h1];rfl)
  go_enter Tryz.func147,Tryz.ntmps147
  go_wp2_with (go_at_call 74;refine (a2a _ _ _ _).mono ?_;rintro e w' ⟨rfl,rfl⟩)
  go_ret2;exact zq99
 ·have hk:=of_decide_eq_true h1;obtain⟨hk0,hk1⟩:=hk
  cases h2:P.vrec c r
  ·have HF:=qh (show P.encode k c r=([],false) by unfold P.encode;rw [h1,h2];rfl)
   go_enter Tryz.func147,Tryz.ntmps147
   go_wp2_with (first|(go_at_call 74;refine (a2a _ _ _ _).mono ?_;rintro e w' ⟨rfl,rfl⟩)|(go_at_call 68;refine (a2r _ _ _ oZ oZ).mono ?_;rintro e w' ⟨rfl,hb⟩;have HB:=qh hb;clear hb))
   go_ret2;exact⟨by rw [HF.o];rfl,(bZ.alloc lZ _).trans (HB.o.mono sZ)⟩
  ·have HF:=qh (show P.encode k c r=((P.appendChecksum (P.num k.toNat++32::(c++62::r))).1++[10],true) by unfold P.encode;rw [h1,h2];rfl);have hn:=P.num_len k.toNat oZ;have hl:=b0m (P.num k.toNat++32::(c++62::r))
   go_enter Tryz.func147,Tryz.ntmps147
   go_wp2_with (first|(go_at_call 74;refine (a2a _ _ _ _).mono ?_;rintro e w' ⟨rfl,rfl⟩)|(go_at_call 68;refine (a2r _ _ _ oZ oZ).mono ?_;rintro e w' ⟨rfl,hb⟩;have HB:=qh hb;clear hb))
   have hb:=HB.o;have hc0:w'.cell? ⟨w.heap.size,0,none⟩=some (.string (S c)):=by rw [hb.cell (p:=⟨w.heap.size,0,none⟩) sZ];go_simp
   have hc1:w'.cell? ⟨w.heap.size,1,none⟩=some (.string (S r)):=by rw [hb.cell (p:=⟨w.heap.size,1,none⟩) sZ];go_simp
   have hsz:w.heap.size<w'.heap.size:=by have:=hb.size;simp at this;omega
   have hE1:Env w':=(HE.o.alloc _).below hb (HE.o.alloc _).size;have hb1:Below w.heap.size w w':=(bZ.alloc lZ _).trans (hb.mono sZ);clear hb;have f1:¬9223372036854775807<(P.num k.toNat).length+1:=by omega
   have f2:¬9223372036854775807<(P.num k.toNat).length+1+c.length:=by omega
   have f3:¬9223372036854775807<(P.num k.toNat).length+(c.length+1)+1:=by omega
   have f4:¬9223372036854775807<(P.num k.toNat).length+(c.length+1+1)+r.length:=by omega
   go_region_held3 (fun v=>v.cell? ⟨w.heap.size,0,none⟩=some (.string (S c))∧v.cell? ⟨w.heap.size,1,none⟩=some (.string (S r))∧w.heap.size<v.heap.size∧Env v∧Below w.heap.size w v) (first|assumption|exact⟨hc0,hc1,hsz,hE1.drewN 1,below_drewN hb1 1⟩|exact held2 (by assumption) hb)
    (first|(go_at_call 145;refine (a5e _ _ oZ oZ ?_).mono ?_;exact (by assumption:_∧_∧_∧Env _∧_).2.2.2.1;rintro e v ⟨rfl,hb⟩)|(go_at_call 219;refine (appendChecksum _ _ (by simp;omega) ?_).mono ?_;exact (by assumption:_∧_∧_∧Env _∧_).2.2.2.1;rintro e v ⟨rfl,hb⟩))
   have hx:Below w.heap.size w v:=b6v (by assumption);have HX:=qh hx;clear hx f1 f2 f3 f4;go_wp2;go_ret2;exact⟨by rw [HF.o];rfl,HX.o⟩
theorem b1b:(Tryz.prog.info? 9).map (fun i=>(i.zero,i.size,i.bytes))=some (some (.string ⟨#[]⟩),1,16):=by kernel_rfl
theorem a0v.snoc {B:Nat} {w:World} {v:Value} {l:List Str} {x:Str} (h:w.ownsRow B 9 1 v (l.length+1) (a3j l++[.string (S x)])):a0v B w v (l++[x]):=by
 unfold a0v;rw [List.length_append];simpa [a3j] using h
theorem b0u {w w1 w2:World} {v v':Value} {l:List Str} {x:Str} {o:Obj} (hsz:w.heap.size≤w1.heap.size) (hown:a0v w.heap.size w1 v l) (hb:Below w.heap.size w w1)
 (h:w2.ownsRow w.heap.size 9 1 v' (l.length+1) (a3j l++[.string (S x)])) (hg:(w1.alloc o).grownBy w2 v.ownBlock) :
 a0v w.heap.size w2 v' (l++[x])∧Below w.heap.size w w2:=
 ⟨a0v.snoc h,(hb.alloc hsz _).grown hg (by simp;omega) (fun k hk=>(World.ownsRow.lt hown k hk).1)⟩
theorem a4c (s:Str) (c:UInt8) (w:World) (hs:s.length≤2^40) :
 Calls Tryz.prog 66 #[.string (S s),.int .u8 c.toNat] w (a3g c s w):=by
 obtain⟨i0,hi,hz0,hz1,hz2⟩:=info_parts b1b
 go_enter Tryz.func66,Tryz.ntmps66
 go_wp2
 go_loopw [5,6,7] (fun v fr i wr=>∃(k f:Nat) (init:List Str),k≤s.length∧f≤k∧i=.int .i64 k∧fr=.int .i64 f∧init.length≤k∧P.split c (s.take k)=init++[(s.drop f).take (k-f)]∧a0v w.heap.size wr v init∧Below w.heap.size w wr)
  (fun _ _ i _=>s.length-(intOf i).toNat)
 case atStart=>exact⟨0,0,[],Nat.zero_le _,Nat.le_refl _,rfl,rfl,Nat.le_refl _,by simp [P.split],World.ownsRow_made _ _ _ lZ dZ (by rfl),bZ.alloc lZ _⟩
 case round=>
  exact zq8
theorem b0g (s:Str) (w:World) (hs:s.length≤2^40) :
 Calls Tryz.prog 66 #[.string (S s),.int .u8 35] w (a3g 35 s w):=a4c s 35 w hs
theorem b5j (s:Str) (w:World) (hs:s.length≤2^40) :
 Calls Tryz.prog 66 #[.string (S s),.int .u8 62] w (a3g 62 s w):=a4c s 62 w hs
theorem b5l (s:Str) (w:World) (hs:s.length≤2^40) :
 Calls Tryz.prog 66 #[.string (S s),.int .u8 10] w (a3g 10 s w):=a4c s 10 w hs
def d4q (k:Nat) (s:Str) (w:World) (e:Ending) (w':World):Prop:=
 e=.returned (.tuple #[.agg #[.string (S (P.a0u k s).1),.string (S (P.a0u k s).2.1)],.bool (P.a0u k s).2.2])∧Below w.heap.size w w'
theorem a6u {B:Nat} {w:World} {v:Value} {c:UInt8} {l:Str} (h:a0v B w v (P.split c l)):∃g cap,v=.slice (some ⟨g,0,none⟩) (P.split c l).length cap∧B≤g∧g<w.heap.size∧w.cell? ⟨g,0,none⟩=some (.string (S (P.head c l)))∧1≤(P.split c l).length:=by
 have hlen:1≤(P.split c l).length:=by
  cases hs:P.split c l with
  |nil=>exact absurd hs (P.a2p c l)
  |cons x r=>simp
 have h2:=h.2
 rcases h.2 with⟨_,h0⟩|⟨g,cap,cur,hv,hg,hh,hn,_⟩
 ·omega
 ·have hob:v.ownBlock=some g:=by rw [hv];rfl
  have hc:=World.ownsRow.cells h hob 0 (.string (S (P.head c l))) (by
   unfold a3j P.head
   cases hs:P.split c l with
   |nil=>exact absurd hs (P.a2p c l)
   |cons x r=>simp)
  have hlt:=(World.ownsRow.lt h g hob).2;exact⟨g,cap,hv,hg,hlt,by simpa [Addr.add] using hc,hlen⟩
theorem read1 {k:Nat} {s:Str} (h:(P.head 35 s).length<(P.num k).length+1∨(List.take ((P.num k).length+1) (P.head 35 s)==P.num k++[32])=false):P.a0u k s=([],[],false):=by
 unfold P.a0u;rw [if_pos]
 rcases h with h|h
 ·simp [h]
 ·simp [bne,h]
theorem read2 {k:Nat} {s:Str} (h:¬(P.head 35 s).length<(P.num k).length+1) (h2:(List.take ((P.num k).length+1) (P.head 35 s)==P.num k++[32])=true) {rest:Str} (hr:rest=List.drop ((P.num k).length+1) (P.head 35 s)) :
 P.a0u k s=if (P.head 62 rest).length=rest.length then ([],[],false) else (P.head 62 rest,rest.drop ((P.head 62 rest).length+1),P.good (P.head 62 rest) (rest.drop ((P.head 62 rest).length+1))&&(P.line k (P.head 62 rest) (rest.drop ((P.head 62 rest).length+1))==s++[10])):=by
 subst hr
 unfold P.a0u
 rw [if_neg]
 ·simp only [List.length_append,List.length_cons,List.length_nil]
 ·simp [bne,h2];omega
theorem d2j (k:Int) (s:Str) (w:World) (h0:0≤k) (hk:k<1000) (hs:s.length≤2^32) :
 Calls Tryz.prog 198 #[.string (S s),.int .i64 k] w (d4q k.toNat s w):=by
 have hn:=P.num_len k.toNat oZ
 have hh:=P.b0v 35 s
 by_cases h1:((P.head 35 s).length:Int)<((P.num k.toNat).length:Int)+1
 ·have HF:=qh (read1 (k:=k.toNat) (s:=s) (.inl oZ));exact zq36
 ·cases h2:(List.take ((P.num k.toNat).length+1) (P.head 35 s)==P.num k.toNat++[32])
  ·have HF:=qh (read1 (k:=k.toNat) (s:=s) (.inr h2));exact zq36
  ·obtain⟨rest,hrest⟩:∃rest,rest=List.drop ((P.num k.toNat).length+1) (P.head 35 s):=⟨_,rfl⟩;have hrl:rest.length≤s.length:=by rw [hrest];simp;omega
   have HR:=qh (read2 (k:=k.toNat) (s:=s) oZ h2 hrest);have HREST:=qh hrest;clear hrest;have hh2:=P.b0v 62 rest
   by_cases h3:((P.head 62 rest).length:Int)=(rest.length:Int)
   ·have HF:=qh (show P.a0u k.toNat s=([],[],false) by rw [HR.o,if_pos oZ]);have h3b:(((P.head 62 rest).length:Int)==(rest.length:Int))=true:=by simpa using h3
    clear h3
    go_enter Tryz.func198,Tryz.ntmps198
    go_wp2_with (first|(go_at_call 197;refine (b8t _ _ oZ oZ).mono ?_;rintro e w' ⟨rfl,n1,rfl⟩)|(go_at_call 66;((with_reducible refine (b0g _ _ oZ).mono ?_);rintro e w1 ⟨v,rfl,hown,hb⟩;obtain⟨g,cap,rfl,hg,hgl,hcell,hl1⟩:=a6u hown;clear hown;obtain⟨hcc,hff⟩:=a4k hb;have hz:=grew hb;have HB:=qh hb;clear hb)))
    rw [←HREST.o]
    go_wp2_with (first|(go_at_call 66;((with_reducible refine (b5j _ _ oZ).mono ?_);rintro e w2 ⟨v2,rfl,hown2,hb2⟩;obtain⟨g2,cap2,rfl,hg2,hgl2,hcell2,hl12⟩:=a6u hown2;clear hown2;obtain⟨hcc2,hff2⟩:=a4k hb2;have hz2:=Nat.lt_of_lt_of_le hz hb2.size;have HB2:=qh hb2;clear hb2)))
    refine bodyPost_ret (v:=.tuple #[.agg #[.string (S []),.string (S [])],.bool false]) (by simp [results,Tryz.results198,go_sem,hcc,hcc2,hz]) rfl ⟨by rw [HF.o],?_⟩;exact (((below_drewN (bZ.alloc lZ _) _).trans (HB.o.mono sZ)).trans (HB2.o.mono (by have:=HB.o.size;simp at this⊢;omega))).setCell sZ _ |>.setCell sZ _
   ·have h3b:(((P.head 62 rest).length:Int)==(rest.length:Int))=false:=by simpa using h3
    have h3':((P.head 62 rest).length:Int)+1≤(rest.length:Int):=by omega
    obtain⟨rep,hrep⟩:∃rep,rep=List.drop ((P.head 62 rest).length+1) rest:=⟨_,rfl⟩;have hrpl:rep.length≤rest.length:=by rw [hrep];simp
    have HF:=qh (show P.a0u k.toNat s=(P.head 62 rest,rep,P.good (P.head 62 rest) rep&&(P.line k.toNat (P.head 62 rest) rep==s++[10])) by rw [HR.o,if_neg oZ,←hrep]);have HREP:=qh hrep;clear hrep;clear h3
    go_enter Tryz.func198,Tryz.ntmps198
    go_wp2_with (first|(go_at_call 197;refine (b8t _ _ oZ oZ).mono ?_;rintro e w' ⟨rfl,n1,rfl⟩)|(go_at_call 66;((with_reducible refine (b0g _ _ oZ).mono ?_);rintro e w1 ⟨v,rfl,hown,hb⟩;obtain⟨g,cap,rfl,hg,hgl,hcell,hl1⟩:=a6u hown;clear hown;obtain⟨hcc,hff⟩:=a4k hb;have hz:=grew hb;have HB:=qh hb;clear hb)))
    rw [←HREST.o]
    go_wp2_with (first|(go_at_call 66;((with_reducible refine (b5j _ _ oZ).mono ?_);rintro e w2 ⟨v2,rfl,hown2,hb2⟩;obtain⟨g2,cap2,rfl,hg2,hgl2,hcell2,hl12⟩:=a6u hown2;clear hown2;obtain⟨hcc2,hff2⟩:=a4k hb2;have hz2:=Nat.lt_of_lt_of_le hz hb2.size;have HB2:=qh hb2;clear hb2)))
    rw [←HREP.o];have hr0:w2.cell? ⟨w.heap.size,0,none⟩=some (.string (S [])):=by rw [hcc2 _ _ hz,hcc _ _ sZ];go_simp
    have hr1:w2.cell? ⟨w.heap.size,1,none⟩=some (.string (S [])):=by rw [hcc2 _ _ hz,hcc _ _ sZ];go_simp
    have hr2:w2.frozen? ⟨w.heap.size,0,none⟩=false:=by rw [hff2 _ _ hz,hff _ _ sZ];go_simp
    have hr3:w2.frozen? ⟨w.heap.size,1,none⟩=false:=by rw [hff2 _ _ hz,hff _ _ sZ];go_simp
    have hb:Below w.heap.size w w2:=((below_drewN (bZ.alloc lZ _) _).trans (HB.o.mono sZ)).trans (HB2.o.mono oZ)
    have hS:(fun v:World=>v.cell? ⟨w2.heap.size,0,none⟩=some (.string (S (P.head 62 rest)))∧v.cell? ⟨w2.heap.size,1,none⟩=some (.string (S rep))∧v.cell? ⟨w.heap.size,0,none⟩=some (cellOf v ⟨w.heap.size,0,none⟩)∧v.cell? ⟨w.heap.size,1,none⟩=some (cellOf v ⟨w.heap.size,1,none⟩)∧v.frozen? ⟨w.heap.size,0,none⟩=false∧v.frozen? ⟨w.heap.size,1,none⟩=false∧w.heap.size<w2.heap.size∧w2.heap.size<v.heap.size∧Below w.heap.size w v) ((w2.alloc (Obj.cells #[.string (S (P.head 62 rest)),.string (S rep)] 86)).drew):=by
     refine⟨?_,?_,?_,?_,?_,?_,hz2,by simp,(hb.alloc oZ _).drew⟩
     ·go_simp
     ·go_simp
     ·exact a4x (x:=.string (S [])) (by go_simp)
     ·exact a4x (x:=.string (S [])) (by go_simp)
     ·go_simp
     ·go_simp
    clear hcc hff hcc2 hff2 HB HB2 hcell hcell2 hg hg2 hgl hgl2 HR h2 h3b hb hl1 hl12 hr0 hr1 hr2 hr3 hz;have HS:=qh hS;clear hS
    cases hgd:P.good (P.head 62 rest) rep
    case true=>
     have f8:¬9223372036854775807<s.length+1:=by omega
     first|(go_region_held3 (fun v:World=>v.cell? ⟨w2.heap.size,0,none⟩=some (.string (S (P.head 62 rest)))∧v.cell? ⟨w2.heap.size,1,none⟩=some (.string (S rep))∧v.cell? ⟨w.heap.size,0,none⟩=some (cellOf v ⟨w.heap.size,0,none⟩)∧v.cell? ⟨w.heap.size,1,none⟩=some (cellOf v ⟨w.heap.size,1,none⟩)∧v.frozen? ⟨w.heap.size,0,none⟩=false∧v.frozen? ⟨w.heap.size,1,none⟩=false∧w.heap.size<w2.heap.size∧w2.heap.size<v.heap.size∧Below w.heap.size w v) (first|assumption|exact HS.o|exact heldR (by assumption) hb|exact a9v (a9v (by assumption) _ sZ _) _ sZ _)
      (first|(go_at_call 94;refine (b1i _ _ _ (by unfold maxLen;omega) (by unfold maxLen;omega)).mono ?_;rintro e v ⟨rfl,hb⟩;rw [hgd])|(go_at_call 122;refine (d0z _ _ _ _ h0 hk oZ oZ).mono ?_;rintro e v ⟨rfl,hb⟩)))|fail
     all_goals
      obtain⟨he0,he1,heb⟩:=c0d (v:=v) (by assumption)
      generalize ((v.setCell ⟨w.heap.size,0,none⟩ (.string (S (P.head 62 rest)))).setCell ⟨w.heap.size,1,none⟩ (.string (S rep)))=wf at *
      have HEB:=qh heb;clear heb
      go_wp2
      refine bodyPost_ret (v:=.tuple #[.agg #[.string (S (P.head 62 rest)),.string (S rep)],.bool (P.line k.toNat (P.head 62 rest) rep==s++[10])]) (by simp [results,Tryz.results198,go_sem,he0,he1]) rfl ⟨by rw [HF.o,hgd];rfl,HEB.o⟩
    case false=>
     refine wp_region_held_drew (S:=fun v:World=>v.cell? ⟨w2.heap.size,0,none⟩=some (.string (S (P.head 62 rest)))∧v.cell? ⟨w2.heap.size,1,none⟩=some (.string (S rep))∧v.cell? ⟨w.heap.size,0,none⟩=some (cellOf v ⟨w.heap.size,0,none⟩)∧v.cell? ⟨w.heap.size,1,none⟩=some (cellOf v ⟨w.heap.size,1,none⟩)∧v.frozen? ⟨w.heap.size,0,none⟩=false∧v.frozen? ⟨w.heap.size,1,none⟩=false∧w.heap.size<w2.heap.size∧w2.heap.size<v.heap.size∧Below w.heap.size w v) kZ HS.o (fun hS0=>?_);refine tk 0 (.agg #[.string (S (P.head 62 rest)),.string (S rep)]) (fun z hz=>by obtain⟨z1,z2,_⟩:=hz;go_simp) hS0 ?_;refine tk 1 (.agg #[.string (S (P.head 62 rest)),.string (S rep)]) (fun z hz=>by obtain⟨z1,z2,_⟩:=hz;go_simp) hS0 ?_;refine trd 2 fun K hK=>?_;go_simp;refine (b1i _ _ _ (by unfold maxLen;omega) (by unfold maxLen;omega)).mono ?_;rintro e v ⟨rfl,hb⟩;rw [hgd];refine hK.out _ _ (heldR HS.o hb) (fun hS1=>?_);clear hK K
     try simp only [qA,qB,qC,Act.put,qD,qE,qF]
     refine tk 3 (.bool false) (fun z hz=>by obtain⟨z1,z2,_⟩:=hz;go_simp) hS1 ?_;refine tks 4 hS1 ?_;refine tks 5 hS1 ?_;refine tks 6 hS1 ?_;refine tks 7 hS1 ?_;refine tks 8 hS1 ?_;refine tks 9 hS1 ?_;refine tk 10 (.bool false) (fun z hz=>by obtain⟨z1,z2,_⟩:=hz;go_simp) hS1 ?_;refine trd 11 fun K hK=>?_;obtain⟨z1,z2,z3,z4,z5,z6,z7,z8,z9⟩:=hS1;go_simp;refine hK.out _ _ (a9v (a9v ⟨z1,z2,z3,z4,z5,z6,z7,z8,z9⟩ _ sZ _) _ sZ _) (fun hS2=>?_);clear hK K
     try simp only [qA,qB,qC,Act.put,qD,qE,qF]
     refine wpAnyH_take (i:=12) (v:=.bool false) rfl kZ kZ kZ (fun _ _ _ h=>h) (Or.inl ⟨by rfl,fun z hz=>by go_simp⟩) hS2 ?_
     try simp only [qA,qB,qC,Act.put,qD,qE,qF]
     refine wpAnyH_done kZ ?_ _;obtain⟨he0,he1,heb⟩:=c0d (v:=v) hS2;clear hS2 z1 z2 z3 z4 z5 z6 z7 z8 z9 hS0 HS hb;generalize ((v.setCell ⟨w.heap.size,0,none⟩ (.string (S (P.head 62 rest)))).setCell ⟨w.heap.size,1,none⟩ (.string (S rep)))=wf at *;have HEB:=qh heb;clear heb;go_wp2;refine bodyPost_ret (v:=.tuple #[.agg #[.string (S (P.head 62 rest)),.string (S rep)],.bool false]) (by simp [results,Tryz.results198,go_sem,he0,he1]) rfl ⟨by rw [HF.o,hgd];rfl,HEB.o⟩
end Go.Proofs.YtggfdnopminemaaGreatDoor.L
