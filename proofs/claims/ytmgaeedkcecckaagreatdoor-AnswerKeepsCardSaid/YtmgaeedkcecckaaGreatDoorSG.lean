/- A part of the proof. -/
import Derived.Test.YtmgaeedkcecckaaGreatDoorSF
import Derived.Sort.OwnSortedInts
set_option linter.unusedSimpArgs false
set_option linter.unusedVariables false
set_option linter.unusedSectionVars false
set_option maxRecDepth 100000
set_option maxHeartbeats 4000000
open List (length_map length_singleton getElem_mem replicate range length_append nil_append cons_append append_nil map_cons perm_append_comm take_of_length_le)
namespace Go.Proofs.Q
open Go.Proofs.Tryz
open Go.Eng Go.RowKit
section
open Go.Lin Go.Wd
theorem Dp{n:Int}(h:n.natAbs<256):Sz n:=by unfold Sz;rw[FA];exact bl ((Cp (b:=256) H 1 _).2 h) H
theorem AgF(a b:Int)(ha:a.natAbs=2)(hb:b.natAbs=1)(h:Hp):FnT prog 249 #[WD a,WD b] h [] (λr p m=>h.le p/\m=[]/\r=.tuple #[WD 1,WD 0,WD b]):=by
 have z:Sz a:=Dp Z;have O:Sz b:=Dp Z;have os:∀n:Int,(sv (Ba n.natAbs)).oneCell'=true:=λ_=>rfl;have i:=os a;have j:=os b;have d:(sv (Ba 0)).oneCell'=true:=rfl;have e:(sv (Ba 1)).oneCell'=true:=rfl;have f:(sv (Ba 2)).oneCell'=true:=rfl;have k:=os a.sign;have hbs:b.sign≠0:=λq=>by have:=di.1 q;omega
 refine Au func249 ntmps249 Y Y<|λ_ _=>U<|AK [_,_] Y Y ξ Y Y Y<|λg2=>AK [_,_] Y Y ξ Y Y Y<|λg3=>BJ [.bool false,.es] Y Av Y Y<|λL=>BJ [.bool false,.es] Y Av Y Y<|λA=>BJ [.bool false,.es] Y Av Y Y<|λM=>Ao<|Ak 3 Y λh1 l1 hS3=>Ak 3 Y λh2 l2 hS2=>?_;have l12:=N l1 l2;have s2:=qT hS2;have s3:∀p,h2.le p->∀c,Seg p c (⟨g3,0,none⟩:Addr) [.bool (decide (b<0)),sv (Ba b.natAbs)]:=λp q c=>((hS3.le l2).le q).any;refine X<|U<|E (oG Y Bn Av<|s3 _ (Bk) _) Y<|E (As Y call60 Y<|Df b O _ _) Y<|J Y<|Ay Y (λv=>lj v<|hbs)<|λv=>I ?_
 have Ss:Cb a.sign:=by
  have:=Int.sign_eq_one_iff_pos (a:=a);have:=Int.sign_eq_neg_one_iff_neg (a:=a);have h0:=di (a:=a);unfold Cb;rcases Int.lt_trichotomy a 0 with q|q|q
  .rw[Int.sign_eq_neg_one_of_neg q];omega
  .omega
  .rw[Int.sign_eq_one_of_pos q];omega
 refine X<|AS (n:=8) (bs:=[W,lw,lw,W,W,W,lw,lw]) [W,lw,lw,W,W,W] Cx V V Y Y<|Qp Y (oG Y Bn Av<|s2 _ (Bk) _)<|Qp Y (oG Y Bn Av<|s2 _ (Bk) _)<|Qp Y (As Y call60 Y<|Df a z _ _)<|Qp Y (As Y call95 Y<|Fy a.sign Ss _ _)<|Qo 1 Y<|Qc call114 Y (Gz a z h2)<|λu h3 ms3 l3 B=>?_;obtain⟨l3',rfl,hA⟩:=B;refine Qa<|Qo 2 Y ?_;refine Qc call145 Y (ES a.natAbs false 2 u (by rw[ha];rfl) (λ_=>rfl) h3 hA<|bl z.w H)<|λr h4 ms4 l4 B=>?_;obtain⟨l4',rfl,rfl⟩:=B;have Q:=N l3' l4';refine Qa<|Qo 6 Y ?_;refine Sa 2 [_,_] Av Y (by simp[i,j,d,e,f,k]) ?_;refine Qa<|Qo 7 Y ?_;refine Sa 1 [_,_] Av Y (by simp[i,j,d,e,f,k]) ?_;refine Qa<|Qe<|Ab<|U<|E (oG Y Bn Av<|s3 _ Q _) Y<|Qc call114 Y (Gz b O h4)<|λu5 h5 ms5 l5 B=>?_;obtain⟨l5',rfl,hB⟩:=B;have l:=hB.rd.one;refine Qc call145 Y (ES b.natAbs false 1 u5 (by rw[hb];rfl) (λ_=>rfl) h5 hB<|bl O.w H)<|λr6 h6 ms6 l6 B=>?_;obtain⟨l6',rfl,rfl⟩:=B;have y:=N Q (N l5' l6');refine E (AQ JP [.bool false,.es] [] [_,_] Y Av Y Y Qt Y) Y<|BJ [.bool false,.es] Y Av Y Y<|λS=>BJ [.bool false,.es] Y Av Y Y<|λT=>?_;refine Sa 1 [_,_] Av Y (by simp[i,j,d,e,f,k,l]) ?_;refine Sa 0 [_,_] Av Y (by simp[Value.oneCell']) ?_;refine Ao<|X<|Ag ?_;have hq1:∀h c,FnV prog 100 #[WD 2,WD 1] h c (.tuple #[WD 2,WD 0,.bool true]):=λh c=>F5 2 1 (Dp H) H H h c;have hmu:∀h c,FnV prog 141 #[WD 2,WD 0] h c (WD 0):=λh c=>IV 2 0 (Dp H) (Dp H) h c;have hsb:∀h c,FnV prog 268 #[WD a.sign,WD 0] h c (WD a.sign):=λh c=>by have:=AfV a.sign 0 (Dp (by unfold Cb at Ss;rcases Int.sign_trichotomy a with q|q|q<;>omega)) (Dp H) h c;rwa [Int.sub_zero]at this
 refine AC (λq sl p m=>∃(g r x u:Int),((g=2/\r=1/\x=a.sign/\u=0)\/(g=1/\r=0/\x=0/\u=a.sign))/\r.natAbs=q/\sl=[(2,.pt g2),(3,.pt g3),(4,.pt L),(5,.pt A),(6,.pt M),(7,.pt S),(8,.pt T)]/\h6.le p/\m=[BE T 33 (Bg u),BE S 33 (Bg r),BE M 33 (Bg 0),BE A 33 (Bg x),BE L 33 (Bg g)])
  1 _ ⟨2,1,a.sign,0,.inl ⟨rfl,rfl,rfl,rfl⟩,rfl,rfl,Bk,rfl⟩ Qs ?_
 rintro q sl p m ⟨g,r,x,u,v,rfl,rfl,lq,rfl⟩;rcases v with ⟨rfl,rfl,rfl,rfl⟩|⟨rfl,rfl,rfl,rfl⟩
 .refine X<|U<|E (oG Y Bn Av<|Seg.blk 1 Y) Y<|E (As Y call60 Y<|Df 1 (Dp H) _ _) Y<|J Y<|Ay Y (λv=>?_)<|λv=>lj (H) v;refine I<|Ag<|U<|E (oG Y Bn Av<|Seg.blk 4 Y) Y<|E (oG Y Bn Av<|Seg.blk 1 Y) Y<|E (As Y call100 Y<|hq1 _ _) Y<|D Y Y<|D Y Y<|BJ [.bool false,.es] Y Av Y Y<|λg9=>BJ [.bool false,.es] Y Av Y Y<|λg10=>?_;refine Sa 1 [_,_] Av Y (by simp[i,j,d,e,f,k,l]) ?_;refine Sa 0 [_,_] Av Y (by simp[i,j,d,e,f,k,l]) ?_;refine J Y<|Ak 0 Y λh7 l7 P=>Ak 0 Y λh8 l8 hS9=>?_;have l68:=N lq (N l7 l8);have s10:∀c,Seg h8 c (⟨g10,0,none⟩:Addr) (Bg 0):=λc=>(P.le l8).any;have s9:∀c,Seg h8 c (⟨g9,0,none⟩:Addr) (Bg 2):=λc=>hS9.any;refine X<|AS (n:=4) (bs:=[lw,W,lw,lw]) [false,true] Cx V V Y Y<|Qp Y (oG Y Bn Av<|s10 _)<|Qo 0 Y<|E (oG Y Bn Av<|Seg.blk 1 Y) Y<|Qw<|Qo 2 Y ?_;refine Sa 4 [_,_] Av Y (by simp[i,j,d,e,f,k,l]) ?_;refine Qw<|Qo 3 Y ?_;refine Sa 1 [_,_] Av Y (by simp[i,j,d,e,f,k,l]) ?_;refine Qw<|Qe<|Ab<|AS (n:=8) (bs:=[lw,lw,W,lw,lw,lw,lw,lw]) [lw,lw,W] Cx V V Y Y<|Qp Y (oG Y Bn Av<|s9 _) ?_;unfold C5;simp only[bg,aw]
  repeat' (first|((first|refine AO [0,1,3] χ Y<|Al Y ?_<|Al Y ?_<|Al Y ?_ AN|refine AO [1,3] χ Y<|Al Y ?_<|Al Y ?_ AN|refine AO [3] χ Y<|Al Y ?_ AN|refine AO [4] χ Y<|Al Y ?_ AN|refine AO [5] χ Y<|Al Y ?_ AN|refine AO [6] χ Y<|Al Y ?_ AN|refine AO [7] χ Y<|Al Y ?_ AN|refine AO [1,4] χ Y<|Al Y ?_<|Al Y ?_ AN|refine AO [1] χ Y<|Al Y ?_ AN|refine AO [0,3] χ Y<|Al Y ?_<|Al Y ?_ AN|refine AO [0,4] χ Y<|Al Y ?_<|Al Y ?_ AN|refine AO [0,5] χ Y<|Al Y ?_<|Al Y ?_ AN|refine AO [0] χ Y<|Al Y ?_ AN|refine AO [0,1,4] χ Y<|Al Y ?_<|Al Y ?_<|Al Y ?_ AN|refine AO [0,1] χ Y<|Al Y ?_<|Al Y ?_ AN)<;>(first|(refine Zd (oG Y Bn Av (by first|exact Seg.blk 0 rfl|exact Seg.blk 3 Y)) Y Y Y ?_;refine Am<|Hn (Bk) ?_)|(refine Zd (As Y call141 Y<|hmu _ _) Y Y Y ?_;refine Am<|Hn (Bk) ?_)|(refine Zd (As Y call268 Y<|hsb _ _) Y Y Y ?_;refine Am<|Hn (Bk) ?_)|((first|refine Sa 0 [_,_] Av Y (by simp[i,j,d,e,f,k,l]) ?_|refine Sa 3 [_,_] Av Y (by simp[i,j,d,e,f,k,l]) ?_);refine Am<|Hn (Bk) ?_)))|(refine SJ χ ?_;refine Ai ?_;exact Aq 0 _ H ⟨1,0,0,a.sign,.inr ⟨Y,Y,Y,Y⟩,Y,Y,l68,Y⟩ Qs))
 .refine X<|U<|E (oG Y Bn Av<|Seg.blk 1 Y) Y<|E (As Y call60 Y<|Df 0 (Dp H) _ _) Y<|J Y<|Ay Y (λv=>lj v<|H)<|λv=>C<|Ab<|Et 4 Y<|MA λhL lL lG dG LG=>?_;have s4:∀p,hL.le p->∀c,Seg p c (⟨L,0,none⟩:Addr) (Bg 1):=λp q c=>(Seg.ofLe (N lG q)).any;have K:=N lq lL;have hq2:∀h c,FnV prog 100 #[WD 1,WD 1] h c (.tuple #[WD 1,WD 0,.bool true]):=λh c=>F5 1 1 (Dp H) H H h c;have hq3:∀h c,FnV prog 100 #[WD 0,WD 1] h c (.tuple #[WD 0,WD 0,.bool true]):=λh c=>F5 0 1 (Dp H) H H h c
  have hq4:∀h c,FnV prog 100 #[WD 1,WD b] h c (.tuple #[WD b,WD 0,.bool true]):=λh c=>by have:=F5 1 b (Dp H) Z Z h c;rcases (Z:b=1\/b=-1) with rfl|rfl<;>exact this
  have hm2:∀h c,FnV prog 141 #[WD 0,WD a] h c (WD 0):=λh c=>by have:=IV 0 a (Dp H) z h c;rwa [iu]at this
  have hs2:∀h c,FnV prog 268 #[WD 1,WD 0] h c (WD 1):=λh c=>AfV 1 0 (Dp H) (Dp H) h c;refine Bu (λs hh m=>∃gw,s=[(2,.pt g2),(3,.pt g3),(4,.pt L),(5,.pt A),(6,.pt M),(12,.pt gw)]/\hL.le hh/\m=[BE T 33 (Bg a.sign),BE S 33 (Bg 0),BE M 33 (Bg 0),BE A 33 (Bg 0)]/\∀c,Seg hh c (⟨gw,0,none⟩:Addr) (Bg 1)) ?_<|λs h c hI=>?_
  .refine AS (n:=14) (bs:=[W,lw,lw,W,lw,lw,lw,lw,lw,lw,lw,lw,lw,lw]) [W,lw,lw,W] Cx V V Y Y<|Qp Y (oG Y Bn Av<|s3 _ (N y K) _)<|Qp Y (oG Y Bn Av<|s4 _ (Bk) _) ?_;unfold C5;simp only[bg,aw]
   repeat' (first|refine A7 4 58 χ Y (by assumption) Y (As Y call100 Y<|hq2 _ _) ?_|refine A7 5 53 χ Y (by assumption) Y (Ap Y Y) ?_|refine A7 6 59 χ Y (by assumption) Y (Bo Y Y Y) ?_|refine A7 7 60 χ Y (by assumption) Y (Bo Y Y Y) ?_|refine A7 8 61 χ Y (by assumption) Y (Bo Y Y Y) ?_|((first|refine AO [1,9,10] χ Y<|Al Y ?_<|Al Y ?_<|Al Y ?_ AN|refine AO [2,9,10] χ Y<|Al Y ?_<|Al Y ?_<|Al Y ?_ AN|refine AO [9,10] χ Y<|Al Y ?_<|Al Y ?_ AN|refine AO [10] χ Y<|Al Y ?_ AN|refine AO [11] χ Y<|Al Y ?_ AN|refine AO [12] χ Y<|Al Y ?_ AN|refine AO [13] χ Y<|Al Y ?_ AN|refine AO [9] χ Y<|Al Y ?_ AN|refine AO [2,10] χ Y<|Al Y ?_<|Al Y ?_ AN|refine AO [2] χ Y<|Al Y ?_ AN|refine AO [2,9] χ Y<|Al Y ?_<|Al Y ?_ AN|refine AO [1,10] χ Y<|Al Y ?_<|Al Y ?_ AN|refine AO [1] χ Y<|Al Y ?_ AN|refine AO [1,9] χ Y<|Al Y ?_<|Al Y ?_ AN)<;>(first|(refine Qc call114 Y (Gz b O hL)<|λu9 h9 ms9 l9 hF9=>?_;obtain⟨l9',rfl,hB9⟩:=hF9;refine Am<|Hn (by assumption) ?_)|(refine Qc call145 Y (ES b.natAbs false 1 u9 (by rw[hb];rfl) (λ_=>rfl) h9 hB9<|bl O.w H)<|λr9 hA msA lA hFA=>?_;obtain⟨lA',rfl,rfl⟩:=hFA;have R:=N l9' lA';refine Am<|Hn (by assumption) ?_)|(refine TX [.bool false,.es] Y Av Y Y Y Y<|λg12=>?_;refine Am<|Hn (by first|exact Bk|assumption) ?_)|((first|refine IG 0 [_,_] Y Av Y Y Y (by first|(simp[i,j,d,e,f,k,l];done)|simp[Value.oneCell',i,j,d,e,f,k,l]) rfl rfl rfl rfl rfl ?_|refine IG 1 [_,_] Y Av Y Y Y (by first|(simp[i,j,d,e,f,k,l];done)|simp[Value.oneCell',i,j,d,e,f,k,l]) rfl rfl rfl rfl rfl ?_);refine Am<|Hn (by assumption) ?_)|(refine G Y ?_;refine Am<|Hn (by assumption) ?_)))|(refine SJ χ ?_;refine IE 0 Y λhC lC hqC=>IE 0 Y λhD lD hqD=>?_;(first|exact AI _ ⟨_,Y,N R<|N lC lD,Y,λc=>(hqC.le lD).any⟩ Qs|exact AI _ ⟨_,Y,N R<|N lC lD,Y,λc=>hqD.any⟩ Qs)))
  .obtain⟨gw,rfl,l9,rfl,hsw⟩:=hI;have lE:=N l12 (N y lq);refine U<|E (oG Y Bn Av<|Seg.blk 3 Y) Y<|E (oG Y Bn Av<|hsw _) Y<|E (As Y call100 Y<|hq3 _ _) Y<|D Y Y<|D Y Y ?_;refine Sa 3 [_,_] Av Y (by simp[i,j,d,e,f,k,l]) ?_;refine Ao<|Et 3 Y<|MA λhM lM lN dN LN=>?_;have t:=N l9 lM;have s5:∀p,hM.le p->∀c,Seg p c (⟨A,0,none⟩:Addr) (Bg 0):=λp q c=>(Seg.ofLe (N lN q)).any;refine X<|AS (n:=12) (bs:=[W,W,W,lw,lw,W,lw,lw,lw,lw,lw,lw]) [W,W,W,lw,lw,W] Cx V V Y Y<|Qp Y (oG Y Bn Av<|s4 _ t _)<|Qp Y (oG Y Bn Av<|s5 _ (Bk) _)<|Qp Y (oG Y Bn Av<|s2 _ (N y<|N K t) _)<|Qp Y (oG Y Bn Av<|s3 _ (N y<|N K t) _)<|Qo 3 Y<|E (As Y call141 Y<|hm2 _ _) Y<|Qw<|Qo 4 Y<|E (As Y call268 Y<|hs2 _ _) Y<|Qw<|Qo 6 Y<|E (As Y call100 Y<|hq4 _ _) Y<|Qw<|A7 7 69 V Y (Bk) Y (Ap Y Y)<|A7 8 77 V Y (Bk) Y (Bo Y Y Y)<|A7 9 78 V Y (Bk) Y (Bo Y Y Y)<|A7 10 79 V Y (Bk) Y (Bo Y Y Y)<|Qo 11 Y ?_;refine Sa 2 [_,_] Av Y (by simp[i,j,d,e,f,k,l]) ?_;refine Qw<|Qe<|Ab<|MN LN lN λhN qN bN=>MN LG (bN _ (N lG t)<|Lb (N lG l9) dN) λhO qO bO=>?_;have lF:=bO _ (bN _ (N lE (N lL t)) (Lb (N lE (N lL l9)) dN)) (Lb lE dG);refine Bu (λs hh m=>s=[(4,.pt L),(5,.pt A),(6,.pt M)]/\hO=hh/\m=[BE L 33 (Bg 1),BE A 33 (Bg 0),BE T 33 (Bg a.sign),BE S 33 (Bg 0),BE M 33 (Bg b)]) ?_<|λs h c hI=>?_
   .refine AS (n:=6) (bs:=[lw,lw,lw,lw,lw,lw]) [] Cx V V Y Y ?_;unfold C5;simp only[bg,aw]
    repeat' (first|((first|refine AO [0,1,2] χ Y<|Al Y ?_<|Al Y ?_<|Al Y ?_ AN|refine AO [1,2,3] χ Y<|Al Y ?_<|Al Y ?_<|Al Y ?_ AN|refine AO [2,3] χ Y<|Al Y ?_<|Al Y ?_ AN|refine AO [3] χ Y<|Al Y ?_ AN|refine AO [4] χ Y<|Al Y ?_ AN|refine AO [5] χ Y<|Al Y ?_ AN|refine AO [2,4] χ Y<|Al Y ?_<|Al Y ?_ AN|refine AO [2] χ Y<|Al Y ?_ AN|refine AO [1,3] χ Y<|Al Y ?_<|Al Y ?_ AN|refine AO [1] χ Y<|Al Y ?_ AN|refine AO [1,2] χ Y<|Al Y ?_<|Al Y ?_ AN|refine AO [0,2] χ Y<|Al Y ?_<|Al Y ?_ AN|refine AO [0] χ Y<|Al Y ?_ AN|refine AO [0,1] χ Y<|Al Y ?_<|Al Y ?_ AN)<;>(first|(refine Zd (oG Y Bn Av (by first|exact Seg.blk 0 rfl|exact Seg.blk 1 rfl|exact Seg.blk 4 Y)) Y Y Y ?_;refine Am<|Hn (Bk) ?_)|((first|refine Sa 0 [_,_] Av Y (by simp[i,j,d,e,f,k,l]) ?_|refine Sa 1 [_,_] Av Y (by simp[i,j,d,e,f,k,l]) ?_|refine Sa 4 [_,_] Av Y (by simp[i,j,d,e,f,k,l]) ?_);refine Am<|Hn (Bk) ?_)))|(refine SJ χ ?_;exact AI _ ⟨Y,Y,Y⟩ Qs))
   .obtain⟨rfl,rfl,rfl⟩:=hI;refine Aj<|Eo 2 Y<|AU<|Eo 2 Y<|AU<|ZM (vs:=Bg 1) (vs2:=Bg 0) (vs3:=Bg b) Y Y Y Y Bn Y Av Y Y Y ⟨lF,Y,Y⟩
theorem AfI(a b:Int)(d:a.natAbs=2)(e:b.natAbs=1)(h:Hp)(c:List Hp):FnV prog 249 #[WD a,WD b] h c (.tuple #[WD 1,WD 0,WD b]):=D9 ((AgF a b d e h).mono λ_ _ _ h=>h.2.2) c
open Go.Sm
variable {x:Int}
theorem ON(h:¬Uf x=false):x.natAbs<2147483648:=by
 unfold Uf at h;cases hb:Nat.blt x.natAbs 2147483648 with
 | true=>rwa [jy]at hb
 | false=>exact lj hb h
theorem G5(h:x.natAbs<2147483648):Sz x:=Sz.of (B:=31) h H
theorem SF{y:Int}(d:y.natAbs<2147483648):(y/x).natAbs<4294967296:=by
 have a:(y/x).natAbs<=y.natAbs+1:=by
  by_cases b:x=0
  .subst b;rw[Int.ediv_zero];simp
  .obtain⟨a,_⟩:=OF (a:=y) (b:=x) (m:=y.natAbs) (k:=x.natAbs) b Y Y;have c:=jq y.natAbs x.natAbs;rw[a];split<;>omega
 omega
theorem bq_one:Bq 32 1:=show(1:Int).natAbs<2^32 by decide
theorem KM{a b:Int}(d:b≠0):(a%b).natAbs<=b.natAbs:=by obtain⟨_,_,c,_⟩:=OF (a:=a) (b:=b) (m:=a.natAbs) (k:=b.natAbs) d Y Y;have:=f6 a.natAbs (show 0<b.natAbs by omega);rw[c];split<;>omega
theorem Aax(k:Wk)(s L:St)(i j:Nat)(x y:Int)(r:Bool)(h:Hp)(a:List Hp)(I:k.In h)(hO:s.S.Ok k.n k.m (33*s.b+33))(c:Mj (λT=>s.row k.n k.m i j T) x y s=some (L,r))(hi:i<k.n)(hj:j<k.n)(hij:i≠j)(F:FsO k s.S a) :
  L.S.Ok k.n k.m (33*L.b+33)/\FnT prog 227 #[WD x,WD y,.w i,.w j,.func (.func 185) #[.pointer (some ⟨k.g,0,none⟩)] #[]] h a (λv b ms'=>h.le b/\v=.bool r/\FsO k L.S ms'):=by
 have hn:=I.hn;have hm:=I.hm;have os:=λn:Int=>AA (Ba n.natAbs);have f:=os x;have g:=os y;unfold Mj at c
 have hyz:y.natAbs<2147483648\/y=0:=by
  by_cases h0:y=0
  .exact .inr h0
  .rw[af h0]at c;split at c
   .cases c
   .rename_i M;exact .inl<|ON λq=>M<|.inr<|.inr q
 have hy31:y.natAbs<2147483648:=by rcases hyz with h|h;exact h;subst h;decide
 have Sy:=G5 hy31;obtain⟨mu,S,md,mv,mvi,rfl,Vu,Vui,Vd,Vv,Vvi⟩:=F;have F:FsO k s.S [mu,S,md,mv,mvi]:=⟨mu,S,md,mv,mvi,Y,Vu,Vui,Vd,Vv,Vvi⟩
 have fin:∀(T:Tn),BqT T->s.row k.n k.m i j T=some L->s.b<20000/\L.S=s.S.rop k.n k.m i j T/\L.S.Ok k.n k.m (33*L.b+33):=λT hT e=>by
  unfold St.row at e;split at e
  .rename_i hb;rw[jy]at hb;have e:=ay e;subst e;exact⟨hb,Y,by have:=hO.rop hT hi hj hij;rw[show 33*(s.b+1)+33=33*s.b+33+33 by omega];exact this⟩
  .cases e
 by_cases h0:y=0
 .rw[ah h0]at c;obtain⟨rfl,rfl⟩:s=L/\false=r:=by simpa using c
  refine⟨hO,?_⟩;subst h0;refine Au func227 ntmps227 Y Y<|λ_ _=>U<|AK [_,_] Y Y ξ Y Y Y<|λg5=>AK [_,_] Y Y ξ Y Y Y<|λg6=>J Y<|Ak 0 Y λM l1 t=>?_;have s6:∀a,Seg M a (⟨g6,0,none⟩:Addr) (Bg 0):=λa=>Seg.any t;refine X<|U<|E (oG Y Bn Av<|s6 _) Y<|E (As Y call60 Y<|Df 0 Sy _ _) Y<|J Y<|Ay Y (λc=>?_)<|λc=>lj (Y) c;refine U<|J Y<|Aj<|Ae<|AU<|Ar Y Y (⟨l1,Y,F⟩)
 .rw[af h0]at c;by_cases M:x=0\/Uf x=false\/Uf y=false
  .rw[ah M]at c;cases c
  .rw[af M]at c;have P:x≠0:=λq=>M (.inl q);have hx31:=ON λq=>M (.inr (.inl q));have Sx:=G5 hx31;have hyx:y.sign≠0:=λq=>h0 (di.1 q);have hq31:=SF (x:=x) hy31;have Sq:Sz (y/x):=Sz.of (B:=32) hq31 H;have hr0:=Int.emod_nonneg y P
   have hr1:(y%x).natAbs<2147483648:=by have:=KM (a:=y) P;omega
   have Sr:=G5 hr1;have o1:=AA (Ba 1);have A:=os (y/x);have d:=os (y%x);have onq:=os (-(y/x));by_cases O:y%x=0
   .rw[ah O]at c;obtain⟨s2,e2,e3⟩:=ff.1 c;obtain⟨rfl,rfl⟩:s2=L/\false=r:=by simpa using e3
    have hT:BqT ⟨1,0,-(y/x),1⟩:=⟨bq_one,Bq.zero _,Bq.neg hq31,bq_one⟩
    obtain⟨hb,hS,hOk⟩:=fin _ hT e2;refine⟨hOk,?_⟩;refine Au func227 ntmps227 Y Y<|λ_ _=>U<|AK [_,_] Y Y ξ Y Y Y<|λg5=>AK [_,_] Y Y ξ Y Y Y<|λg6=>J Y<|Ak 0 Y λM l1 t=>Ak 0 Y λh2 l2 hS5=>?_;have t:=t.le l2;have K:=N l1 l2;have s5:∀b,h2.le b->∀a,Seg b a (⟨g5,0,none⟩:Addr) (Bg x):=λb l a=>Seg.any (hS5.le l);have s6:∀b,h2.le b->∀a,Seg b a (⟨g6,0,none⟩:Addr) (Bg y):=λb l a=>Seg.any (t.le l);refine X<|U<|E (oG Y Bn Av<|s6 _ (Bk) _) Y<|E (As Y call60 Y<|Df y Sy _ _) Y<|J Y<|Ay Y (λc=>lj c<|hyx)<|λc=>Cg<|U<|E (As Y call95 Y<|Fy 1 H _ _) Y<|BJ [.bool false,.es] Y Av Y Y<|λg11=>?_;refine Sa 0 [_,_] Av Y (by simp[f,g,o1,A,d,onq]) ?_;refine Ao<|Ak 0 Y λh3 l3 hS11=>?_;have l23:=l3;have s11:∀b,h3.le b->∀a,Seg b a (⟨g11,0,none⟩:Addr) (Bg 1):=λb l a=>Seg.any (hS11.le l);refine X<|U<|E (oG Y Bn Av<|s6 _ l3 _) Y<|E (oG Y Bn Av<|s5 _ l3 _) Y<|E (As Y call100 Y<|F5 y x Sy P Z _ _) Y<|D Y Y<|D Y Y<|BJ [.bool false,.es] Y Av Y Y<|λg12=>BJ [.bool false,.es] Y Av Y Y<|λg13=>?_;refine Sa 1 [_,_] Av Y (by simp[f,g,o1,A,d,onq]) ?_;refine Sa 0 [_,_] Av Y (by simp[f,g,o1,A,d,onq]) ?_;refine J Y<|Ak 0 Y λh4 l4 B=>Ak 0 Y λh5 l5 hS12=>?_;have l35:=N l4 l5;have u:=N l3 l35;have s12:∀a,Seg h5 a (⟨g12,0,none⟩:Addr) (Bg (y/x)):=λa=>Seg.any hS12;have s13:∀a,Seg h5 a (⟨g13,0,none⟩:Addr) (Bg (y%x)):=λa=>Seg.any (B.le l5);have hrz:(y%x).sign=0:=di.2 O;refine U<|D Y Y<|Qg (oG Y Bn Av<|s13 _) Y<|Qg (As Y call60 Y<|Df (y%x) Sr _ _) Y<|Qg (Cq Y Y Y) Y<|J Y<|Ay Y (λc=>?_)<|λc=>lj (hrz) c;have I5:=(I.le K).le u;refine X<|AS (n:=10) (bs:=[W,W,W,W,W,W,W,W,W,lw]) [W,W,W,W,W,W,W,W,W] Cx V V Y Y<|Qq Y<|Qq Y<|Qq Y<|Qp Y (oG Y Bn Av<|s11 _ l35 _)<|Qp Y (AQ JP [.bool false,.es] [] [_,_] Y Av Y Y Qt Y)<|Qp Y (oG Y Bn Av<|s12 _)<|Qp Y (As Y call231 Y<|J2 (y/x) Sq _ _)<|Qp Y (oG Y Bn Av<|s11 _ l35 _)<|Qp Y (AQ Mc [.bool false,.es,.bool false,.es,.bool false,.es,.bool false,.es] [(0,_),(2,_),(4,_),(6,_)] [_,_,_,_,_,_,_,_] Y DL Y Y Qt Y)<|Qo 9 Y<|EC (pre:=[mu,S,md,mv,mvi]) Y Y call185 Y (OI k s.S i j (33*s.b+33) ⟨1,0,-(y/x),1⟩ h5 _ I5 hO hT Z hi hj hij F) Y Y Y Y<|λz h6 ms6 l6 hF=>?_;obtain⟨l6',hF6⟩:=hF;refine Qa<|Qe<|Ab<|U<|J Y<|Aj<|Ae ?_;exact Ar Y Y (⟨N K (N u l6'),Y,by rw[List.append_nil,hS];exact hF6⟩)
   .rw[af O]at c;split at c
    .rename_i h3;obtain⟨s2,e2,e3⟩:=ff.1 c;obtain⟨rfl,rfl⟩:s2=L/\true=r:=by simpa using e3
     have hT:BqT ⟨0,y,-y,x⟩:=⟨Bq.zero _,show y.natAbs<2^32 by omega,Bq.neg (show y.natAbs<2^32 by omega),show x.natAbs<2^32 by omega⟩
     obtain⟨hb,hS,hOk⟩:=fin _ hT e2;refine⟨hOk,?_⟩;have m:=os (-y);have p:=AA (Ba 0);refine Au func227 ntmps227 Y Y<|λ_ _=>U<|AK [_,_] Y Y ξ Y Y Y<|λg5=>AK [_,_] Y Y ξ Y Y Y<|λg6=>J Y<|Ak 0 Y λM l1 t=>Ak 0 Y λh2 l2 hS5=>?_;have t:=t.le l2;have K:=N l1 l2;have s5:∀b,h2.le b->∀a,Seg b a (⟨g5,0,none⟩:Addr) (Bg x):=λb l a=>Seg.any (hS5.le l);have s6:∀b,h2.le b->∀a,Seg b a (⟨g6,0,none⟩:Addr) (Bg y):=λb l a=>Seg.any (t.le l);refine X<|U<|E (oG Y Bn Av<|s6 _ (Bk) _) Y<|E (As Y call60 Y<|Df y Sy _ _) Y<|J Y<|Ay Y (λc=>lj c<|hyx)<|λc=>Cg<|U<|E (As Y call95 Y<|Fy 1 H _ _) Y<|BJ [.bool false,.es] Y Av Y Y<|λg11=>?_;refine Sa 0 [_,_] Av Y (by simp[f,g,o1,A,d,m,p]) ?_;refine Ao<|Ak 0 Y λh3_ l3 hS11=>X<|U<|E (oG Y Bn Av<|s6 _ l3 _) Y<|E (oG Y Bn Av<|s5 _ l3 _) Y<|E (As Y call100 Y<|F5 y x Sy P Z _ _) Y<|D Y Y<|D Y Y<|BJ [.bool false,.es] Y Av Y Y<|λg12=>BJ [.bool false,.es] Y Av Y Y<|λg13=>?_;refine Sa 1 [_,_] Av Y (by simp[f,g,o1,A,d,m,p]) ?_;refine Sa 0 [_,_] Av Y (by simp[f,g,o1,A,d,m,p]) ?_;refine J Y<|Ak 0 Y λh4 l4 B=>Ak 0 Y λh5 l5 hS12=>?_;have u:=N l3 (N l4 l5);have s13:∀a,Seg h5 a (⟨g13,0,none⟩:Addr) (Bg (y%x)):=λa=>Seg.any (B.le l5);have hrz:(y%x).sign≠0:=λq=>O (di.1 q);refine U<|D Y Y<|Qg (oG Y Bn Av<|s13 _) Y<|Qg (As Y call60 Y<|Df (y%x) Sr _ _) Y<|Qg (Cq Y Y Y) Y<|J Y<|Ay Y (λc=>lj c<|hrz)<|λc=>Cg<|U<|E (oG Y Bn Av<|s5 _ u _) Y<|E (oG Y Bn Av<|s6 _ u _) Y<|E (As Y call249 Y<|AfI x y h3.1 h3.2 _ _) Y<|D Y Y<|D Y Y<|BJ [.bool false,.es] Y Av Y Y<|λg15=>BJ [.bool false,.es] Y Av Y Y<|λg16=>BJ [.bool false,.es] Y Av Y Y<|λg17=>?_;refine Sa 2 [_,_] Av Y (by simp[f,g,o1,A,d,m,p]) ?_;refine Sa 1 [_,_] Av Y (by simp[f,g,o1,A,d,m,p]) ?_;refine Sa 0 [_,_] Av Y (by simp[f,g,o1,A,d,m,p]) ?_;refine Ao<|Ak 0 Y λh6 l6 hS17=>Ak 0 Y λh7 l7 hS16=>Ak 0 Y λh8 l8 hS15=>?_;have Q:=N u (N l6 (N l7 l8));have s15:∀b,h8.le b->∀a,Seg b a (⟨g15,0,none⟩:Addr) (Bg 1):=λb l a=>Seg.any (hS15.le l);have s16:∀b,h8.le b->∀a,Seg b a (⟨g16,0,none⟩:Addr) (Bg 0):=λb l a=>Seg.any ((hS16.le l8).le l);have s17:∀b,h8.le b->∀a,Seg b a (⟨g17,0,none⟩:Addr) (Bg y):=λb l a=>Seg.any ((hS17.le (N l7 l8)).le l)
     have hqx:∀h a,FnV prog 100 #[WD x,WD 1] h a (.tuple #[WD x,WD 0,.bool true]):=λh a=>by
      have:=F5 x 1 Sx H H h a
      rwa [Int.ediv_one,Int.emod_one]at this
     have hqy:∀h a,FnV prog 100 #[WD y,WD 1] h a (.tuple #[WD y,WD 0,.bool true]):=λh a=>by
      have:=F5 y 1 Sy H H h a
      rwa [Int.ediv_one,Int.emod_one]at this
     refine U<|E (oG Y Bn Av<|s5 _ Q _) Y<|E (oG Y Bn Av<|s15 _ (Bk) _) Y<|E (As Y call100 Y<|hqx _ _) Y<|D Y Y<|D Y Y<|BJ [.bool false,.es] Y Av Y Y<|λg18=>BJ [.bool false,.es] Y Av Y Y<|λg19=>?_;refine Sa 1 [_,_] Av Y (by simp[f,g,o1,A,d,m,p]) ?_;refine Sa 0 [_,_] Av Y (by simp[f,g,o1,A,d,m,p]) ?_;refine J Y<|Ak 0 Y λh9 l9 hS19=>Ak 0 Y λhA lA hS18=>?_;have l8A:=N l9 lA;have s18:∀b,hA.le b->∀a,Seg b a (⟨g18,0,none⟩:Addr) (Bg x):=λb l a=>Seg.any (hS18.le l);refine U<|E (oG Y Bn Av<|s6 _ (N Q l8A) _) Y<|E (oG Y Bn Av<|s15 _ l8A _) Y<|E (As Y call100 Y<|hqy _ _) Y<|D Y Y<|D Y Y<|BJ [.bool false,.es] Y Av Y Y<|λg21=>BJ [.bool false,.es] Y Av Y Y<|λg22=>?_;refine Sa 1 [_,_] Av Y (by simp[f,g,o1,A,d,m,p]) ?_;refine Sa 0 [_,_] Av Y (by simp[f,g,o1,A,d,m,p]) ?_;refine J Y<|Ak 0 Y λhB lB hS22=>Ak 0 Y λhC lC hS21=>?_;have lAC:=N lB lC;have R:=N l8A lAC;have s21:∀a,Seg hC a (⟨g21,0,none⟩:Addr) (Bg y):=λa=>Seg.any hS21;have I5:=(I.le K).le (N Q R);refine X<|AS (n:=10) (bs:=[W,W,W,W,W,W,W,W,W,lw]) [W,W,W,W,W,W,W,W,W] Cx V V Y Y<|Qq Y<|Qq Y<|Qq Y<|Qp Y (oG Y Bn Av<|s16 _ R _)<|Qp Y (oG Y Bn Av<|s17 _ R _)<|Qp Y (oG Y Bn Av<|s21 _)<|Qp Y (As Y call231 Y<|J2 y Sy _ _)<|Qp Y (oG Y Bn Av<|s18 _ lAC _)<|Qp Y (AQ Mc [.bool false,.es,.bool false,.es,.bool false,.es,.bool false,.es] [(0,_),(2,_),(4,_),(6,_)] [_,_,_,_,_,_,_,_] Y DL Y Y Qt Y)<|Qo 9 Y<|EC (pre:=[mu,S,md,mv,mvi]) Y Y call185 Y (OI k s.S i j (33*s.b+33) ⟨0,y,-y,x⟩ hC _ I5 hO hT Z hi hj hij F) Y Y Y Y<|λz hD ms6 lD hF=>?_;obtain⟨lD',hF6⟩:=hF;refine Qa<|Qe<|Ab<|U<|J Y<|Aj ?_;exact Ar Y Y (⟨N K (N (N Q R) lD'),Y,by rw[List.append_nil,hS];exact hF6⟩)
    .cases c
end
section
open Go.Lin Go.Wd Go.Sm
theorem ZP(k:Wk)(s L:St)(i j:Nat)(x y:Int)(r:Bool)(h:Hp)(a:List Hp)(I:k.In h)(hO:s.S.Ok k.n k.m (33*s.b+33))(c:Mj (λT=>s.col k.n k.m i j T) x y s=some (L,r))(hi:i<k.m)(hj:j<k.m)(hij:i≠j)(F:FsO k s.S a) :
  L.S.Ok k.n k.m (33*L.b+33)/\FnT prog 227 #[WD x,WD y,.w i,.w j,.func (.func 226) #[.pointer (some ⟨k.g,0,none⟩)] #[]] h a (λv b ms'=>h.le b/\v=.bool r/\FsO k L.S ms'):=by
 have hn:=I.hn;have hm:=I.hm;have os:=λn:Int=>AA (Ba n.natAbs);have f:=os x;have g:=os y;unfold Mj at c
 have hyz:y.natAbs<2147483648\/y=0:=by
  by_cases h0:y=0
  .exact .inr h0
  .rw[af h0]at c;split at c
   .cases c
   .rename_i M;exact .inl<|ON λq=>M<|.inr<|.inr q
 have hy31:y.natAbs<2147483648:=by rcases hyz with h|h;exact h;subst h;decide
 have Sy:=G5 hy31;obtain⟨mu,S,md,mv,mvi,rfl,Vu,Vui,Vd,Vv,Vvi⟩:=F;have F:FsO k s.S [mu,S,md,mv,mvi]:=⟨mu,S,md,mv,mvi,Y,Vu,Vui,Vd,Vv,Vvi⟩
 have fin:∀(T:Tn),BqT T->s.col k.n k.m i j T=some L->s.b<20000/\L.S=s.S.cop k.n k.m i j T/\L.S.Ok k.n k.m (33*L.b+33):=λT hT e=>by
  unfold St.col at e;split at e
  .rename_i hb;rw[jy]at hb;have e:=ay e;subst e;exact⟨hb,Y,by have:=hO.cop hT hi hj hij;rw[show 33*(s.b+1)+33=33*s.b+33+33 by omega];exact this⟩
  .cases e
 by_cases h0:y=0
 .rw[ah h0]at c;obtain⟨rfl,rfl⟩:s=L/\false=r:=by simpa using c
  refine⟨hO,?_⟩;subst h0;refine Au func227 ntmps227 Y Y<|λ_ _=>U<|AK [_,_] Y Y ξ Y Y Y<|λg5=>AK [_,_] Y Y ξ Y Y Y<|λg6=>J Y<|Ak 0 Y λM l1 t=>?_;have s6:∀a,Seg M a (⟨g6,0,none⟩:Addr) (Bg 0):=λa=>Seg.any t;refine X<|U<|E (oG Y Bn Av<|s6 _) Y<|E (As Y call60 Y<|Df 0 Sy _ _) Y<|J Y<|Ay Y (λc=>?_)<|λc=>lj (Y) c;refine U<|J Y<|Aj<|Ae<|AU<|Ar Y Y (⟨l1,Y,F⟩)
 .rw[af h0]at c;by_cases M:x=0\/Uf x=false\/Uf y=false
  .rw[ah M]at c;cases c
  .rw[af M]at c;have P:x≠0:=λq=>M (.inl q);have hx31:=ON λq=>M (.inr (.inl q));have Sx:=G5 hx31;have hyx:y.sign≠0:=λq=>h0 (di.1 q);have hq31:=SF (x:=x) hy31;have Sq:Sz (y/x):=Sz.of (B:=32) hq31 H;have hr0:=Int.emod_nonneg y P
   have hr1:(y%x).natAbs<2147483648:=by have:=KM (a:=y) P;omega
   have Sr:=G5 hr1;have o1:=AA (Ba 1);have A:=os (y/x);have d:=os (y%x);have onq:=os (-(y/x));by_cases O:y%x=0
   .rw[ah O]at c;obtain⟨s2,e2,e3⟩:=ff.1 c;obtain⟨rfl,rfl⟩:s2=L/\false=r:=by simpa using e3
    have hT:BqT ⟨1,0,-(y/x),1⟩:=⟨bq_one,Bq.zero _,Bq.neg hq31,bq_one⟩
    obtain⟨hb,hS,hOk⟩:=fin _ hT e2;refine⟨hOk,?_⟩;refine Au func227 ntmps227 Y Y<|λ_ _=>U<|AK [_,_] Y Y ξ Y Y Y<|λg5=>AK [_,_] Y Y ξ Y Y Y<|λg6=>J Y<|Ak 0 Y λM l1 t=>Ak 0 Y λh2 l2 hS5=>?_;have t:=t.le l2;have K:=N l1 l2;have s5:∀b,h2.le b->∀a,Seg b a (⟨g5,0,none⟩:Addr) (Bg x):=λb l a=>Seg.any (hS5.le l);have s6:∀b,h2.le b->∀a,Seg b a (⟨g6,0,none⟩:Addr) (Bg y):=λb l a=>Seg.any (t.le l);refine X<|U<|E (oG Y Bn Av<|s6 _ (Bk) _) Y<|E (As Y call60 Y<|Df y Sy _ _) Y<|J Y<|Ay Y (λc=>lj c<|hyx)<|λc=>Cg<|U<|E (As Y call95 Y<|Fy 1 H _ _) Y<|BJ [.bool false,.es] Y Av Y Y<|λg11=>?_;refine Sa 0 [_,_] Av Y (by simp[f,g,o1,A,d,onq]) ?_;refine Ao<|Ak 0 Y λh3 l3 hS11=>?_;have l23:=l3;have s11:∀b,h3.le b->∀a,Seg b a (⟨g11,0,none⟩:Addr) (Bg 1):=λb l a=>Seg.any (hS11.le l);refine X<|U<|E (oG Y Bn Av<|s6 _ l3 _) Y<|E (oG Y Bn Av<|s5 _ l3 _) Y<|E (As Y call100 Y<|F5 y x Sy P Z _ _) Y<|D Y Y<|D Y Y<|BJ [.bool false,.es] Y Av Y Y<|λg12=>BJ [.bool false,.es] Y Av Y Y<|λg13=>?_;refine Sa 1 [_,_] Av Y (by simp[f,g,o1,A,d,onq]) ?_;refine Sa 0 [_,_] Av Y (by simp[f,g,o1,A,d,onq]) ?_;refine J Y<|Ak 0 Y λh4 l4 B=>Ak 0 Y λh5 l5 hS12=>?_;have l35:=N l4 l5;have u:=N l3 l35;have s12:∀a,Seg h5 a (⟨g12,0,none⟩:Addr) (Bg (y/x)):=λa=>Seg.any hS12;have s13:∀a,Seg h5 a (⟨g13,0,none⟩:Addr) (Bg (y%x)):=λa=>Seg.any (B.le l5);have hrz:(y%x).sign=0:=di.2 O;refine U<|D Y Y<|Qg (oG Y Bn Av<|s13 _) Y<|Qg (As Y call60 Y<|Df (y%x) Sr _ _) Y<|Qg (Cq Y Y Y) Y<|J Y<|Ay Y (λc=>?_)<|λc=>lj (hrz) c;have I5:=(I.le K).le u;refine X<|AS (n:=10) (bs:=[W,W,W,W,W,W,W,W,W,lw]) [W,W,W,W,W,W,W,W,W] Cx V V Y Y<|Qq Y<|Qq Y<|Qq Y<|Qp Y (oG Y Bn Av<|s11 _ l35 _)<|Qp Y (AQ JP [.bool false,.es] [] [_,_] Y Av Y Y Qt Y)<|Qp Y (oG Y Bn Av<|s12 _)<|Qp Y (As Y call231 Y<|J2 (y/x) Sq _ _)<|Qp Y (oG Y Bn Av<|s11 _ l35 _)<|Qp Y (AQ Mc [.bool false,.es,.bool false,.es,.bool false,.es,.bool false,.es] [(0,_),(2,_),(4,_),(6,_)] [_,_,_,_,_,_,_,_] Y DL Y Y Qt Y)<|Qo 9 Y<|EC (pre:=[mu,S,md,mv,mvi]) Y Y call226 Y (KF k s.S i j (33*s.b+33) ⟨1,0,-(y/x),1⟩ h5 _ I5 hO hT Z hi hj hij F) Y Y Y Y<|λz h6 ms6 l6 hF=>?_;obtain⟨l6',hF6⟩:=hF;refine Qa<|Qe<|Ab<|U<|J Y<|Aj<|Ae ?_;exact Ar Y Y (⟨N K (N u l6'),Y,by rw[List.append_nil,hS];exact hF6⟩)
   .rw[af O]at c;split at c
    .rename_i h3;obtain⟨s2,e2,e3⟩:=ff.1 c;obtain⟨rfl,rfl⟩:s2=L/\true=r:=by simpa using e3
     have hT:BqT ⟨0,y,-y,x⟩:=⟨Bq.zero _,show y.natAbs<2^32 by omega,Bq.neg (show y.natAbs<2^32 by omega),show x.natAbs<2^32 by omega⟩
     obtain⟨hb,hS,hOk⟩:=fin _ hT e2;refine⟨hOk,?_⟩;have m:=os (-y);have p:=AA (Ba 0);refine Au func227 ntmps227 Y Y<|λ_ _=>U<|AK [_,_] Y Y ξ Y Y Y<|λg5=>AK [_,_] Y Y ξ Y Y Y<|λg6=>J Y<|Ak 0 Y λM l1 t=>Ak 0 Y λh2 l2 hS5=>?_;have t:=t.le l2;have K:=N l1 l2;have s5:∀b,h2.le b->∀a,Seg b a (⟨g5,0,none⟩:Addr) (Bg x):=λb l a=>Seg.any (hS5.le l);have s6:∀b,h2.le b->∀a,Seg b a (⟨g6,0,none⟩:Addr) (Bg y):=λb l a=>Seg.any (t.le l);refine X<|U<|E (oG Y Bn Av<|s6 _ (Bk) _) Y<|E (As Y call60 Y<|Df y Sy _ _) Y<|J Y<|Ay Y (λc=>lj c<|hyx)<|λc=>Cg<|U<|E (As Y call95 Y<|Fy 1 H _ _) Y<|BJ [.bool false,.es] Y Av Y Y<|λg11=>?_;refine Sa 0 [_,_] Av Y (by simp[f,g,o1,A,d,m,p]) ?_;refine Ao<|Ak 0 Y λh3_ l3 hS11=>X<|U<|E (oG Y Bn Av<|s6 _ l3 _) Y<|E (oG Y Bn Av<|s5 _ l3 _) Y<|E (As Y call100 Y<|F5 y x Sy P Z _ _) Y<|D Y Y<|D Y Y<|BJ [.bool false,.es] Y Av Y Y<|λg12=>BJ [.bool false,.es] Y Av Y Y<|λg13=>?_;refine Sa 1 [_,_] Av Y (by simp[f,g,o1,A,d,m,p]) ?_;refine Sa 0 [_,_] Av Y (by simp[f,g,o1,A,d,m,p]) ?_;refine J Y<|Ak 0 Y λh4 l4 B=>Ak 0 Y λh5 l5 hS12=>?_;have u:=N l3 (N l4 l5);have s13:∀a,Seg h5 a (⟨g13,0,none⟩:Addr) (Bg (y%x)):=λa=>Seg.any (B.le l5);have hrz:(y%x).sign≠0:=λq=>O (di.1 q);refine U<|D Y Y<|Qg (oG Y Bn Av<|s13 _) Y<|Qg (As Y call60 Y<|Df (y%x) Sr _ _) Y<|Qg (Cq Y Y Y) Y<|J Y<|Ay Y (λc=>lj c<|hrz)<|λc=>Cg<|U<|E (oG Y Bn Av<|s5 _ u _) Y<|E (oG Y Bn Av<|s6 _ u _) Y<|E (As Y call249 Y<|AfI x y h3.1 h3.2 _ _) Y<|D Y Y<|D Y Y<|BJ [.bool false,.es] Y Av Y Y<|λg15=>BJ [.bool false,.es] Y Av Y Y<|λg16=>BJ [.bool false,.es] Y Av Y Y<|λg17=>?_;refine Sa 2 [_,_] Av Y (by simp[f,g,o1,A,d,m,p]) ?_;refine Sa 1 [_,_] Av Y (by simp[f,g,o1,A,d,m,p]) ?_;refine Sa 0 [_,_] Av Y (by simp[f,g,o1,A,d,m,p]) ?_;refine Ao<|Ak 0 Y λh6 l6 hS17=>Ak 0 Y λh7 l7 hS16=>Ak 0 Y λh8 l8 hS15=>?_;have Q:=N u (N l6 (N l7 l8));have s15:∀b,h8.le b->∀a,Seg b a (⟨g15,0,none⟩:Addr) (Bg 1):=λb l a=>Seg.any (hS15.le l);have s16:∀b,h8.le b->∀a,Seg b a (⟨g16,0,none⟩:Addr) (Bg 0):=λb l a=>Seg.any ((hS16.le l8).le l);have s17:∀b,h8.le b->∀a,Seg b a (⟨g17,0,none⟩:Addr) (Bg y):=λb l a=>Seg.any ((hS17.le (N l7 l8)).le l)
     have hqx:∀h a,FnV prog 100 #[WD x,WD 1] h a (.tuple #[WD x,WD 0,.bool true]):=λh a=>by
      have:=F5 x 1 Sx H H h a
      rwa [Int.ediv_one,Int.emod_one]at this
     have hqy:∀h a,FnV prog 100 #[WD y,WD 1] h a (.tuple #[WD y,WD 0,.bool true]):=λh a=>by
      have:=F5 y 1 Sy H H h a
      rwa [Int.ediv_one,Int.emod_one]at this
     refine U<|E (oG Y Bn Av<|s5 _ Q _) Y<|E (oG Y Bn Av<|s15 _ (Bk) _) Y<|E (As Y call100 Y<|hqx _ _) Y<|D Y Y<|D Y Y<|BJ [.bool false,.es] Y Av Y Y<|λg18=>BJ [.bool false,.es] Y Av Y Y<|λg19=>?_;refine Sa 1 [_,_] Av Y (by simp[f,g,o1,A,d,m,p]) ?_;refine Sa 0 [_,_] Av Y (by simp[f,g,o1,A,d,m,p]) ?_;refine J Y<|Ak 0 Y λh9 l9 hS19=>Ak 0 Y λhA lA hS18=>?_;have l8A:=N l9 lA;have s18:∀b,hA.le b->∀a,Seg b a (⟨g18,0,none⟩:Addr) (Bg x):=λb l a=>Seg.any (hS18.le l);refine U<|E (oG Y Bn Av<|s6 _ (N Q l8A) _) Y<|E (oG Y Bn Av<|s15 _ l8A _) Y<|E (As Y call100 Y<|hqy _ _) Y<|D Y Y<|D Y Y<|BJ [.bool false,.es] Y Av Y Y<|λg21=>BJ [.bool false,.es] Y Av Y Y<|λg22=>?_;refine Sa 1 [_,_] Av Y (by simp[f,g,o1,A,d,m,p]) ?_;refine Sa 0 [_,_] Av Y (by simp[f,g,o1,A,d,m,p]) ?_;refine J Y<|Ak 0 Y λhB lB hS22=>Ak 0 Y λhC lC hS21=>?_;have lAC:=N lB lC;have R:=N l8A lAC;have s21:∀a,Seg hC a (⟨g21,0,none⟩:Addr) (Bg y):=λa=>Seg.any hS21;have I5:=(I.le K).le (N Q R);refine X<|AS (n:=10) (bs:=[W,W,W,W,W,W,W,W,W,lw]) [W,W,W,W,W,W,W,W,W] Cx V V Y Y<|Qq Y<|Qq Y<|Qq Y<|Qp Y (oG Y Bn Av<|s16 _ R _)<|Qp Y (oG Y Bn Av<|s17 _ R _)<|Qp Y (oG Y Bn Av<|s21 _)<|Qp Y (As Y call231 Y<|J2 y Sy _ _)<|Qp Y (oG Y Bn Av<|s18 _ lAC _)<|Qp Y (AQ Mc [.bool false,.es,.bool false,.es,.bool false,.es,.bool false,.es] [(0,_),(2,_),(4,_),(6,_)] [_,_,_,_,_,_,_,_] Y DL Y Y Qt Y)<|Qo 9 Y<|EC (pre:=[mu,S,md,mv,mvi]) Y Y call226 Y (KF k s.S i j (33*s.b+33) ⟨0,y,-y,x⟩ hC _ I5 hO hT Z hi hj hij F) Y Y Y Y<|λz hD ms6 lD hF=>?_;obtain⟨lD',hF6⟩:=hF;refine Qa<|Qe<|Ab<|U<|J Y<|Aj ?_;exact Ar Y Y (⟨N K (N (N Q R) lD'),Y,by rw[List.append_nil,hS];exact hF6⟩)
    .cases c
theorem FsO.el{k:Wk}{S:FS}{a:List Hp}{h:Hp}{B:Nat}(F:FsO k S a)(O:S.Ok k.n k.m B){i j:Nat}(e:i<k.n)(f:j<k.m){v:Value}(g:k.vd[i]?=some v):Seg h a ((AJ v).add (j*2)) (Bg (AP S.d i j)):=by obtain⟨mu,l,md,mv,m,rfl,n,c,b,p,d⟩:=F;exact Ha O.sd b (.tail _<|.tail _<|.head _) e f g
theorem FsO.rw_{k:Wk}{S:FS}{a:List Hp}{h:Hp}{B:Nat}(F:FsO k S a)(O:S.Ok k.n k.m B){i:Nat}(e:i<k.n){v:Value}(f:k.vd[i]?=some v):∃cs,Rd h a v 2 k.m cs:=by obtain⟨mu,g,md,mv,j,rfl,l,c,b,m,d⟩:=F;exact FC O.sd b (.tail _<|.tail _<|.head _) e f
abbrev OkS(k:Wk)(s:St):Prop:=s.S.Ok k.n k.m (33*s.b+33)
theorem AaZ(k:Wk)(s s':St)(t f:Nat)(h:Hp)(B:List Hp)(I:k.In h)(A:OkS k s)(hc:Dy k.n k.m t f s=some s')(ht:t<k.n)(ht2:t<k.m)(F:FsO k s.S B) :
  FnT prog 183 #[.pointer (some ⟨k.g,0,none⟩),.w t] h B (λ_ a b=>h.le a/\OkS k s'/\FsO k s'.S b):=by
 have hn:=I.hn;have hm:=I.hm;have cn_:∀a,h.le a->∀B,Cell a B ((⟨k.g,0,none⟩:Addr).add 5) (.w k.n):=λa l B=>((I.seg 5 _ Y).any).le l;have cm_:∀a,h.le a->∀B,Cell a B ((⟨k.g,0,none⟩:Addr).add 6) (.w k.m):=λa l B=>((I.seg 6 _ Y).any).le l;have cd_:∀a,h.le a->∀B,Cell a B ((⟨k.g,0,none⟩:Addr).add 2) k.hd:=λa l B=>((I.seg 2 _ Y).any).le l;have od:=I.rd.rd.one;have rD:∀a,h.le a->Rd a [] k.hd 1 k.n (k.vd.flatMap cU):=λa l=>by have:=(I.rd.up l).rd;rwa [I.ld]at this
 obtain⟨vt,Q,_⟩:=Hu I.rd I.ld ht
 have cvt:∀a,h.le a->∀B,Cell a B ((AJ k.hd).add (t*1)) vt:=λa l B=>by obtain⟨v,e,c⟩:=Hu (I.rd.up l) I.ld ht;rw[Q]at e;obtain rfl:=ay e;exact c B
 refine Au func183 ntmps183 Y Y<|λ_ _=>U<|J Y<|Ag<|AC (λq P a b=>∃(c:Bool) (sc:St) (g:Nat),P=[(0,.pointer (some ⟨k.g,0,none⟩)),(1,.w t),(4,.bool c)]/\h.le a/\OkS k sc/\FsO k sc.S b/\((c=true/\q=g+1/\Dy k.n k.m t g sc=some s')\/(c=false/\q=0/\sc=s'))) (f+1) _ ⟨true,s,f,Y,Bk,A,F,.inl ⟨Y,Y,hc⟩⟩ Qs ?_;rintro q P a b ⟨c,sc,g,rfl,m,A,F,R⟩;refine X<|U<|J Y<|B1 Y (λS=>?_)<|λS=>?_
 .obtain⟨rfl,O⟩:q=g+1/\Dy k.n k.m t g sc=some s':=by
   rcases R with h|h
   .exact h.2
   .rw[h.1]at S;cases S
  obtain⟨g,rfl⟩:∃g',g=g'+1:=by
   cases g with
   | zero=>cases O
   | succ g=>exact⟨g,Y⟩
  obtain⟨s1,e1⟩:∃s1,Fa k.n k.m t (k.n-(t+1)) (t+1) sc=some s1:=by
   unfold Dy pass at O;cases hq:Fa k.n k.m t (k.n-(t+1)) (t+1) sc with
   | none=>rw[hq]at O;cases O
   | some s1=>exact⟨s1,Y⟩
  obtain⟨s2,c2,e2⟩:∃s2 c2,DN k.n k.m t (k.m-(t+1)) (t+1) false s1=some (s2,c2):=by
   unfold Dy pass at O;rw[e1]at O;simp only at O;cases hq:DN k.n k.m t (k.m-(t+1)) (t+1) false s1 with
   | none=>rw[hq]at O;cases O
   | some p=>exact⟨p.1,p.2,Y⟩
  have hg2:(c2=true/\Dy k.n k.m t g s2=some s')\/(c2=false/\s2=s'):=by
   unfold Dy pass at O;rw[e1]at O;simp only at O;rw[e2]at O;cases c2 with
   | true=>exact .inl ⟨Y,O⟩
   | false=>exact .inr ⟨Y,ay O⟩
  refine Cg<|Ag<|U<|J Y<|X<|U<|G Y<|E (oA Y) Y<|J Y<|Ag<|AC (λq P a b=>∃(i:Nat) (L:St),k.n-i=q/\P=[(0,.pointer (some ⟨k.g,0,none⟩)),(1,.w t),(4,.bool false),(5,.w i)]/\h.le a/\t<i/\i<=k.n/\OkS k L/\FsO k L.S b/\Fa k.n k.m t (k.n-i) i L=some s1) (k.n-(t+1)) _ ⟨t+1,sc,Y,Y,m,Z,Z,A,F,e1⟩ Qs ?_;rintro q P a b ⟨i,L,rfl,rfl,m,hti,hin,A,F,K⟩;refine X<|U<|D Y Y<|G Y<|Qf Jx Y<|E (A5 0 Y Wh By Y Y Y Z) Y<|Ql Y U3 (cn_ _ m _)<|J Y<|Ay Y (λhlt=>?_)<|λhlt=>?_
  .have hi:i<k.n:=Z
   obtain⟨d,cn,en,n⟩:∃d cn,Mj (λT=>L.row k.n k.m t i T) (AP L.S.d t t) (AP L.S.d i t) L=some (d,cn)/\Fa k.n k.m t (k.n-(i+1)) (i+1) d=some s1:=by
    rw[show k.n-i=(k.n-(i+1))+1 by omega]at K;unfold Fa at K;cases hq:Mj (λT=>L.row k.n k.m t i T) (AP L.S.d t t) (AP L.S.d i t) L with
    | none=>rw[hq]at K;cases K
    | some p=>rw[hq]at K;exact⟨p.1,p.2,Y,K⟩
   obtain⟨r,M⟩:=Aax k L d t i _ _ cn a _ (I.le m) A en ht hi Z F;obtain⟨mu,mui,md,mv,mvi,hms,hVs⟩:=F;have F:FsO k L.S b:=⟨mu,mui,md,mv,mvi,hms,hVs⟩
   subst hms;obtain⟨_,rT⟩:=F.rw_ (h:=a) A ht Q;have oT:=rT.one;have sTT:=F.el (h:=a) A ht ht2 Q;obtain⟨vi,evi,cvi0⟩:=Hu (I.rd.up m) I.ld hi;obtain⟨_,rI⟩:=F.rw_ (h:=a) A hi evi;have oI:=rI.one;have sIT:=F.el (h:=a) A hi ht2 evi;generalize AP L.S.d t t=x at *;generalize AP L.S.d i t=y at *;have ox_:=AA (Ba x.natAbs);have oy_:=AA (Ba y.natAbs);refine Cg<|Bu (λP a b=>∃d,P=[(0,.pointer (some ⟨k.g,0,none⟩)),(1,.w t),(4,.bool false),(5,.w i)]/\h.le a/\OkS k d/\FsO k d.S b/\Fa k.n k.m t (k.n-(i+1)) (i+1) d=some s1) ?_<|λs h B hI=>?_
   .refine Ag<|AS (n:=27) (bs:=[W,W,W,W,W,W,W,W,W,W,lw,W,W,W,W,W,W,W,W,W,W,lw,W,W,W,W,lw]) [W,W,W,W,W,W,W,W,W,W,lw,W,W,W,W,W,W,W,W,W,W,lw,W,W,W,W] Cx V V Y Y<|Qq Y<|Qq Y<|QF Cj Y<|QF Em Y<|QL Y CK (cd_ _ m _)<|Qq Y<|Qp Y (AR (t) (rD _ m).any Y CK En Y Y Z Z)<|QL Y CJ (cvt _ m _)<|Qq Y<|Qp Y (Be (t) rT Y CJ Av Y Y Z Z)<|Qq Y<|Qq Y<|QF Cj Y<|QF Em Y<|QL Y CK (cd_ _ m _)<|Qq Y<|Qp Y (AR (i) (rD _ m).any Y CK En Y Y Z Z)<|QL Y CJ (cvi0 _)<|Qq Y<|Qp Y (Be (t) rI Y CJ Av Y Y Z Z)<|Qq Y<|Qq Y<|Qq Y<|Qp Y (BI Y Y Y)<|AO [10,21] V Y<|Al Y ?_ ?_;refine E (oG Y Bn Av<|sTT) Y<|Qw<|Qo 21 Y<|E (oG Y Bn Av<|sIT) Y<|Qw ?_
    rotate_left
    refine Al Y ?_ ?_;refine E (oG Y Bn Av<|sIT) Y<|Qw<|Qo 10 Y<|E (oG Y Bn Av<|sTT) Y<|Qw ?_
    rotate_left
    exact AN
    all_goals
     refine Qo 26 Y<|AE (pre:=[mu,mui,md,mv,mvi]) Y call227 Y (M) Y Y Y Y<|λz h2 ms2 l2 hF=>?_;obtain⟨l2',rfl,hF2⟩:=hF;refine Qa<|Qe<|Ai<|AI _ ⟨d,Y,N m l2',r,by rw[List.append_nil];exact hF2,n⟩ Qs
   .obtain⟨d,rfl,ln,r,M,n⟩:=hI;refine Ad<|G Y<|E (oA Y) Y<|G Y<|Am<|Aq (k.n-(i+1)) _ Z ⟨i+1,d,Y,Y,ln,Z,Z,r,M,n⟩ Qs
  .obtain rfl:i=k.n:=Z
   rw[iy]at K;obtain rfl:=ay K;refine C<|Ab<|U<|G Y<|E (oA Y) Y<|J Y<|Ag<|AC (λq P a b=>∃(j:Nat) (c:Bool) (u:St),k.m-j=q/\P=[(0,.pointer (some ⟨k.g,0,none⟩)),(1,.w t),(4,.bool c),(6,.w j)]/\h.le a/\t<j/\j<=k.m/\OkS k u/\FsO k u.S b/\DN k.n k.m t (k.m-j) j c u=some (s2,c2)) (k.m-(t+1)) _ ⟨t+1,false,L,Y,Y,m,Z,Z,A,F,e2⟩ Qs ?_;rintro q P a b ⟨j,c,u,rfl,rfl,m,htj,hjm,A,F,K⟩;refine X<|U<|D Y Y<|G Y<|Qf Jx Y<|E (A5 1 Y Wh By Y Y Y Z) Y<|Ql Y U3 (cm_ _ m _)<|J Y<|Ay Y (λhlt=>?_)<|λhlt=>?_
   .have hj:j<k.m:=Z
    obtain⟨d,cn,en,n⟩:∃d cn,Mj (λT=>u.col k.n k.m t j T) (AP u.S.d t t) (AP u.S.d t j) u=some (d,cn)/\DN k.n k.m t (k.m-(j+1)) (j+1) (c||cn) d=some (s2,c2):=by
     rw[show k.m-j=(k.m-(j+1))+1 by omega]at K;unfold DN at K;cases hq:Mj (λT=>u.col k.n k.m t j T) (AP u.S.d t t) (AP u.S.d t j) u with
     | none=>rw[hq]at K;cases K
     | some p=>rw[hq]at K;exact⟨p.1,p.2,Y,K⟩
    obtain⟨r,M⟩:=ZP k u d t j _ _ cn a _ (I.le m) A en ht2 hj Z F;obtain⟨mu,mui,md,mv,mvi,hms,hVs⟩:=F;have F:FsO k u.S b:=⟨mu,mui,md,mv,mvi,hms,hVs⟩
    subst hms;obtain⟨_,rT⟩:=F.rw_ (h:=a) A ht Q;have oT:=rT.one;have sTT:=F.el (h:=a) A ht ht2 Q;have sIT:=F.el (h:=a) A ht hj Q;generalize AP u.S.d t t=x at *;generalize AP u.S.d t j=y at *;have ox_:=AA (Ba x.natAbs);have oy_:=AA (Ba y.natAbs);refine Cg<|Bu (λP a b=>∃d c',P=[(0,.pointer (some ⟨k.g,0,none⟩)),(1,.w t),(4,.bool c'),(6,.w j)]/\h.le a/\OkS k d/\FsO k d.S b/\DN k.n k.m t (k.m-(j+1)) (j+1) c' d=some (s2,c2)) ?_<|λs h B hI=>?_
    .refine Ag<|Bu (λP a b=>P=[(0,.pointer (some ⟨k.g,0,none⟩)),(1,.w t),(4,.bool c),(6,.w j),(83,.bool cn)]/\h.le a/\OkS k d/\FsO k d.S b) ?_<|λs h B hI=>?_
     .refine AS (n:=27) (bs:=[W,W,W,W,W,W,W,W,W,W,lw,W,W,W,W,W,W,W,W,W,W,lw,W,W,W,W,lw]) [W,W,W,W,W,W,W,W,W,W,lw,W,W,W,W,W,W,W,W,W,W,lw,W,W,W,W] Cx V V Y Y<|Qq Y<|Qq Y<|QF Cj Y<|QF Em Y<|QL Y CK (cd_ _ m _)<|Qq Y<|Qp Y (AR (t) (rD _ m).any Y CK En Y Y Z Z)<|QL Y CJ (cvt _ m _)<|Qq Y<|Qp Y (Be (t) rT Y CJ Av Y Y Z Z)<|Qq Y<|Qq Y<|QF Cj Y<|QF Em Y<|QL Y CK (cd_ _ m _)<|Qq Y<|Qp Y (AR (t) (rD _ m).any Y CK En Y Y Z Z)<|QL Y CJ (cvt _ m _)<|Qq Y<|Qp Y (Be (j) rT Y CJ Av Y Y Z Z)<|Qq Y<|Qq Y<|Qq Y<|Qp Y (BI Y Y Y)<|AO [10,21] V Y<|Al Y ?_ ?_;refine E (oG Y Bn Av<|sTT) Y<|Qw<|Qo 21 Y<|E (oG Y Bn Av<|sIT) Y<|Qw ?_
      rotate_left
      refine Al Y ?_ ?_;refine E (oG Y Bn Av<|sIT) Y<|Qw<|Qo 10 Y<|E (oG Y Bn Av<|sTT) Y<|Qw ?_
      rotate_left
      exact AN
      all_goals
       refine Qo 26 Y<|AE (pre:=[mu,mui,md,mv,mvi]) Y call227 Y (M) Y Y Y Y<|λz h2 ms2 l2 hF=>?_;obtain⟨l2',rfl,hF2⟩:=hF;refine Qa<|Qe ?_;exact AI _ ⟨Y,N m l2',r,by rw[List.append_nil];exact hF2⟩ Qs
     .obtain⟨rfl,ln,r,hFn2⟩:=hI;refine B1 Y (λhcn=>?_)<|λhcn=>?_
      .rw[hcn,Bool.or_true]at n;refine Ad<|G Y<|Am<|Ai<|AI _ ⟨d,true,Y,ln,r,hFn2,n⟩ Qs
      .rw[hcn,Bool.or_false]at n;refine Ah<|Ai<|AI _ ⟨d,c,Y,ln,r,hFn2,n⟩ Qs
    .obtain⟨d,c',rfl,ln,r,M,n⟩:=hI;refine Ad<|G Y<|E (oA Y) Y<|G Y<|Am<|Aq (k.m-(j+1)) _ Z ⟨j+1,c',d,Y,Y,ln,Z,Z,r,M,n⟩ Qs
   .obtain rfl:j=k.m:=Z
    rw[iy]at K;obtain⟨rfl,rfl⟩:u=s2/\c=c2:=by simpa[DN] using K
    refine C<|Ai ?_;rcases hg2 with ⟨rfl,hg2⟩|⟨rfl,rfl⟩
    .exact Aq (g+1) _ Z ⟨true,u,g,Y,m,A,F,.inl ⟨Y,Y,hg2⟩⟩ Qs
    .exact Aq 0 _ Z ⟨false,u,0,Y,m,A,F,.inr ⟨Y,Y,Y⟩⟩ Qs
 .have e3:sc=s':=by
   rcases R with h|h
   .rw[h.1]at S;cases S
   .exact h.2.2
  subst e3;refine C<|CC Y (⟨m,A,F⟩)
theorem JH:BqT swp:=⟨Bq.zero _,bq_one,bq_one.neg,Bq.zero _⟩
theorem OkS.row{k:Wk}{s b:St}{i j:Nat}{T:Tn}(d:OkS k s)(f:BqT T)(g:i<k.n)(h:j<k.n)(a:i≠j)(e:s.row k.n k.m i j T=some b):s.b<20000/\b.S=s.S.rop k.n k.m i j T/\OkS k b:=by
 unfold St.row at e;split at e
 .rename_i c;rw[jy]at c;have e:=ay e;subst e;exact⟨c,Y,by have:=FS.Ok.rop d f g h a;show FS.Ok _ _ (33*(s.b+1)+33) _;rw[show 33*(s.b+1)+33=33*s.b+33+33 by omega];exact this⟩
 .cases e
theorem OkS.col{k:Wk}{s b:St}{i j:Nat}{T:Tn}(d:OkS k s)(f:BqT T)(g:i<k.m)(h:j<k.m)(a:i≠j)(e:s.col k.n k.m i j T=some b):s.b<20000/\b.S=s.S.cop k.n k.m i j T/\OkS k b:=by
 unfold St.col at e;split at e
 .rename_i c;rw[jy]at c;have e:=ay e;subst e;exact⟨c,Y,by have:=FS.Ok.cop d f g h a;show FS.Ok _ _ (33*(s.b+1)+33) _;rw[show 33*(s.b+1)+33=33*s.b+33+33 by omega];exact this⟩
 .cases e
theorem Adv(k:Wk)(s s':St)(t:Nat)(r:Bool)(h:Hp)(ms:List Hp)(I:k.In h)(B:OkS k s)(hb:s.b<=20000)(A:EK k.n k.m t s=some (s',r))(ht:t<k.n)(K:t<k.m)(F:FsO k s.S ms) :
  FnT prog 182 #[.pointer (some ⟨k.g,0,none⟩),.w t] h ms (λv f d=>h.le f/\v=.bool r/\OkS k s'/\FsO k s'.S d):=by
 have hn:=I.hn;have hm:=I.hm;obtain⟨M,n⟩:∃M,Iq s.S.d k.n t (k.m-t) t=M:=⟨_,Y⟩
 have o1:=AA (Ba 1);obtain⟨mu,p,md,mv,u,hms,hVs⟩:=F;have F:FsO k s.S ms:=⟨mu,p,md,mv,u,hms,hVs⟩
 subst hms;refine Au func182 ntmps182 Y Y<|λ_ _=>U<|G Y<|BF<|E (As Y call95 Y<|Fy 1 H _ _) Y<|E (As Y call95 Y<|Fy (-1) H _ _) Y<|BJ [.bool false,.es] Y Av Y Y<|λg5=>BJ [.bool false,.es] Y Av Y Y<|λg6=>Sa 1 [_,_] Av Y (by simp[Value.oneCell',o1,sv])<|Sa 0 [_,_] Av rfl (by simp[Value.oneCell',o1,sv])<|BF<|E (AQ JP [.bool false,.es] [] [_,_] rfl Av rfl rfl Qt rfl) rfl<|E (oG rfl Bn Av<|Seg.blk 1 rfl) rfl<|E (oG rfl Bn Av<|Seg.blk 0 rfl) rfl<|E (AQ JP [.bool false,.es] [] [_,_] rfl Av rfl rfl Qt rfl) rfl<|E (AQ Mc [.bool false,.es,.bool false,.es,.bool false,.es,.bool false,.es] [(0,_),(2,_),(4,_),(6,_)] [_,_,_,_,_,_,_,_] rfl DL rfl rfl Qt rfl) rfl<|BJ [.bool false,.es,.bool false,.es,.bool false,.es,.bool false,.es] rfl DL rfl rfl<|λg7=>Sa 0 [_,_,_,_,_,_,_,_] DL rfl (by simp[Value.oneCell',o1,sv])<|Ao<|AH λP l1 hS7=>Lf<|Lf ?_;have s7:∀f,P.le f->∀ms,Seg f ms (⟨g7,0,none⟩:Addr) (cT swp):=λf l ms=>Seg.any (hS7.le l);have e:=I.le l1;have cn_:=qC 5 e.seg Y;have cm_:=qC 6 e.seg Y;have cd_:=qC 2 e.seg Y;have od:=e.rd.rd.one;have rD:Rd P [] k.hd 1 k.n (k.vd.flatMap cU):=by have:=e.rd.rd;rwa [e.ld]at this
 refine X<|U<|G Y<|J Y<|Ag<|AC (λq sl f d=>∃(j:Nat),k.m-j=q/\sl=[(0,.pointer (some ⟨k.g,0,none⟩)),(1,.w t),(7,.pt g7),(8,.w j)]/\P=f/\d=[mu,p,md,mv,u]/\t<=j/\j<=k.m/\Iq s.S.d k.n t (k.m-j) j=M) (k.m-t) _ ⟨t,Y,Y,Y,Y,Z,Z,n⟩ Qs ?_;rintro q sl f d ⟨j,rfl,rfl,rfl,rfl,htj,hjm,b⟩;refine X<|U<|D Y Y<|G Y<|Qf Jx Y<|E (A5 1 Y Wh By Y Y Y Z) Y<|Ql Y U3 (cm_ _)<|J Y<|Ay Y (λhlt=>?_)<|λhlt=>?_
 .have hj:j<k.m:=Z
  obtain⟨ri,hri⟩:∃ri,NQ s.S.d k.n j (k.n-t) t=ri:=⟨_,Y⟩
  rw[show k.m-j=(k.m-(j+1))+1 by omega]at b;unfold Iq at b;rw[hri]at b;refine Cg<|X<|Ag<|U<|G Y<|J Y<|Ag<|AC (λq sl f d=>∃(i:Nat),k.n-i=q/\sl=[(0,.pointer (some ⟨k.g,0,none⟩)),(1,.w t),(7,.pt g7),(8,.w j),(9,.w i)]/\P=f/\d=[mu,p,md,mv,u]/\t<=i/\i<=k.n/\NQ s.S.d k.n j (k.n-i) i=ri) (k.n-t) _ ⟨t,Y,Y,Y,Y,Z,Z,hri⟩ Qs ?_;rintro q sl f d ⟨i,rfl,rfl,rfl,rfl,hti,hin,c⟩;refine X<|U<|D Y Y<|G Y<|Qf Jx Y<|E (A5 0 Y Wh By Y Y Y Z) Y<|Ql Y U3 (cn_ _)<|J Y<|Ay Y (λhlt2=>?_)<|λhlt2=>?_
  .have hi:i<k.n:=Z
   rw[show k.n-i=(k.n-(i+1))+1 by omega]at c;unfold NQ at c;obtain⟨vi,evi,cvi0⟩:=Hu e.rd e.ld hi;obtain⟨_,rI⟩:=F.rw_ (h:=P) B hi evi;have oI:=rI.one;have sIJ:=F.el (h:=P) B hi hj evi;have hsz:=Sz.of (B.bd i j) Z;generalize AP s.S.d i j=x at *;have ox_:=AA (Ba x.natAbs);refine Cg<|X<|Ag<|X<|U<|D Y Y<|Qf Cj Y<|Qf Em Y<|Ql Y CK (cd_ _)<|G Y<|E (BP (i) rD.any Y CK En Y Y) Y<|Ql Y CJ (cvi0 _)<|G Y<|E (Be (j) rI Y CJ Av Y Y Z Z) Y<|E (oG Y Bn Av<|sIJ) Y<|E (As Y call60 Y<|Df x hsz _ _) Y<|J Y<|Ay Y (λhz=>?_)<|λhz=>?_
   .have hx0:x=0:=di.1 hz;rw[af (by simp[hx0])]at c;refine Az<|Aa<|Af<|Ab<|Ad<|G Y<|E (oA Y) Y<|G Y<|Am<|Aq (k.n-(i+1)) _ Z ⟨i+1,Y,Y,Y,Y,Z,Z,c⟩ Qs
   .have hx0:x≠0:=λq=>hz (di.2 q);rw[ah hx0]at c;subst c;simp only at b;subst b;unfold EK at A;rw[n]at A;simp only at A
    obtain⟨y,e1,e2⟩:∃y,(if i=t then some s else s.row k.n k.m t i swp)=some y/\(match (if j=t then some y else y.col k.n k.m t j swp) with|none=>none|some Q=>some (Q,true))=some (s',r):=by
     cases hq:(if i=t then some s else s.row k.n k.m t i swp) with
     | none=>rw[hq]at A;cases A
     | some y=>rw[hq]at A;exact⟨y,Y,A⟩
    obtain⟨Q,O,e4⟩:∃Q,(if j=t then some y else y.col k.n k.m t j swp)=some Q/\some (Q,true)=some (s',r):=by
     cases hq:(if j=t then some y else y.col k.n k.m t j swp) with
     | none=>rw[hq]at e2;cases e2
     | some Q=>rw[hq]at e2;exact⟨Q,Y,e2⟩
    obtain⟨rfl,rfl⟩:Q=s'/\true=r:=by simpa using e4
    refine Cg<|X<|U<|D Y Y<|J Y<|Ay Y (λhne=>?_)<|λhne=>?_
    .have g:¬i=t:=Z
     rw[af g]at e1;obtain⟨hb1,hS1,R⟩:=B.row JH ht hi Z e1;refine Ad<|D Y Y<|G Y<|E (oG Y Mi DL<|s7 _ (Bk) _) Y<|AE (pre:=[mu,p,md,mv,u]) Y call185 Y (OI k s.S t i _ swp P _ e B JH Z ht hi Z F) Y Y Y Y<|λz h2 ms2 l2 hF=>?_;obtain⟨L,F2⟩:=hF;rw[<-hS1]at F2;refine Ao<|X<|U<|D Y Y<|J Y<|Ay Y (λm=>?_)<|λm=>?_
     .have a:¬j=t:=Z
      rw[af a]at O;obtain⟨hb2,T,S⟩:=OkS.col R JH K hj Z O;refine Ad<|D Y Y<|G Y<|E (oG Y Mi DL<|s7 _ L _) Y<|AE (pre:=ms2) Y call226 Y (KF k y.S t j _ swp h2 _ (e.le L) R JH Z K hj Z F2) Y Y Y Y<|λz h3 ms3 l3 hF=>?_;obtain⟨l3',F3⟩:=hF;rw[<-T]at F3;refine BF<|J Y<|Aj<|An<|Ae<|Ae<|An<|An<|Ae<|Ae<|An<|Ae<|Ar Y Y (⟨N l1<|N L l3',Y,S,by simpa using F3⟩)
     .have a:j=t:=Z
      rw[ah a]at O;obtain rfl:=ay O;refine Cg<|U<|J Y<|Aj<|An<|Ae<|Ae<|An<|An<|Ae<|Ae<|An<|Ae ?_;exact Ar Y Y (⟨N l1 L,Y,R,by simpa using F2⟩)
    .have g:i=t:=Z
     rw[ah g]at e1;obtain rfl:=ay e1;refine Cg<|X<|U<|D Y Y<|J Y<|Ay Y (λm=>?_)<|λm=>?_
     .have a:¬j=t:=Z
      rw[af a]at O;obtain⟨hb2,T,S⟩:=OkS.col B JH K hj Z O;refine Ad<|D Y Y<|G Y<|E (oG Y Mi DL<|s7 _ (Bk) _) Y<|AE (pre:=[mu,p,md,mv,u]) Y call226 Y (KF k s.S t j _ swp P _ e B JH Z K hj Z F) Y Y Y Y<|λz h3 ms3 l3 hF=>?_;obtain⟨l3',F3⟩:=hF;rw[<-T]at F3;refine BF<|J Y<|Aj<|An<|Ae<|Ae<|An<|An<|Ae<|Ae<|An<|Ae ?_;exact Ar Y Y (⟨N l1 l3',Y,S,by simpa using F3⟩)
     .have a:j=t:=Z
      rw[ah a]at O;obtain rfl:=ay O;refine Cg<|U<|J Y<|Aj<|An<|Ae<|Ae<|An<|An<|Ae<|Ae<|An<|Ae ?_;exact Ar Y Y (⟨l1,Y,B,by simpa using F⟩)
  .obtain rfl:i=k.n:=Z
   rw[iy]at c;subst c;replace b:Iq s.S.d k.n t (k.m-(j+1)) (j+1)=M:=b;refine C<|D2<|Ad<|G Y<|E (oA Y) Y<|G Y<|Am<|Aq (k.m-(j+1)) _ Z ⟨j+1,Y,Y,Y,Y,Z,Z,b⟩ Qs
 .obtain rfl:j=k.m:=Z
  rw[iy]at b;subst b;unfold EK at A;rw[n]at A;obtain⟨rfl,rfl⟩:s=s'/\false=r:=by simpa[Iq] using A
  refine C<|Ab<|U<|J Y<|Aj<|Ar Y Y (⟨l1,Y,B,F⟩)
theorem FsO.elF{k:Wk}{S:FS}{l:List Hp}{h:Hp}{B:Nat}(F:FsO k S l)(u:∀m∈l,m.le h)(O:S.Ok k.n k.m B){i j:Nat}(e:i<k.n)(t:j<k.m){v:Value}(g:k.vd[i]?=some v):Rd h [] v 2 k.m ((S.d.getD i []).flatMap Bg)/\Seg h [] ((AJ v).add (j*2)) (Bg (AP S.d i j)):=by
 obtain⟨mu,x,md,mv,y,rfl,z,n,d,A,p⟩:=F;have a:i<S.d.length:=by rw[O.sd.len];exact e
 have b:i<k.vd.length:=by rw[d.len];exact a
 have r:k.vd[i]=v:=by rw[aj b]at g;exact ay g
 have f:=O.sd.row i e;have s:S.d.getD i []=S.d[i]:=by simp[List.getD,a]
 have R:=d.rdh (u md (.tail _ (.tail _ (.head _)))) b a;rw[r,<-s]at R;have c:j<(S.d.getD i []).length:=by rw[f];exact t
 refine⟨by have:=R.rd;rwa [f]at this,?_⟩;have:=R.seg c;unfold AP;rw[show(S.d.getD i []).getD j 0=(S.d.getD i [])[j] from by rw[jl,aj c];rfl];exact this
theorem W9(k:Wk)(s:St)(t:Nat)(h:Hp)(n:List Hp)(I0:k.In h)(hO:OkS k s)(hb:s.b<=20000)(hp0:AP s.S.d t t≠0)(hp1:(AP s.S.d t t).natAbs<2147483648)(hd:L2 s.S.d k.m t (AP s.S.d t t) (k.n-(t+1)) (t+1)=true)(ht:t<k.n)(ht2:t<k.m)(F:FsO k s.S n) :
  FnT prog 184 #[.pointer (some ⟨k.g,0,none⟩),.w t] h n (λv e a=>h=e/\∃ms0,a=ms0++n/\v=.tuple #[.w 0,.bool false]):=by
 refine Aco (pre:=[]) (post:=λv _=>v=.tuple #[.w 0,.bool false]) λy l1 z=>?_;have I:=I0.le l1;have hn:=I.hn;have hm:=I.hm;have P:=qC 5 I.seg Y;have O:=qC 6 I.seg Y;have u:=qC 2 I.seg Y;have M:=I.rd.rd.one;have rD:Rd y [] k.hd 1 k.n (k.vd.flatMap cU):=by have:=I.rd.rd;rwa [I.ld]at this
 obtain⟨vt,T,R⟩:=Hu I.rd I.ld ht;obtain⟨rT,sT⟩:=F.elF z hO ht ht2 T;have L:=rT.one;have Sp:=G5 hp1;generalize hpe:AP s.S.d t t=p at *;have f:=AA (Ba p.natAbs);refine Au func184 ntmps184 Y Y<|λ_ _=>U<|G Y<|J Y<|X<|U<|G Y<|E (oA Y) Y<|J Y<|Ag<|AC (λq r e a=>∃(i:Nat),k.n-i=q/\r=[(0,.pointer (some ⟨k.g,0,none⟩)),(1,.w t),(6,.w i)]/\y=e/\t<i/\i<=k.n/\L2 s.S.d k.m t p (k.n-i) i=true) (k.n-(t+1)) _ ⟨t+1,Y,Y,Y,Z,Z,hd⟩ Qs ?_;rintro q r e a ⟨i,rfl,rfl,rfl,hti,hin,c⟩;refine X<|U<|D Y Y<|G Y<|Qf Jx Y<|E (A5 0 Y Wh By Y Y Y Z) Y<|Ql Y U3 (P _)<|J Y<|Ay Y (λhlt=>?_)<|λhlt=>?_
 .have hi:i<k.n:=Z
  obtain⟨vi,S,Q⟩:=Hu I.rd I.ld hi;rw[show k.n-i=(k.n-(i+1))+1 by omega]at c;unfold L2 at c;rw[df]at c;refine Cg<|X<|Ag<|U<|G Y<|E (oA Y) Y<|J Y<|Ag<|AC (λq r e a=>∃(j:Nat),k.m-j=q/\r=[(0,.pointer (some ⟨k.g,0,none⟩)),(1,.w t),(6,.w i),(7,.w j)]/\y=e/\t<j/\j<=k.m/\TW s.S.d t i p (k.m-j) j=true) (k.m-(t+1)) _ ⟨t+1,Y,Y,Y,Z,Z,c.1⟩ Qs ?_;rintro q r e a ⟨j,rfl,rfl,rfl,htj,hjm,b⟩;refine X<|U<|D Y Y<|G Y<|Qf Jx Y<|E (A5 1 Y Wh By Y Y Y Z) Y<|Ql Y U3 (O _)<|J Y<|Ay Y (λA=>?_)<|λA=>?_
  .have hj:j<k.m:=Z
   rw[show k.m-j=(k.m-(j+1))+1 by omega]at b;unfold TW at b;rw[df,io]at b;obtain⟨hz,b⟩:=b;obtain⟨rI,sIJ⟩:=F.elF z hO hi hj S;have K:=rI.one;have Sx:=Sz.of (hO.bd i j) Z;generalize AP s.S.d i j=x at *;have m:=AA (Ba x.natAbs);have g:=AA (Ba (x/p).natAbs);have l:=AA (Ba (x%p).natAbs);have or0:=AA (Ba (0:Int).natAbs);refine Cg<|X<|Ag<|Bu (λr e a=>∃d B,r=[(0,.pointer (some ⟨k.g,0,none⟩)),(1,.w t),(6,.w i),(7,.w j),(9,.pt d)]/\y=e/\a=BE d 33 (Bg (x%p))::B) ?_<|λs h n hI=>?_
   .refine AS (n:=32) (bs:=[W,W,W,W,W,W,W,W,W,W,W,W,W,W,W,W,W,W,W,W,W,W,W,W,W,W,W,lw,lw,lw,lw,lw]) [W,W,W,W,W,W,W,W,W,W,W,W,W,W,W,W,W,W,W,W,W,W,W,W,W,W,W] Cx V V Y Y<|Qq Y<|Qq Y<|QF Cj Y<|QF Em Y<|QL Y CK (u _)<|Qq Y<|Qp Y (BP (i) rD.any Y CK En Y Y)<|QL Y CJ (Q _)<|Qq Y<|Qp Y (BP (j) rI.any Y CJ Av Y Y)<|Qp Y (oG Y Bn Av<|sIJ.any)<|Qq Y<|Qq Y<|QF Cj Y<|QF Em Y<|QL Y CK (u _)<|Qq Y<|Qp Y (BP (t) rD.any Y CK En Y Y)<|QL Y CJ (R _)<|Qq Y<|Qp Y (BP (t) rT.any Y CJ Av Y Y)<|Qp Y (oG Y Bn Av<|sT.any)<|Qp Y (As Y call100 Y<|F5 x p Sx hp0 Z _ _)<|Qq Y<|Qq Y<|Qq Y<|Qq Y<|AO [27,28] V Y<|Al Y ?_ ?_
    .refine BJ [.bool false,.es] Y Av Y Y<|λg8=>Qw<|Qo 28 Y<|BJ [.bool false,.es] Y Av Y Y<|λd=>Qw<|Qo 29 Y ?_;refine Sa 1 [_,_] Av Y (by simp[M,L,K,f,m,g,l]) ?_;refine Qw<|Qo 30 Y ?_;refine Sa 0 [_,_] Av Y (by simp[M,L,K,f,m,g,l]) ?_;refine Qw<|Qo 31 Y<|G Y<|Qw<|Qe<|AI _ ⟨d,_,Y,Y,Y⟩ Qs
    refine Al Y ?_ ?_
    .refine BJ [.bool false,.es] Y Av Y Y<|λd=>Qw<|Qo 27 Y<|BJ [.bool false,.es] Y Av Y Y<|λg8=>Qw<|Qo 29 Y ?_;refine Sa 0 [_,_] Av Y (by simp[M,L,K,f,m,g,l]) ?_;refine Qw<|Qo 30 Y ?_;refine Sa 1 [_,_] Av Y (by simp[M,L,K,f,m,g,l]) ?_;refine Qw<|Qo 31 Y<|G Y<|Qw<|Qe ?_
     (refine XU ?_;exact AI _ ⟨d,_,Y,Y,Y⟩ Qs)
    exact AN
   .obtain⟨d,B,rfl,rfl,rfl⟩:=hI;rw[hz];have s9:∀n,Seg y (BE d 33 (Bg 0)::n) (⟨d,0,none⟩:Addr) (Bg 0):=λn=>Seg.blk 0 Y;refine U<|E (oG Y Bn Av<|s9 _) Y<|E (As Y call60 Y<|Df 0 (Sz.of (B:=0) (Bq.zero 0) H) _ _) Y<|J Y<|Ay Y (λhc=>lj hc ((λq=>q Y)))<|λhc=>Ah<|D2<|Ad<|G Y<|E (oA Y) Y<|G Y<|Am<|Aq (k.m-(j+1)) _ Z ⟨j+1,Y,Y,Y,Z,Z,b⟩ Qs
  .have hjm':j=k.m:=Z
   refine C<|D2<|Ad<|G Y<|E (oA Y) Y<|G Y<|Am<|Aq (k.n-(i+1)) _ Z ⟨i+1,Y,Y,Y,Z,Z,c.2⟩ Qs
 .refine C<|Ab<|U<|G Y<|J Y<|Aj<|Cw Y Y Y<|Y
theorem ZH(k:Wk)(S:FS)(t B:Nat)(h:Hp)(ms:List Hp)(I:k.In h)(n:S.Ok k.n k.m B)(hB:B<=1000000)(b:t<k.n)(F:FsO k S ms) :
  FnT prog 186 #[.pointer (some ⟨k.g,0,none⟩),.w t] h ms (λ_ O c=>h=O/\FsO k (S.neg k.n k.m t) c):=by
 have hn:=I.hn;have hm:=I.hm;obtain⟨mu,g,md,mv,a,rfl,z,e,v,Vv,Vvi⟩:=F;have A:=qC 2 I.seg Y;have K:=qC 0 I.seg Y;have s:=qC 1 I.seg Y;have od:=I.rd.rd.one;have ou:=I.ru.rd.one;have oui:=I.rui.rd.one;have rD:Rd h [] k.hd 1 k.n (k.vd.flatMap cU):=by have:=I.rd.rd;rwa [I.ld]at this
 have rU:Rd h [] k.hu 1 k.n (k.vu.flatMap cU):=by have:=I.ru.rd;rwa [I.lu]at this
 have rUI:Rd h [] k.hui 1 k.n (k.vui.flatMap cU):=by have:=I.rui.rd;rwa [I.lui]at this
 obtain⟨vt,p,L⟩:=Hu I.rd I.ld b;obtain⟨vut,d,m⟩:=Hu I.ru I.lu b;obtain⟨_,rT0⟩:=FC (h:=h) (ms:=[mu,g,md,mv,a]) n.sd v (.tail _ (.tail _ (.head _))) b p;have oT:=rT0.one;refine Au func186 ntmps186 Y Y<|λ_ _=>X<|U<|D Y Y<|Qf Cj Y<|Qf Em Y<|Ql Y CK (A _)<|G Y<|E (AR _ rD.any Y CK En Y Y Y Z) Y<|Ql Y CJ (L _)<|E (Aw rT0 Y CJ Y) Y<|J Y<|Ag<|AC (λq sl O c=>∃(j:Nat) (i:Hp),k.m-j=q/\sl=[(0,.pointer (some ⟨k.g,0,none⟩)),(1,.w t),(14,.w k.m),(15,.w j)]/\h=O/\c=[mu,g,i,mv,a]/\j<=k.m/\VsO Bg 2 33 i k.vd (negRow t S.d j)) (k.m-0) _ ⟨0,md,Y,Y,Y,Y,Z,v⟩ Qs ?_;rintro q sl O c ⟨j,i,rfl,rfl,rfl,rfl,hj,v⟩;refine U<|J Y<|X<|Ay Y (λP=>?_)<|λP=>?_
 .have hjm:j<k.m:=Z
  have u:=n.sd.negRow t j;obtain⟨_,rT⟩:=FC (h:=h) (ms:=[i,mu,g,mv,a]) u v (.head _) b p;have eT:AP (negRow t S.d j) t j=AP S.d t j:=by rw[Fp n.sd b j Z,af Z]
  have sT:=Ha (h:=h) (ms:=[i,mu,g,mv,a]) u v (.head _) b hjm p;have Sx:=Sz.of (n.bd t j) Z;have Q:negRow t S.d (j+1)=F9 (negRow t S.d j) t j (-(AP S.d t j)):=by show F9 _ _ _ _=_;rw[eT]
  rw[eT]at sT;generalize AP S.d t j=x at *;have ox_:=AA (Ba x.natAbs);have on_:=AA (Ba (-x).natAbs);refine Cg<|X<|Ag<|U<|G Y<|J Y<|Et 2 Y<|AS (n:=23) (bs:=[W,W,W,W,W,W,W,W,W,W,W,W,W,W,W,W,W,W,W,lw,lw,W,lw]) [W,W,W,W,W,W,W,W,W,W,W,W,W,W,W,W,W,W,W,lw,lw,W] Cx V V Y Y<|Qq Y<|Qq Y<|QF Cj Y<|QF Em Y<|QL Y CK (A _)<|Qq Y<|Qp Y (BP (t) rD.any Y CK En Y Y)<|QL Y CJ (L _)<|Qq Y<|Qq Y<|Qq Y<|QF Cj Y<|QF Em Y<|QL Y CK (A _)<|Qq Y<|Qp Y (BP (t) rD.any Y CK En Y Y)<|QL Y CJ (L _)<|Qq Y<|Qp Y (Be (j) rT Y CJ Av Y Y Z Z)<|Qp Y (Be (j) rT Y CJ Av Y Y Z Z)<|Qo 19 Y<|E (oG Y Bn Av<|sT) Y<|Qw<|Qo 20 Y<|E (As Y call231 Y<|J2 x Sx _ _) Y<|Qw<|Qo 22 Y<|DR t j (-x) u v b hjm vt p Y Av Y Y Y Y<|λm2 Vd2=>Qw<|Qe<|D2<|Ad<|E (oA Y) Y<|G Y<|Am<|Eo 2 Y<|Eo 2 Y ?_;exact Aq (k.m-(j+1)) _ Z ⟨j+1,m2,Y,Y,Y,Y,Z,by rw[Q];exact Vd2⟩ Qs
 .obtain rfl:j=k.m:=Z
  obtain⟨_,rU0⟩:=FC (h:=h) (ms:=[mu,g,i,mv,a]) n.su z (.head _) b d;have oUT:=rU0.one;refine C<|Ab<|U<|D Y Y<|Qf Cj Y<|Qf KQ Y<|Ql Y CK (K _)<|G Y<|E (BP (t) rU.any Y CK En Y Y) Y<|Ql Y CJ (m _)<|E (Aw rU0 Y CJ Y) Y<|J Y<|Ag<|AC (λq sl O c=>∃(j:Nat) (R r:Hp),k.n-j=q/\sl=[(0,.pointer (some ⟨k.g,0,none⟩)),(1,.w t),(49,.w k.n),(50,.w j)]/\h=O/\c=[R,r,i,mv,a]/\j<=k.n/\VsO Bg 2 33 R k.vu (negRow t S.u j)/\VsO Bg 2 33 r k.vui (negCol t S.ui j)) (k.n-0) _ ⟨0,mu,g,Y,Y,Y,Y,Z,z,e⟩ Qs ?_;rintro q sl O c ⟨j,R,r,rfl,rfl,rfl,rfl,hj,z,e⟩;refine U<|J Y<|X<|Ay Y (λP=>?_)<|λP=>?_
  .have f:j<k.n:=Z
   have u:=n.su.negRow t j;have Tj:=n.sui.negCol t j;obtain⟨_,rT⟩:=FC (h:=h) (ms:=[R,r,i,mv,a]) u z (.head _) b d;have eT:AP (negRow t S.u j) t j=AP S.u t j:=by rw[Fp n.su b j Z,af Z]
   have sT:=Ha (h:=h) (ms:=[R,r,i,mv,a]) u z (.head _) b f d;have Sx:=Sz.of (n.bu t j) Z;have Q:negRow t S.u (j+1)=F9 (negRow t S.u j) t j (-(AP S.u t j)):=by show F9 _ _ _ _=_;rw[eT]
   rw[eT]at sT;obtain⟨vj,M,cvj⟩:=Hu I.rui I.lui f;have eU:AP (negCol t S.ui j) j t=AP S.ui j t:=by rw[HV n.sui b j Z,af Z]
   have sU0:∀l,Seg h [r,l,i,mv,a] ((AJ vj).add (t*2)) (Bg (AP (negCol t S.ui j) j t)):=λl=>Ha (h:=h) Tj e (.head _) f b M;have rJ0:∀l,∃cs,Rd h [r,l,i,mv,a] vj 2 k.n cs:=λl=>FC (h:=h) Tj e (.head _) f M;have Sy:=Sz.of (n.bui j t) Z;have hsu:negCol t S.ui (j+1)=F9 (negCol t S.ui j) j t (-(AP S.ui j t)):=by show F9 _ _ _ _=_;rw[eU]
   rw[eU]at sU0;generalize AP S.u t j=x at *;generalize AP S.ui j t=y at *;have ox_:=AA (Ba x.natAbs);have on_:=AA (Ba (-x).natAbs);have oy_:=AA (Ba y.natAbs);have om_:=AA (Ba (-y).natAbs);refine Cg<|X<|Ag<|U<|G Y<|J Y<|X<|AS (n:=23) (bs:=[W,W,W,W,W,W,W,W,W,W,W,W,W,W,W,W,W,W,W,lw,lw,W,lw]) [W,W,W,W,W,W,W,W,W,W,W,W,W,W,W,W,W,W,W,lw,lw,W] Cx V V Y Y<|Qq Y<|Qq Y<|QF Cj Y<|QF KQ Y<|QL Y CK (K _)<|Qq Y<|Qp Y (BP (t) rU.any Y CK En Y Y)<|QL Y CJ (m _)<|Qq Y<|Qq Y<|Qq Y<|QF Cj Y<|QF KQ Y<|QL Y CK (K _)<|Qq Y<|Qp Y (BP (t) rU.any Y CK En Y Y)<|QL Y CJ (m _)<|Qq Y<|Qp Y (Be (j) rT Y CJ Av Y Y Z Z)<|Qp Y (Be (j) rT Y CJ Av Y Y Z Z)<|Qo 19 Y<|E (oG Y Bn Av<|sT) Y<|Qw<|Qo 20 Y<|E (As Y call231 Y<|J2 x Sx _ _) Y<|Qw<|Qo 22 Y<|DR t j (-x) u z b f vut d Y Av Y Y Y Y<|λb1 Vu2=>Qw<|Qe<|Ab<|Et 1 Y ?_;obtain⟨_,rJ⟩:=rJ0 b1;have sU:=sU0 b1;have oJ:=rJ.one;refine AS (n:=23) (bs:=[W,W,W,W,W,W,W,W,W,W,W,W,W,W,W,W,W,W,W,lw,lw,W,lw]) [W,W,W,W,W,W,W,W,W,W,W,W,W,W,W,W,W,W,W,lw,lw,W] Cx V V Y Y<|Qq Y<|Qq Y<|QF Cj Y<|QF MF Y<|QL Y CK (s _)<|Qq Y<|Qp Y (BP (j) rUI.any Y CK En Y Y)<|QL Y CJ (cvj _)<|Qq Y<|Qq Y<|Qq Y<|QF Cj Y<|QF MF Y<|QL Y CK (s _)<|Qq Y<|Qp Y (BP (j) rUI.any Y CK En Y Y)<|QL Y CJ (cvj _)<|Qq Y<|Qp Y (Be (t) rJ Y CJ Av Y Y Z Z)<|Qp Y (Be (t) rJ Y CJ Av Y Y Z Z)<|Qo 19 Y<|E (oG Y Bn Av<|sU) Y<|Qw<|Qo 20 Y<|E (As Y call231 Y<|J2 y Sy _ _) Y<|Qw<|Qo 22 Y<|DR j t (-y) Tj e f b vj M Y Av Y Y Y Y<|λb2 T=>Qw<|Qe<|D2<|Ad<|E (oA Y) Y<|G Y<|Am<|Eo 1 Y ?_;exact Aq (k.n-(j+1)) _ Z ⟨j+1,b1,b2,Y,Y,Y,Y,Z,by rw[Q];exact Vu2,by rw[hsu];exact T⟩ Qs
  .obtain rfl:j=k.n:=Z
   refine C<|CC Y (⟨Y,R,r,i,mv,a,Y,z,e,v,Vv,Vvi⟩)
theorem Dk(r c:Nat)(f:Nat->Nat->Int):Shape r c (BN r c f):=⟨DB r c f,λi b=>by
 have a:i<(BN r c f).length:=by rw[DB];exact b
 rw[show(BN r c f).getD i []=(BN r c f)[i] by simp[List.getD,a]]
 simp[BN,Cc]⟩
theorem HA(r c:Nat)(f:Nat->Nat->Int)(i j:Nat):AP (BN r c f) i j=if i<r/\j<c then f i j else 0:=by
 unfold AP BN;by_cases a:i<r
 .have e:((range r).map λi=>DC c (f i)).getD i []=DC c (f i):=by simp[List.getD,a]
  rw[e];by_cases b:j<c
  .rw[ah ⟨a,b⟩];simp[List.getD,DC,b]
  .rw[af (by simp[b])];simp[List.getD,DC,b]
 .rw[af (by simp[a])];have e:((range r).map λi=>DC c (f i)).getD i []=[]:=by simp[List.getD,a]
  rw[e];rfl
theorem I7{r c:Nat}{f:Nat->Nat->Int}(h:∀i j,i<r->j<c->Bq 33 (f i j)):BqM 33 (BN r c f):=λi j=>by
 rw[HA];split
 .rename_i q;exact h i j q.1 q.2
 .exact Bq.zero _
theorem QM(i j:Nat):Bq 33 (JF i j):=by
 unfold JF;split
 .exact bq_one.mono H
 .exact Bq.zero _
def QD(r c:Nat)(f:Nat->Nat->Int):St:=⟨⟨BN r r JF,BN r r JF,BN r c f,BN c c JF,BN c c JF⟩,0⟩
theorem Ahi{r c:Nat}{f:Nat->Nat->Int}(h:∀i j,i<r->j<c->Bq 33 (f i j)):(QD r c f).S.Ok r c (33*(QD r c f).b+33):=
 ⟨Dk _ _ _,Dk _ _ _,Dk _ _ _,Dk _ _ _,Dk _ _ _,I7 λ_ _ _ _=>QM _ _,I7 λ_ _ _ _=>QM _ _,I7 h,I7 λ_ _ _ _=>QM _ _,I7 λ_ _ _ _=>QM _ _⟩
def SmR(v:Value)(h:Hp)(r c:Nat)(S:FS):Prop:=∃eu eui ed ev evi,v=.agg #[.int .i64 r,.int .i64 r,eu,.int .i64 r,.int .i64 r,eui,.int .i64 r,.int .i64 c,ed,.int .i64 c,.int .i64 c,ev,.int .i64 c,.int .i64 c,evi]/\RdL Bg 2 h [] eu S.u.flatten/\RdL Bg 2 h [] eui S.ui.flatten/\RdL Bg 2 h [] ed S.d.flatten/\RdL Bg 2 h [] ev S.v.flatten/\RdL Bg 2 h [] evi S.vi.flatten
theorem Aai(va:Value)(r c:Nat)(f:Nat->Nat->Int)(s':St)(h:Hp)(A:MW va h r c (Eb r c f))(hf:∀i j,i<r->j<c->Bq 33 (f i j))(hc:D8 r c (min r c) 0 (QD r c f)=some s') :
  FnT prog 147 #[va] h [] (λv Q ms'=>h.le Q/\ms'=[]/\s'.S.Ok r c (33*s'.b+33)/\s'.b<=20000/\SmR v Q r c s'.S):=by
 have hr:=A.hr;have x:=A.hc;have A0:=A;obtain⟨ea,rfl,RA⟩:=A.ex;have oa:=RA.rd.one;refine Au func147 ntmps147 Y Y<|λ_ _=>U<|AK [_,_,_] Y Y ξ Y Y Y<|λg1=>BJ [.w 0,.w 0,.nl,.w 0,.w 0,.nl,.w 0,.w 0,.nl,.w 0,.w 0,.nl,.w 0,.w 0,.nl] Y NB Y Y<|λg2=>Ao<|Ak 1 Y λP l1 hS1=>?_;have l01:=l1;have A1:=A0.up l1;have sg1:∀Q,P.le Q->∀y,Seg Q y (⟨g1,0,none⟩:Addr) [.w r,.w c,ea]:=λQ l y=>Seg.any (hS1.le l);have c10:=qD 0 hS1 Y;have c11:=qD 1 hS1 Y;refine X<|U<|E (oG Y Iw BQ<|sg1 _ (Bk) _) Y<|E (As Y call146 Y<|IS _ r c _ P A1 _) Y<|J Y<|AM Y<|Cg<|Bu (λsl Q ms'=>∃g3 g4 e3 e4,sl=[(1,.pt g1),(2,.pt g2),(3,.pt g3),(4,.pt g4)]/\P.le Q/\ms'=[BE g4 91 [.w c,.w c,e4],BE g3 91 [.w r,.w r,e3],BE g2 144 [.w 0,.w 0,.nl,.w 0,.w 0,.nl,.w 0,.w 0,.nl,.w 0,.w 0,.nl,.w 0,.w 0,.nl]]/\MW (.agg #[.w r,.w r,e3]) Q r r (Eb r r JF)/\MW (.agg #[.w c,.w c,e4]) Q c c (Eb c c JF)) ?_<|λs h y hI=>?_
 .refine AS (n:=10) (bs:=[W,W,lw,W,W,lw,lw,lw,lw,lw]) [W,W,lw,W,W] Cx κ κ Y Y<|QF E3 Y<|QL Y U3 (c10 _ (Bk) _)<|QF Dx Y<|QL Y U3 (c11 _ (Bk) _)<|AO [2,6,7] κ Y<|Al Y ?_ ?_;refine AE (pre:=[]) Y call180 Y (EH r hr P) Y Y Y Y<|λz2 k2 ms2 l2 a=>?_;obtain⟨g,rfl,K⟩:=a;obtain⟨e3,rfl,R3⟩:=K.ex;have o3:=R3.rd.one;refine Qa<|AO [5,6,7] κ Y<|Al Y ?_ ?_;refine AE (pre:=[]) Y call180 Y (EH c x k2) Y Y Y Y<|λz5 k5 L l5 a=>?_;obtain⟨e,rfl,b⟩:=a;obtain⟨e4,rfl,R4⟩:=b.ex;have o4:=R4.rd.one;have B:=N g e;refine Qa<|AO [6,7] κ Y<|Al Y ?_ ?_;refine BJ [.w 0,.w 0,.nl] Y BQ Y Y<|λg3=>Qa<|Qo 7 Y<|BJ [.w 0,.w 0,.nl] Y BQ Y Y<|λg4=>Qa ?_
  rotate_left
  refine Al Y ?_ ?_;refine BJ [.w 0,.w 0,.nl] Y BQ Y Y<|λg4=>Qa<|Qo 6 Y<|BJ [.w 0,.w 0,.nl] Y BQ Y Y<|λg3=>Qa ?_
  rotate_left
  exact AN;refine Al Y ?_ ?_;refine BJ [.w 0,.w 0,.nl] Y BQ Y Y<|λg3=>Qa<|AO [5,7] κ Y<|Al Y ?_ ?_;refine AE (pre:=[]) Y call180 Y (EH c x k2) Y Y Y Y<|λz5 k5 L l5 a=>?_;obtain⟨e,rfl,b⟩:=a;obtain⟨e4,rfl,R4⟩:=b.ex;have o4:=R4.rd.one;have B:=N g e;refine Qa<|Qo 7 Y<|BJ [.w 0,.w 0,.nl] Y BQ Y Y<|λg4=>Qa ?_
  rotate_left
  refine Al Y ?_ ?_;refine BJ [.w 0,.w 0,.nl] Y BQ Y Y<|λg4=>Qa<|Qo 5 Y<|AE (pre:=[]) Y call180 Y (EH c x k2) Y Y Y Y<|λz5 k5 L l5 a=>?_;obtain⟨e,rfl,b⟩:=a;obtain⟨e4,rfl,R4⟩:=b.ex;have o4:=R4.rd.one;have B:=N g e;refine Qa ?_
  rotate_left
  exact AN;refine Al Y ?_ ?_;refine BJ [.w 0,.w 0,.nl] Y BQ Y Y<|λg4=>Qa<|AO [5,6] κ Y<|Al Y ?_ ?_;refine AE (pre:=[]) Y call180 Y (EH c x k2) Y Y Y Y<|λz5 k5 L l5 a=>?_;obtain⟨e,rfl,b⟩:=a;obtain⟨e4,rfl,R4⟩:=b.ex;have o4:=R4.rd.one;have B:=N g e;refine Qa<|Qo 6 Y<|BJ [.w 0,.w 0,.nl] Y BQ Y Y<|λg3=>Qa ?_
  rotate_left
  refine Al Y ?_ ?_;refine BJ [.w 0,.w 0,.nl] Y BQ Y Y<|λg3=>Qa<|Qo 5 Y<|AE (pre:=[]) Y call180 Y (EH c x k2) Y Y Y Y<|λz5 k5 L l5 a=>?_;obtain⟨e,rfl,b⟩:=a;obtain⟨e4,rfl,R4⟩:=b.ex;have o4:=R4.rd.one;have B:=N g e;refine Qa ?_
  rotate_left
  exact AN;exact AN;refine Al Y ?_ ?_;refine BJ [.w 0,.w 0,.nl] Y BQ Y Y<|λg3=>Qw<|AO [2,7] κ Y<|Al Y ?_ ?_;refine AE (pre:=[]) Y call180 Y (EH r hr P) Y Y Y Y<|λz2 k2 ms2 l2 a=>?_;obtain⟨g,rfl,K⟩:=a;obtain⟨e3,rfl,R3⟩:=K.ex;have o3:=R3.rd.one;refine Qa<|AO [5,7] κ Y<|Al Y ?_ ?_;refine AE (pre:=[]) Y call180 Y (EH c x k2) Y Y Y Y<|λz5 k5 L l5 a=>?_;obtain⟨e,rfl,b⟩:=a;obtain⟨e4,rfl,R4⟩:=b.ex;have o4:=R4.rd.one;have B:=N g e;refine Qa<|Qo 7 Y<|BJ [.w 0,.w 0,.nl] Y BQ Y Y<|λg4=>Qa ?_
  rotate_left
  refine Al Y ?_ ?_;refine BJ [.w 0,.w 0,.nl] Y BQ Y Y<|λg4=>Qa<|Qo 5 Y<|AE (pre:=[]) Y call180 Y (EH c x k2) Y Y Y Y<|λz5 k5 L l5 a=>?_;obtain⟨e,rfl,b⟩:=a;obtain⟨e4,rfl,R4⟩:=b.ex;have o4:=R4.rd.one;have B:=N g e;refine Qa ?_
  rotate_left
  exact AN;refine Al Y ?_ ?_;refine BJ [.w 0,.w 0,.nl] Y BQ Y Y<|λg4=>Qw<|Qo 2 Y<|AE (pre:=[]) Y call180 Y (EH r hr P) Y Y Y Y<|λz2 k2 ms2 l2 a=>?_;obtain⟨g,rfl,K⟩:=a;obtain⟨e3,rfl,R3⟩:=K.ex;have o3:=R3.rd.one;refine Qa<|Qo 5 Y<|AE (pre:=[]) Y call180 Y (EH c x k2) Y Y Y Y<|λz5 k5 L l5 a=>?_;obtain⟨e,rfl,b⟩:=a;obtain⟨e4,rfl,R4⟩:=b.ex;have o4:=R4.rd.one;have B:=N g e;refine Qa ?_
  rotate_left
  exact AN;refine Al Y ?_ ?_;refine BJ [.w 0,.w 0,.nl] Y BQ Y Y<|λg4=>Qw<|AO [2,6] κ Y<|Al Y ?_ ?_;refine AE (pre:=[]) Y call180 Y (EH r hr P) Y Y Y Y<|λz2 k2 ms2 l2 a=>?_;obtain⟨g,rfl,K⟩:=a;obtain⟨e3,rfl,R3⟩:=K.ex;have o3:=R3.rd.one;refine Qa<|AO [5,6] κ Y<|Al Y ?_ ?_;refine AE (pre:=[]) Y call180 Y (EH c x k2) Y Y Y Y<|λz5 k5 L l5 a=>?_;obtain⟨e,rfl,b⟩:=a;obtain⟨e4,rfl,R4⟩:=b.ex;have o4:=R4.rd.one;have B:=N g e;refine Qa<|Qo 6 Y<|BJ [.w 0,.w 0,.nl] Y BQ Y Y<|λg3=>Qa ?_
  rotate_left
  refine Al Y ?_ ?_;refine BJ [.w 0,.w 0,.nl] Y BQ Y Y<|λg3=>Qa<|Qo 5 Y<|AE (pre:=[]) Y call180 Y (EH c x k2) Y Y Y Y<|λz5 k5 L l5 a=>?_;obtain⟨e,rfl,b⟩:=a;obtain⟨e4,rfl,R4⟩:=b.ex;have o4:=R4.rd.one;have B:=N g e;refine Qa ?_
  rotate_left
  exact AN;refine Al Y ?_ ?_;refine BJ [.w 0,.w 0,.nl] Y BQ Y Y<|λg3=>Qw<|Qo 2 Y<|AE (pre:=[]) Y call180 Y (EH r hr P) Y Y Y Y<|λz2 k2 ms2 l2 a=>?_;obtain⟨g,rfl,K⟩:=a;obtain⟨e3,rfl,R3⟩:=K.ex;have o3:=R3.rd.one;refine Qa<|Qo 5 Y<|AE (pre:=[]) Y call180 Y (EH c x k2) Y Y Y Y<|λz5 k5 L l5 a=>?_;obtain⟨e,rfl,b⟩:=a;obtain⟨e4,rfl,R4⟩:=b.ex;have o4:=R4.rd.one;have B:=N g e;refine Qa ?_
  rotate_left
  exact AN;exact AN
  all_goals
   refine Qo 8 Y ?_
   first|refine Sa 0 [_,_,_] BQ Y (by simp[oa,o3,o4]) ?_|refine Sa 1 [_,_,_] BQ Y (by simp[oa,o3,o4]) ?_
   refine Qa<|Qo 9 Y ?_
   first|refine Sa 0 [_,_,_] BQ Y (by simp[oa,o3,o4]) ?_|refine Sa 1 [_,_,_] BQ Y (by simp[oa,o3,o4]) ?_
   refine Qa<|Qe ?_
   first|exact AI _ ⟨g3,g4,e3,e4,Y,B,Y,K.up e,b⟩ Qs|(refine XU ?_;exact AI _ ⟨g3,g4,e3,e4,Y,B,Y,K.up e,b⟩ Qs)
 .obtain⟨g3,g4,e3,e4,rfl,l12,rfl,K,b⟩:=hI;have A2:=A1.up l12;refine Ak 0 Y λh3 l3 hS4=>Ak 0 Y λh4 l4 hS3=>?_
  have l24:=N l3 l4;have l14:=N l12 l24;have o3:=(K.ex.choose_spec.2).rd.one;have sg3:∀Q,h4.le Q->∀y,Seg Q y (⟨g3,0,none⟩:Addr) [.w r,.w r,e3]:=λQ l y=>Seg.any (hS3.le l);have sg4:∀Q,h4.le Q->∀y,Seg Q y (⟨g4,0,none⟩:Addr) [.w c,.w c,e4]:=λQ l y=>Seg.any (hS4.le (N l4 l));have B3:=K.up l24;have B4:=b.up l24;have BA:=A2.up l24;refine X<|AS (n:=19) (bs:=[W,lw,W,lw,W,lw,W,lw,W,lw,lw,W,W,W,W,W,lw,lw,lw]) [W,lw,W,lw,W,lw,W,lw,W,lw,lw,W,W,W,W,W] Cx κ κ Y Y<|Qp Y (oG Y Iw BQ<|sg3 _ (Bk) _)<|Qp Y (oG Y Iw BQ<|sg3 _ (Bk) _)<|Qp Y (oG Y Iw BQ<|sg1 _ l14 _)<|Qp Y (oG Y Iw BQ<|sg4 _ (Bk) _)<|Qp Y (oG Y Iw BQ<|sg4 _ (Bk) _)<|QF E3 Y<|QL Y U3 (c10 _ l14 _)<|QF Dx Y<|QL Y U3 (c11 _ l14 _)<|Qp Y (Aaz [.w 0,.w 0] [(0,[_]),(1,[_])] [_,_] Y Wh Ain Y By Y Qt Y)<|Qo 1 Y<|AE (pre:=[]) Y call181 Y (Oy _ r r JF h4 B3) Y Y Y Y<|λhu k1 ms1 l1 a=>?_;obtain⟨j1,mu,vu,rfl,Ru,Lu,Vu⟩:=a;have ou:=Ru.rd.one;refine Qa<|Qo 3 Y<|AE (pre:=[]) Y call181 Y (Oy _ r r JF k1<|B3.up j1) Y Y Y Y<|λhui k2 ms2 l2 a=>?_;obtain⟨j2,mui,vui,rfl,Rui,Lui,Vui⟩:=a;have oui:=Rui.rd.one;have j12:=N j1 j2;refine Qa<|Qo 5 Y<|AE (pre:=[]) Y call181 Y (Oy _ r c f k2<|BA.up j12) Y Y Y Y<|λhd k3 ms3 l3 a=>?_;obtain⟨j3,md,vd,rfl,Rd_,Ld,Vd⟩:=a;have od:=Rd_.rd.one;have j13:=N j12 j3;refine Qa<|Qo 7 Y<|AE (pre:=[]) Y call181 Y (Oy _ c c JF k3<|B4.up j13) Y Y Y Y<|λhv k4 ms4 l4 a=>?_;obtain⟨j4,mv,vv,rfl,Rv,Lv,Vv⟩:=a;have ov:=Rv.rd.one;have j14:=N j13 j4;refine Qa<|Qo 9 Y<|AE (pre:=[]) Y call181 Y (Oy _ c c JF k4<|B4.up j14) Y Y Y Y<|λhvi k5 L l5 a=>?_;obtain⟨j5,mvi,vvi,rfl,Rvi,Lvi,Vvi⟩:=a;have ovi:=Rvi.rd.one;have j15:=N j14 j5;obtain⟨au,cu,rfl,_⟩:=Ru.rd.ex;obtain⟨aui,cui,rfl,_⟩:=Rui.rd.ex;obtain⟨ad,cd,rfl,_⟩:=Rd_.rd.ex;obtain⟨av,cv,rfl,_⟩:=Rv.rd.ex;obtain⟨avi,cvi,rfl,_⟩:=Rvi.rd.ex;refine Qa<|A7 10 30 κ Y (by assumption) Y (AQ Aik [.nl,.nl,.nl,.nl,.nl] [(0,_),(1,_),(2,_),(3,_),(4,_)] [_,_,_,_,_] Y AhZ Y Y Qt Y)<|A7 16 36 κ Y (by assumption) Y (AQ Ah4 [.nl,.nl,.nl,.nl,.nl,.w 0,.w 0] [(0,_),(5,_)] [_,_,_,_,_,_,_] Y Ah3 Y Y Qt Y)<|Qo 17 Y<|AK [_,_,_,_,_,_,_] Y Y ξ Y Y Y<|λT=>Qa<|Qo 18 Y<|G Y<|Qa<|Qe<|Ak 0 Y λh5 l5 hS37=>?_;have l45:=N j15 l5;obtain⟨k,hk⟩:∃k:Wk,k=⟨T,r,c,.slice au vu.length cu,.slice aui vui.length cui,.slice ad vd.length cd,.slice av vv.length cv,.slice avi vvi.length cvi,vu,vui,vd,vv,vvi⟩:=⟨_,Y⟩
  have I5:k.In h5:=by rw[hk];exact⟨hS37,hr,x,(Ru.up (N j2 (N j3 (N j4 j5)))).up l5,(Rui.up (N j3 (N j4 j5))).up l5,(Rd_.up (N j4 j5)).up l5,(Rv.up j5).up l5,Rvi.up l5,Lu,Lui,Ld,Lv,Lvi⟩
  have F0:FsO k (QD r c f).S [mu,mui,md,mv,mvi]:=by rw[hk];exact⟨mu,mui,md,mv,mvi,Y,Vu,Vui,Vd,Vv,Vvi⟩
  have ekn:k.n=r:=by rw[hk]
  have ekm:k.m=c:=by rw[hk]
  have ekg:k.g=T:=by rw[hk]
  have O0:OkS k (QD r c f):=by show FS.Ok _ _ _ _;rw[ekn,ekm];exact Ahi hf
  refine Et 1 Y<|Et 2 Y<|Et 3 Y<|Et 4 Y ?_;have os1:=AA (Ba 1);refine Ab<|U<|E (As Y call95 Y<|Fy 1 H _ _) Y<|BJ [.bool false,.es] Y Av Y Y<|λg6=>?_;refine Sa 0 [_,_] Av Y (by simp[os1]) ?_;refine Ao<|Lf ?_;have B:P.le h5:=N l14 l45;refine Bu (λsl Q ms'=>∃mx,sl=[(1,.pt g1),(2,.pt g2),(5,.pt T)]/\h5.le Q/\ms'=mx++[BE g2 144 [.w 0,.w 0,.nl,.w 0,.w 0,.nl,.w 0,.w 0,.nl,.w 0,.w 0,.nl,.w 0,.w 0,.nl]]/\OkS k s'/\s'.b<=20000/\FsO k s'.S mx) ?_<|λs h y hI=>?_
  .refine X<|Ad<|J Y<|Ag ?_;refine AC (λq sl Q ms'=>∃(t:Nat) (s:St) (mx:List Hp),min r c-t=q/\sl=[(1,.pt g1),(2,.pt g2),(5,.pt T),(7,.w t)]/\h5.le Q/\ms'=mx++[BE g2 144 [.w 0,.w 0,.nl,.w 0,.w 0,.nl,.w 0,.w 0,.nl,.w 0,.w 0,.nl,.w 0,.w 0,.nl]]/\t<=min r c/\OkS k s/\s.b<=20000/\FsO k s.S mx/\D8 r c (min r c-t) t s=some s') (min r c) _ ⟨0,QD r c f,_,Y,Y,Bk,Y,Z,O0,by show(0:Nat)<=_;omega,F0,hc⟩ Qs ?_;rintro q sl Q ms' ⟨t,s,mx,rfl,rfl,lh,rfl,htm,hO,hb,F,d⟩;have I:=I5.le lh;have l1h:=N B lh;obtain⟨mu,mui,md,mv,mvi,hms,hVs⟩:=F;have F:FsO k s.S mx:=⟨mu,mui,md,mv,mvi,hms,hVs⟩
   subst hms;refine X<|U<|G Y<|Qf E3 Y<|Ql Y U3 (c10 _ l1h _)<|Qf Dx Y<|Ql Y U3 (c11 _ l1h _)<|E (W4 Y Y Y) Y<|D Y Y<|AY (t:=46) Y (λhlt=>?_)<|λhlt=>?_
   .have htr:t<k.n:=Z
    have htc:t<k.m:=Z
    obtain⟨s1,r1,e1⟩:∃s1 r1,EK r c t s=some (s1,r1):=by
     rw[show min r c-t=(min r c-(t+1))+1 by omega]at d;unfold D8 at d;rw[ah Z]at d;cases hq:EK r c t s with
     | none=>rw[hq]at d;cases d
     | some p=>exact⟨p.1,p.2,Y⟩
    have e1k:EK k.n k.m t s=some (s1,r1):=by rw[ekn,ekm];exact e1
    have hb1:=Adc hb e1k;refine Qg (Ap Y Y) Y<|Qg (Ap Y Y) Y<|Dz Y Y Y Y ?_;refine AE (pre:=[mu,mui,md,mv,mvi]) Y call182 Y ((by have:=Adv k s s1 t r1 Q _ I hO hb e1k htr htc F;rw[ekg]at this;exact this)) Y Y Y Y<|λz2 k2 ms2 l2 a=>?_;obtain⟨g,rfl,hO1,F1⟩:=a;refine J Y<|B1 Y (λhr1=>?_)<|λhr1=>?_
    .subst hr1
     obtain⟨s2,e2,e3⟩:∃s2,IR r c t s1=some s2/\D8 r c (min r c-(t+1)) (t+1) s2=some s':=by
      rw[show min r c-t=(min r c-(t+1))+1 by omega]at d;unfold D8 at d;rw[ah Z,e1]at d;simp only at d;cases hq:IR r c t s1 with
      | none=>rw[hq]at d;cases d
      | some s2=>rw[hq]at d;exact⟨s2,Y,d⟩
     obtain⟨O,e4,hp0,hp1,hdv,e5⟩:∃O,Dy r c t 10 s1=some O/\AP O.S.d t t≠0/\(AP O.S.d t t).natAbs<2147483648/\L2 O.S.d c t (AP O.S.d t t) (r-(t+1)) (t+1)=true/\(if AP O.S.d t t<0 then some ⟨O.S.neg r c t,O.b⟩ else some O)=some s2:=by
      unfold IR at e2;cases hq:Dy r c t 10 s1 with
      | none=>rw[hq]at e2;cases e2
      | some O=>
       rw[hq]at e2;simp only at e2;by_cases P:AP O.S.d t t=0\/Uf (AP O.S.d t t)=false
       .rw[ah P]at e2;cases e2
       .rw[af P]at e2;by_cases h2:L2 O.S.d c t (AP O.S.d t t) (r-(t+1)) (t+1)=true
        .rw[ah h2]at e2;exact⟨O,Y,λq=>P (.inl q),ON λq=>P (.inr q),h2,e2⟩
        .rw[af h2]at e2;cases e2
     have e4k:Dy k.n k.m t 10 s1=some O:=by rw[ekn,ekm];exact e4
     have hdvk:L2 O.S.d k.m t (AP O.S.d t t) (k.n-(t+1)) (t+1)=true:=by rw[ekn,ekm];exact hdv
     have hbx:=UT hb1 e4k;have l1k:=N l1h g;have I2:=I.le g;refine Cg<|X<|Ag<|X<|Ag<|AC (λq sl hh ms'=>sl=[(1,.pt g1),(2,.pt g2),(5,.pt T),(7,.w t)]/\k2=hh/\ms'=ms2++[BE g2 144 [.w 0,.w 0,.nl,.w 0,.w 0,.nl,.w 0,.w 0,.nl,.w 0,.w 0,.nl,.w 0,.w 0,.nl]]) 0 _ ⟨Y,Y,Y⟩ Qs ?_;rintro q sl hh ms' ⟨rfl,rfl,rfl⟩;refine Ag<|U<|D Y Y ?_;refine AE (pre:=ms2) Y call183 Y ((by have:=AaZ k s1 O t 10 k2 _ I2 hO1 e4k htr htc F1;rw[ekg]at this;exact this)) Y Y Y Y<|λz3 k3 ms3 l3 a=>?_;obtain⟨l3',hOx,Fx⟩:=a;refine BF<|D Y Y ?_;refine AE (pre:=ms3) Y call184 Y ((by have:=W9 k O t k3 _ (I2.le l3') hOx hbx hp0 hp1 hdvk htr htc Fx;rw[ekg]at this;exact this)) Y Y Y Y<|λz4 k4 ms4 l4 a=>?_;obtain⟨rfl,m0,rfl,rfl⟩:=a;rw[du];refine Ih ?_ m0;refine D Y Y<|D Y Y<|J Y<|X<|U<|G Y<|J Y<|B1 Y (λhq=>?_)<|λhq=>?_
     .have l35:=N lh (N g l3');have I3:=I2.le l3';have cd_:∀y,Cell k3 y ((⟨T,0,none⟩:Addr).add 2) k.hd:=λy=>by have:=((I3.seg 2 _ Y).any (ms:=y));rw[ekg]at this;exact this
      have rD:Rd k3 [] k.hd 1 k.n (k.vd.flatMap cU):=by have:=I3.rd.rd;rwa [I3.ld]at this
      obtain⟨vt,evt,cvt⟩:=Hu I3.rd I3.ld htr;have od:=rD.one;obtain⟨_,rT0⟩:=Fx.rw_ (h:=k3) hOx htr evt;have rT:Rd k3 (ms3++[BE g2 144 [.w 0,.w 0,.nl,.w 0,.w 0,.nl,.w 0,.w 0,.nl,.w 0,.w 0,.nl,.w 0,.w 0,.nl]]) vt 2 k.m _:=rT0.sub (λm hm=>eg _ hm);have oT:=rT0.one;have sTT:=(Fx.el (h:=k3) hOx htr htc evt).sub (a:=ms3++[BE g2 144 [.w 0,.w 0,.nl,.w 0,.w 0,.nl,.w 0,.w 0,.nl,.w 0,.w 0,.nl,.w 0,.w 0,.nl]]) (λm hm=>eg _ hm);have Sp:=G5 hp1;have ox_:=AA (Ba (AP O.S.d t t).natAbs);refine Az<|Aa<|SD Y<|Aa<|Af<|Ab<|U<|D Y Y<|Qf Cj Y<|Qf Em Y<|Ql Y CK (cd_ _)<|G Y<|E (BP (t) rD.any Y CK En Y Y) Y<|Ql Y CJ (cvt _)<|G Y<|E (Be (t) rT Y CJ Av Y Y Z Z) Y<|E (oG Y Bn Av<|sTT) Y<|E (As Y call60 Y<|Df _ Sp _ _) Y<|J Y<|Ay Y (λhneg=>?_)<|λhneg=>?_
      .have hng:AP O.S.d t t<0:=by
        rcases Int.lt_trichotomy (AP O.S.d t t) 0 with h|h|h
        .exact h
        .rw[h]at hneg;exact lj hneg H
        .rw[Int.sign_eq_one_of_pos h]at hneg;exact lj hneg H
       rw[ah hng]at e5;have e5:=ay e5;subst e5;refine Ad<|D Y Y ?_;refine AE (pre:=ms3) Y call186 Y ((by have:=ZH k O.S t _ k3 _ I3 hOx Z htr Fx;rw[ekg]at this;exact this)) Y Y Y Y<|λz5 k5 L l5 a=>?_;obtain⟨rfl,Fn⟩:=a;rw[ekn,ekm]at Fn;have On:OkS k ⟨O.S.neg r c t,O.b⟩:=by have:=FS.Ok.neg hOx htr;rw[ekn,ekm]at this;show FS.Ok _ _ _ _;rw[ekn,ekm];exact this
       refine Am<|D2<|Ad<|G Y<|E (oA Y) Y<|G Y<|Am<|Aq (min r c-(t+1)) _ Z ⟨t+1,_,L,Y,Y,l35,Y,Z,On,hbx,Fn,e3⟩ Qs
      .have hng:¬AP O.S.d t t<0:=λh=>hneg (by rw[Int.sign_eq_neg_one_of_neg h];decide);rw[af hng]at e5;have e5:=ay e5;subst e5;refine Ah<|D2<|Ad<|G Y<|E (oA Y) Y<|G Y<|Am<|Aq (min r c-(t+1)) _ Z ⟨t+1,_,ms3,Y,Y,l35,Y,Z,hOx,hbx,Fx,e3⟩ Qs
     .exact lj hq H
    .subst hr1
     have e2:s1=s':=by rw[show min r c-t=(min r c-(t+1))+1 by omega]at d;unfold D8 at d;rw[ah Z,e1]at d;exact ay d
     subst e2;refine C<|AI _ ⟨ms2,Y,N lh g,Y,hO1,hb1,F1⟩ Qs
   .have e2:s=s':=by
     cases hq:min r c-t with
     | zero=>rw[hq]at d;exact ay d
     | succ q=>
      rw[hq]at d;unfold D8 at d;rw[af Z]at d;exact ay d
    subst e2;refine DM Y Y<|Qk Y<|J Y<|AM Y<|C<|AI _ ⟨_,Y,lh,Y,hO,hb,F⟩ Qs
  .obtain⟨mx,rfl,lh,rfl,hO,hb,F⟩:=hI;obtain⟨mu,mui,md,mv,mvi,rfl,Vu,Vui,Vd,Vv,Vvi⟩:=F;have I:=I5.le lh;have u:s'.S.Ok r c (33*s'.b+33):=by have:FS.Ok _ _ _ _:=hO;rw[ekn,ekm]at this;exact this
   refine Ng λh6 l6 mu6=>Ng λh7 l7 mui7=>Ng λh8 l8 md8=>Ng λh9 l9 mv9=>Ng λh10 l10 mvi10=>?_
   have q89:=N l8 (N l9 l10);have q9:=N l9 l10;have q7:=N l7 q89;have q6:=N l6 q7;have z:=I.le q6;have l110:=N B (N lh q6);have J6:∀{hv:Value} {vs:List Value} {M:List (List Int)} {m:Hp},RdL cU 1 h10 [] hv vs->VsO Bg 2 33 m vs M->m.le h10->GrR hv h10 vs M:=λR V lm=>⟨R,V.len,λi P h2=>V.rdh lm P h2⟩
   have Gu:=J6 z.ru Vu (N mu6 q7);have Gui:=J6 z.rui Vui (N mui7 q89);have Gd:=J6 z.rd Vd (N md8 q9);have Gv:=J6 z.rv Vv (N mv9 l10);have Gvi:=J6 z.rvi Vvi mvi10
   have shl:∀{n c:Nat} {M:List (List Int)},Shape n c M->n<=200->c<=200->M.length<=1000/\M.flatten.length<=1000000:=λ{n c M} S hn hc=>by
    have P:=S.len
    have h2:M.flatten.length=M.length*c:=Tx λl hl=>by obtain⟨i,hi,rfl⟩:=ee hl;have:=S.row i (by rw[<-S.len];exact hi);simpa[List.getD,hi] using this
    have h3:M.length*c<=200*200:=fx Z hc;omega
   have Su:=shl u.su hr hr;have Sui:=shl u.sui hr hr;have Sd_:=shl u.sd hr x;have Sv:=shl u.sv x x;have Svi:=shl u.svi x x;have eu:=u.su.len;have eui:=u.sui.len;have ed:=u.sd.len;have ev_:=u.sv.len;have evi:=u.svi.len;have f0:∀y,Cell h10 y ((⟨T,0,none⟩:Addr).add 0) k.hu:=λy=>by have:=((z.seg 0 _ Y).any (ms:=y));rw[ekg]at this;exact this
   have f1:∀y,Cell h10 y ((⟨T,0,none⟩:Addr).add 1) k.hui:=λy=>by have:=((z.seg 1 _ Y).any (ms:=y));rw[ekg]at this;exact this
   have f2:∀y,Cell h10 y ((⟨T,0,none⟩:Addr).add 2) k.hd:=λy=>by have:=((z.seg 2 _ Y).any (ms:=y));rw[ekg]at this;exact this
   have f3:∀y,Cell h10 y ((⟨T,0,none⟩:Addr).add 3) k.hv:=λy=>by have:=((z.seg 3 _ Y).any (ms:=y));rw[ekg]at this;exact this
   have f4:∀y,Cell h10 y ((⟨T,0,none⟩:Addr).add 4) k.hvi:=λy=>by have:=((z.seg 4 _ Y).any (ms:=y));rw[ekg]at this;exact this
   have w0:=z.ru.rd.one;have w1:=z.rui.rd.one;have w2:=z.rd.rd.one;have w3:=z.rv.rd.one;have w4:=z.rvi.rd.one;refine X<|AS (n:=42) (bs:=[W,W,W,W,W,W,W,lw,W,W,W,W,W,W,W,lw,W,W,W,W,W,W,W,lw,W,W,W,W,W,W,W,lw,W,W,W,W,W,W,W,lw,lw,lw]) [W,W,W,W,W,W,W,lw,W,W,W,W,W,W,W,lw,W,W,W,W,W,W,W,lw,W,W,W,W,W,W,W,lw,W,W,W,W,W,W,W] Cx κ κ rfl rfl<|Qq rfl<|Qq rfl<|QF Cj rfl<|QF KQ rfl<|QL rfl CK (f0 _)<|QF E3 rfl<|QL rfl U3 (c10 _ l110 _)<|Qq rfl<|Qq rfl<|QF Cj rfl<|QF MF rfl<|QL rfl CK (f1 _)<|QF E3 rfl<|QL rfl U3 (c10 _ l110 _)<|Qq rfl<|Qq rfl<|QF Cj rfl<|QF Em rfl<|QL rfl CK (f2 _)<|QF Dx rfl<|QL rfl U3 (c11 _ l110 _)<|Qq rfl<|Qq rfl<|QF Cj rfl<|QF Yu rfl<|QL rfl CK (f3 _)<|QF Dx rfl<|QL rfl U3 (c11 _ l110 _)<|Qq rfl<|Qq rfl<|QF Cj rfl<|QF XK rfl<|QL rfl CK (f4 _)<|QF Dx rfl<|QL rfl U3 (c11 _ l110 _)<|Qo 7 rfl<|AE (pre:=[]) rfl call187 rfl (KA _ _ s'.S.u r h10 Gu Su.1 Su.2) rfl rfl rfl rfl<|λzu k1 ms1 l1 a=>?_;obtain⟨j1,rfl,xu,rfl,Xu⟩:=a;have ou:=Xu.rd.one;refine Qa<|Qo 15 rfl<|AE (pre:=[]) rfl call187 rfl (KA _ _ s'.S.ui r k1 ⟨Gui.hd.up j1,Gui.len,λi P h2=>(Gui.row i P h2).up j1⟩ Sui.1 Sui.2) rfl rfl rfl rfl<|λzui k2 ms2 l2 a=>?_;obtain⟨j2,rfl,xui,rfl,Xui⟩:=a;have oui:=Xui.rd.one;have j12:=N j1 j2;refine Qa<|Qo 23 rfl<|AE (pre:=[]) rfl call187 rfl (KA _ _ s'.S.d c k2 ⟨Gd.hd.up j12,Gd.len,λi P h2=>(Gd.row i P h2).up j12⟩ Sd_.1 Sd_.2) rfl rfl rfl rfl<|λzd k3 ms3 l3 a=>?_;obtain⟨j3,rfl,xd,rfl,Xd⟩:=a;have od:=Xd.rd.one;have j13:=N j12 j3;refine Qa<|Qo 31 rfl<|AE (pre:=[]) rfl call187 rfl (KA _ _ s'.S.v c k3 ⟨Gv.hd.up j13,Gv.len,λi P h2=>(Gv.row i P h2).up j13⟩ Sv.1 Sv.2) rfl rfl rfl rfl<|λzv k4 ms4 l4 a=>?_;obtain⟨j4,rfl,xv,rfl,Xv⟩:=a;have ov:=Xv.rd.one;have j14:=N j13 j4;refine Qa<|Qo 39 rfl<|AE (pre:=[]) rfl call187 rfl (KA _ _ s'.S.vi c k4 ⟨Gvi.hd.up j14,Gvi.len,λi P h2=>(Gvi.row i P h2).up j14⟩ Svi.1 Svi.2) rfl rfl rfl rfl<|λzvi k5 L l5 a=>?_;obtain⟨j5,rfl,xvi,rfl,Xvi⟩:=a;have ovi:=Xvi.rd.one;have j15:=N j14 j5;obtain⟨a1,b1,rfl,_⟩:=Xu.rd.ex;obtain⟨a2,b2,rfl,_⟩:=Xui.rd.ex;obtain⟨a3,b3,rfl,_⟩:=Xd.rd.ex;obtain⟨a4,b4,rfl,_⟩:=Xv.rd.ex;obtain⟨a5,b5,rfl,_⟩:=Xvi.rd.ex;refine Qa ?_;refine A7 40 129 κ rfl (by assumption) rfl (AQ AhK [.w 0,.w 0,.nl,.w 0,.w 0,.nl,.w 0,.w 0,.nl,.w 0,.w 0,.nl,.w 0,.w 0,.nl] [(0,_),(3,_),(6,_),(9,_),(12,_)] [_,_,_,_,_,_,_,_,_,_,_,_,_,_,_] rfl NB rfl rfl (by repeat (first|exact fu|refine⟨⟨rfl,rfl,rfl⟩,?_⟩|refine⟨⟨(rT).cells,rfl,rfl⟩,?_⟩)) rfl) ?_;refine Qo 41 rfl ?_;refine Sa 0 [_,_,_,_,_,_,_,_,_,_,_,_,_,_,_] NB rfl (by simp[Value.oneCell']) ?_;refine Qa<|Qe ?_;rw[eu,eui,ed,ev_,evi];refine Ab<|Aj<|BC (vs:=[_,_,_,_,_,_,_,_,_,_,_,_,_,_,_]) 0 rfl rfl AhY rfl NB rfl rfl (⟨N l01<|N l110 j15,rfl,u,hb,_,_,_,_,_,rfl,Xu.up<|N j2<|N j3<|N j4 j5,Xui.up<|N j3<|N j4 j5,Xd.up<|N j4 j5,Xv.up j5,Xvi⟩)
theorem ItrS.itr{P:Program}{m:FuncId}{n:List Value}{h:Hp}{N:Nat}{e:Nat->List Value}(I:ItrS P m n h N e):Itr P m n h N e:=λQ X y R L B v=>
 (I Q X (λ_ _ _=>False) y R L (λk z l K O A w M=>by
  obtain⟨t,g,i,b,p,s⟩:=B k z l K O A w M
  exact⟨t,g,i,b,p,s.mono λx S ⟨r,u,j,a,c,d⟩=>⟨r,u,j,a,c,.inl d⟩⟩) v).mono λ_ _ _ q=>q.resolve_right λ⟨_,_,f⟩=>f
theorem My(n:Int)(b:Sz n)(h:Hp)(a:List Hp):FnV prog 99 #[WD n] h a (.bool (decide (n=0))):=by refine D9 ?_ a;have d:=AA (Ba n.natAbs);refine Au func99 ntmps99 Y Y<|λ_ _=>U<|AK [_,_] Y Y ξ Y Y Y<|λe=>G Y<|BF<|E (oG Y Bn Av<|Seg.blk 0 Y) Y<|E (As Y call60 Y<|Df n b _ _) Y<|G Y<|J Y<|Aj<|Ar Y Y<|bh Value.bool<|fy.2 di
theorem ZC(m a:Int)(i:m.natAbs<4294967296)(j:Sz a)(h:Hp)(k:List Hp):FnV prog 149 #[WD m,WD a] h k (.bool (decide (m∣a))):=by
 refine D9 ?_ k;have c:=AA (Ba m.natAbs);have b:=AA (Ba a.natAbs);have d:=AA (Ba (a/m).natAbs);have e:=AA (Ba (a%m).natAbs);have g:Sz m:=Sz.of (B:=32) i H;refine Au func149 ntmps149 Y Y<|λ_ _=>U<|AK [_,_] Y Y ξ Y Y Y<|λp=>AK [_,_] Y Y ξ Y Y Y<|λr=>J Y<|X<|U<|E (oG Y Bn Av<|Seg.blk 1 Y) Y<|E (As Y call99 Y<|My m g _ _) Y<|Ao<|Ay Y (λf=>?_)<|λf=>?_
 .subst f;refine U<|E (oG Y Bn Av<|Seg.blk 0 Y) Y<|E (As Y call99 Y<|My a j _ _) Y<|J Y<|Aj<|Ae<|Ar Y Y<|bh Value.bool<|fy.2 Int.zero_dvd.symm
 .have l:Sz (a%m):=Sz.of (B:=32) (dr (KM f) i) H;refine I<|U<|E (oG Y Bn Av<|Seg.blk 0 Y) Y<|E (oG Y Bn Av<|Seg.blk 1 Y) Y<|E (As Y call100 Y<|F5 a m j f i _ _) Y<|D Y Y<|D Y Y<|BJ [.bool false,.es] Y Av Y Y<|λs=>BJ [.bool false,.es] Y Av Y Y<|λt=>?_;refine Sa 1 [_,_] Av Y (by simp[c,b,d,e]) ?_;refine Sa 0 [_,_] Av Y (by simp[c,b,d,e]) ?_;refine G Y<|BF<|E (oG Y Bn Av<|Seg.blk 0 Y) Y<|E (As Y call99 Y<|My (a%m) l _ _) Y<|J Y<|Aj<|Ar Y Y<|bh Value.bool<|fy.2 Int.dvd_iff_emod_eq_zero.symm
theorem AeI(l:List Int)(v:Value)(h:Hp)(R:RdL Bg 2 h [] v l)(hl:l.length<=100000)(hs:∀x∈l,Sz x):FnT prog 148 #[v] h [] (λr b a=>h.le b/\a=[]/\RdL Bg 2 b [] r l):=by
 refine FnT.frz (post:=λr b a=>h.le b/\∃m,a=[m]/\OwnL Bg 2 33 m r l) ?_ λr b a ⟨e,m,e2,O⟩=>⟨m,[],e2,λh2 l2 lm=>⟨N e l2,Y,O.rdh lm⟩⟩
 obtain⟨n,B⟩:∃n,l.length=n:=⟨_,Y⟩
 have ov:=R.rd.one;have T:Rd h [] v 2 n (l.flatMap Bg):=by have:=R.rd;rwa [B]at this
 refine Au func148 ntmps148 Y Y<|λ_ _=>U<|G Y<|BF<|G Y<|E (Aw T.any Y CJ Y) Y<|KK FF Z (0:Int) (n:=n) Y CJ Av Y Y Y Z Z Z Z Y Y Y<|λg8 ev m hev f=>?_;have oe:=f.o1;refine J Y<|X<|U<|G Y<|E (Aw T.any Y CJ Y) Y<|J Y<|Ag ?_;refine AC (λq sl b a=>∃(k:Nat) (d:Hp),n-k=q/\sl=[(0,v),(3,ev),(9,v),(10,.w n),(11,.w k)]/\h.le b/\a=[d]/\k<=n/\OwnL Bg 2 33 d ev (l.take k++replicate (n-k) 0)) (n-0) _ ⟨0,m,Y,Y,Bk,Y,Z,by rw[List.take_zero,aw];exact f⟩ Qs ?_;rintro q sl b a ⟨k,d,rfl,rfl,L,rfl,hk,f⟩;refine U<|J Y<|X<|Ay Y (λA=>?_)<|λA=>?_
 .have y:k<n:=Z
  have j:k<l.length:=Z
  obtain⟨x,K⟩:∃x,l[k]=x:=⟨_,Y⟩
  have sx:Sz x:=K ▸ hs _ (aq j);have Q:=AA (Ba x.natAbs);have p:RdL Bg 2 b [] v l:=R.up L;have gE:∀g,Seg b g ((AJ v).add (k*2)) (Bg x):=λg=>by rw[<-K];exact(p.any (ms:=g)).seg j
  have rV:Rd b [d] v 2 n (l.flatMap Bg):=by have:=p.rd.any (ms:=[d]);rwa [B]at this
  refine I<|X<|Ag<|U<|G Y<|E (BP (k) rV Y CJ Av Y Y) Y<|E (oG Y Bn Av<|gE _) Y<|BJ [.bool false,.es] Y Av Y Y<|λg5=>G Y ?_;refine Sa 0 [_,_] Av Y (by simp[ov,oe,Q]) ?_;refine Ao<|AH λt l5 u=>?_;have M:=N L l5;have z:(l.take k++replicate (n-k) 0).length=n:=by rw[ag,bf,List.length_replicate];omega
  have s:∀g,Seg t g (⟨g5,0,none⟩:Addr) (Bg x):=λg=>u.any;have S:Rd t [d] ev 2 n ((l.take k++replicate (n-k) 0).flatMap Bg):=by have:=(f.rd (h:=t) (ms:=[d]) Mh).rd;rwa [z]at this
  refine Ad<|D Y Y<|E (oG Y Bn Av<|s _) Y<|E (AQ JP [.bool false,.es] [] [_,_] Y Av Y Y Qt Y) Y<|E (As Y call156 Y<|Nz x 0 sx (by unfold Sz;decide) _ _) Y ?_;refine E (BP (k) S Y CJ Av Y Y) Y<|EY 0 k (x+0) f Y Av Y Y Y (E8 _) Y Z Y Y<|λP i=>?_;have c:=Rl (l:=l) (k:=k) (n:=n) y B;rw[K]at c;rw[il,c]at i;refine Am<|D2<|Ad<|E (oA Y) Y<|G Y<|Am<|Aq (n-(k+1)) _ Z ⟨k+1,P,Y,Y,M,Y,Z,i⟩ Qs
 .obtain rfl:k=n:=Z
  rw[Nat.sub_self,List.replicate_zero,append_nil,take_of_length_le (by omega)]at f;refine Az (Aa (Aa (Af (Ab (Ax (Qm rfl (Qm rfl (Ao (Aj ?_)))))))));exact Ar rfl rfl (⟨L,d,rfl,f⟩)
def SZ(c:Nat)(L:List Int)(k:Nat):Int:=if k<c then L.getD (k*c+k) 0 else 0
def Ae1(c:Nat)(L:List Int)(k:Nat):List Value:=[.int .i64 k,WD (SZ c L k)]
theorem Qi(g:Nat)(A:Value)(r c:Nat)(L:List Int)(h:Hp)(M:MW A h r c L)(j:∀ev,A=.agg #[.int .i64 r,.int .i64 c,ev]->Seg h [] ⟨g,0,none⟩ [.int .i64 r,.int .i64 c,ev]):ItrS prog 150 [.pointer (some ⟨g,0,none⟩)] h r (Ae1 c L):=by
 intro P X Y B y O hY h0;show FnT _ _ #[.func (.yield P) #[] #[],.pt g] _ _ _;have hr:=M.hr;have hc:=M.hc;have M:=M.up O;obtain⟨ev,rfl,R⟩:=M.ex;have j:=(j ev rfl).le O;have oe:=R.rd.one;have Q:=qD 0 j rfl;have S:=qD 1 j rfl;have T:∀t,B.le t->∀y,Seg t y (⟨g,0,none⟩:Addr) [.w r,.w c,ev]:=fun t l y=>j.any.le l;refine Au func150 ntmps150 rfl rfl<|fun w0 hw0=>?_;simp only[AW];refine Ac<|BH<|BV (oF E3 rfl) rfl rfl rfl<|BV (oL rfl U3<|Q _ (Bk) _) rfl rfl rfl<|BV (Ap rfl rfl) rfl rfl rfl<|C4<|Ab<|Ag ?_
 refine AC (fun q s m f=>∃(k:Nat),q=r-k/\s=[(0,.func (.yield P) #[] #[]),(1,.pt g),(6,.w r),(7,.w k)]/\B.le m/\k<=r/\X k m f)
  (r-0) _ ⟨0,rfl,rfl,Bk,Z,h0⟩ Qs ?_
 rintro q s m f ⟨k,rfl,rfl,i,hk,K⟩;refine Ac<|BH<|BV (Dw rfl rfl rfl) rfl rfl rfl<|C4<|Ab<|Ac ?_;refine Ay rfl (fun v=>?_)<|fun v=>?_
 .have n:k<r:=Z
  have b:=hY k m f n i K;unfold Ae1 SZ at b;refine I<|Ac<|Ag<|U<|G rfl<|G rfl<|BF<|E (AQ JP [.bool false,.es] [] [_,_] rfl Av rfl rfl Qt rfl) rfl<|BJ [.bool false,.es] rfl Av rfl rfl<|fun g4=>?_;refine Sa 0 [_,_] Av rfl (by simp[Value.oneCell']) ?_;refine Ao<|Ac<|U<|G rfl<|Qf Dx rfl<|Ql rfl U3 (S _ i _)<|G rfl<|Ao ?_;refine Ay rfl (fun u=>?_)<|fun u=>?_
  .have d:k<c:=Z
   rw[ah d]at b;have p:=AA (Ba (L.getD (k*c+k) 0).natAbs);refine Ad<|E (oG rfl Iw BQ<|T _ i _) rfl<|G rfl<|G rfl<|E (As rfl call151 rfl<|AhN _ r c k k L m (M.up i) n d _) rfl ?_;refine Sa 0 [_,_] Av rfl (by simp[oe,AA,p]) ?_;refine Ao<|Ac<|BH<|BV (Ap rfl rfl) rfl rfl rfl<|BV (Ap rfl rfl) rfl rfl rfl<|BV (oG rfl Bn Av<|Seg.blk 0 rfl) rfl rfl rfl<|SO<|K4 rfl rfl rfl (b) rfl rfl rfl<|fun r' h2 z x e=>?_;rcases e with ⟨rfl,a⟩|⟨rfl,a⟩
   .refine BV (Dg rfl rfl) rfl rfl rfl<|C4<|Ab<|AM rfl<|Ah<|D2<|BH<|BV (oA rfl) rfl rfl rfl<|BV (Ap rfl rfl) rfl rfl rfl<|C4<|Aq (r-(k+1)) _ Z ⟨k+1,rfl,rfl,N i x,Z,a⟩ Qs
   .refine BV (Dg rfl rfl) rfl rfl rfl<|C4<|Ab<|A4 rfl<|Aj<|An<|Ae<|Ae<|An<|La rfl<|.inr ⟨k,Z,a⟩
  .have d:¬k<c:=Z
   rw[af d]at b;have p:=AA (Ba (0:Int).natAbs);refine I<|Ac<|BH<|BV (Ap rfl rfl) rfl rfl rfl<|BV (Ap rfl rfl) rfl rfl rfl<|BV (oG rfl Bn Av<|Seg.blk 0 rfl) rfl rfl rfl<|SO<|K4 rfl rfl rfl (b) rfl rfl rfl<|fun r' h2 z x e=>?_;rcases e with ⟨rfl,a⟩|⟨rfl,a⟩
   .refine BV (Dg rfl rfl) rfl rfl rfl<|C4<|Ab<|AM rfl<|Ah<|D2<|BH<|BV (oA rfl) rfl rfl rfl<|BV (Ap rfl rfl) rfl rfl rfl<|C4<|Aq (r-(k+1)) _ Z ⟨k+1,rfl,rfl,N i x,Z,a⟩ Qs
   .refine BV (Dg rfl rfl) rfl rfl rfl<|C4<|Ab<|A4 rfl<|Aj<|An<|Ae<|Ae<|An<|La rfl<|.inr ⟨k,Z,a⟩
 .obtain rfl:k=r:=Z
  refine C<|CC rfl<|.inl K
theorem Xm(a:Value)(r c:Nat)(L:List Int)(h:Hp)(M:MW a h r c L):FnT prog 98 #[a] h [] (λw d b=>h=d/\∃g ev,a=.agg #[.int .i64 r,.int .i64 c,ev]/\w=.func (.func 150) #[] #[.pointer (some ⟨g,0,none⟩)]/\b=[BE g 91 [.int .i64 r,.int .i64 c,ev]]):=by obtain⟨ev,rfl,R⟩:=M.ex;have o1:=R.rd.one;refine Au func98 ntmps98 Y Y<|λ_ _=>U<|AK [_,_,_] Y Y ξ Y Y Y<|λf=>G Y<|BF<|E (BI Y Y Y) Y<|J Y<|Aj<|Ar Y Y (⟨Y,_,ev,Y,Y,Y⟩)
def ubF(S:FS)(r:Nat)(b:Nat->Int)(i:Nat):Int:=sm r λq=>AP S.u i q*b q
def EqR(v:Value)(h:Hp)(r c:Nat)(S:FS)(cl:List Int):Prop:=∃eu eui ed ev evi ec,v=.agg #[.int .i64 r,.int .i64 r,eu,.int .i64 r,.int .i64 r,eui,.int .i64 r,.int .i64 c,ed,.int .i64 c,.int .i64 c,ev,.int .i64 c,.int .i64 c,evi,ec]/\RdL Bg 2 h [] eu S.u.flatten/\RdL Bg 2 h [] eui S.ui.flatten/\RdL Bg 2 h [] ed S.d.flatten/\RdL Bg 2 h [] ev S.v.flatten/\RdL Bg 2 h [] evi S.vi.flatten/\RdL Bg 2 h [] ec cl
theorem XX(va bv:Value)(r c:Nat)(f:Nat->Nat->Int)(b:Nat->Int)(d:St)(h:Hp)(A:MW va h r c (Eb r c f))(hf:∀i j,i<r->j<c->Bq 33 (f i j))(hfp:D8 r c (min r c) 0 (QD r c f)=some d)(B:RdL Bg 2 h [] bv (DC r b))(hb:∀i,i<r->Bq 100 (b i)) :
  FnT prog 96 #[va,bv] h [] (λw a K=>h.le a/\K=[]/\d.S.Ok r c 660033/\∃v,w=.tuple #[v,.bool true]/\EqR v a r c d.S (DC r (ubF d.S r b))):=by
 refine FnT.frz (post:=λw a K=>h.le a/\d.S.Ok r c 660033/\∃g eu e P ev k ec m,w=.tuple #[.agg #[.w r,.w r,eu,.w r,.w r,e,.w r,.w c,P,.w c,.w c,ev,.w c,.w c,k,ec],.bool true]/\K=[m]/\RdL Bg 2 a [] eu d.S.u.flatten/\RdL Bg 2 a [] e d.S.ui.flatten/\RdL Bg 2 a [] P d.S.d.flatten/\RdL Bg 2 a [] ev d.S.v.flatten/\RdL Bg 2 a [] k d.S.vi.flatten/\OwnL Bg 2 33 m ec (DC r (ubF d.S r b))/\g=0) ?_ λw a K q=>?_
 .have hr:=A.hr;have hcc:=A.hc;have A0:=A;obtain⟨ea,rfl,RA⟩:=A.ex;have oa:=RA.rd.one;have ob:=B.rd.one
  have hsb:∀x∈DC r b,Sz x:=λx hx=>by obtain⟨i,hi,rfl⟩:=ai.1 hx;exact Sz.of (hb i<|b6.1 hi) H
  have rB:∀a,h.le a->Rd a [] bv 2 r ((DC r b).flatMap Bg):=λa l=>by have:=(B.up l).rd;rwa [Cc]at this
  refine Au func96 ntmps96 Y Y<|λ_ _=>U<|AK [_,_,_] Y Y ξ Y Y Y<|λg2=>BJ [.w 0,.w 0,.nl,.w 0,.w 0,.nl,.w 0,.w 0,.nl,.w 0,.w 0,.nl,.w 0,.w 0,.nl,.nl] Y J0 Y Y<|λg4=>J Y<|Ak 1 Y λh1 l1 hS1=>?_;have A1:=A0.up l1;have sg1:∀a,h1.le a->∀M,Seg a M (⟨g2,0,none⟩:Addr) [.w r,.w c,ea]:=λa l M=>Seg.any (hS1.le l);have c10:=qD 0 hS1 Y;refine X<|U<|E (oG Y Iw BQ<|sg1 _ (Bk) _) Y<|E (As Y call146 Y<|IS _ r c _ h1 A1 _) Y<|D Y Y<|Qg (Ap Y Y) Y<|Qg (Aw (rB _ l1).any Y CJ Y) Y<|Qg (oF E3 Y) Y<|Qg (oL Y U3<|c10 _ (Bk) _) Y<|Qg (FV Y Y Y) Y<|J Y<|Ay Y (λhc=>lj hc σ)<|λhc=>I<|U<|E (oG rfl Iw BQ<|sg1 _ (Bk) _) rfl<|Qc call147 rfl (Aai _ r c f d h1 A1 hf hfp)<|λv h2 ms2 L hF=>?_;obtain⟨l2',rfl,O0,hb2,eu,e,P,ev,k,rfl,R,u,s,Rv,y⟩:=hF;have O:d.S.Ok r c 660033:=O0.mono Z;have ou:=R.rd.one;have oui:=u.rd.one;have od:=s.rd.one;have ov:=Rv.rd.one;have ovi:=y.rd.one;refine BJ [.w 0,.w 0,.nl,.w 0,.w 0,.nl,.w 0,.w 0,.nl,.w 0,.w 0,.nl,.w 0,.w 0,.nl] Y NB Y Y<|λg6=>?_;refine Sa 0 [_,_,_,_,_,_,_,_,_,_,_,_,_,_,_] NB Y (by simp[oa,ob,ou,oui,od,ov,ovi]) ?_;refine Ao<|Ak 0 Y λh3 l3 hS6=>?_;have l13:=N l2' l3;have l03:=N l1 l13;obtain⟨au,cu,rfl,_⟩:=R.rd.ex;have ex6:(.slice au d.S.u.flatten.length cu:Value)=.slice au (r*r) cu:=by rw[O.mu,Ci]
  have sgu:∀a,h3.le a->∀M,Seg a M (⟨g6,0,none⟩:Addr) [.w r,.w r,.slice au d.S.u.flatten.length cu]:=λa l M=>λi v hv=>((hS6.le l) i v (by rcases i with _|_|_|i<;>simp_all)).any;have sg6:∀a,h3.le a->∀M,Seg a M (⟨g6,0,none⟩:Addr) [.w r,.w r,.slice au d.S.u.flatten.length cu,.w r,.w r,e,.w r,.w c,P,.w c,.w c,ev,.w c,.w c,k]:=λa l M=>Seg.any (hS6.le l);have MU:MW (.agg #[.w r,.w r,.slice au d.S.u.flatten.length cu]) h3 r r (Eb r r (AP d.S.u)):=⟨hr,hr,Ci _ _ _,_,Y,by rw[<-O.mu];exact R.up l3⟩
  have bU:∀i t,i<r->t<r->Bq 660133 (AP d.S.u i t*b t):=λi t _ S=>((O.bu i t).mul (hb t S)).mono H;refine X<|AS (n:=10) (bs:=[W,W,W,lw,lw,lw,lw,lw,lw,lw]) [W,W,W] Cx V V Y Y<|QF XY Y<|Qp Y (oG Y Iw BQ<|sgu _ (Bk) _)<|Qq Y<|Qo 3 Y ?_;refine AE (pre:=[]) Y call148 Y (AeI (DC r b) bv h3 (B.up l03) (by rw[Cc];omega) hsb) rfl rfl rfl rfl<|λp k1 ms1 l1 hF=>?_;obtain⟨j1,rfl,Rp⟩:=hF;have op:=Rp.rd.one;refine Qa<|Qo 4 Y ?_;refine AE (pre:=[]) Y call101 Y (PS _ p r r (AP d.S.u) b k1 (MU.up j1) Rp (λi t hi S=>Sz.of ((Kz t λq hq=>bU i q hi Z).mono (show 660133+t<=670066 by omega)) H) (λi t _ _=>Sz.of (O.bu i t) H) (λt S=>Sz.of (hb t S) H)<|λi t hi S=>Sz.of (bU i t hi S) H) Y Y Y Y<|λz k2 ms2 L hF=>?_;obtain⟨j2,ec,m,rfl,rfl,T⟩:=hF;obtain⟨ac,cc,rfl,_⟩:=(T.rd (h:=k2) (ms:=[m]) Mh).rd.ex;have oc:=T.o1;have Q:=N j1 j2;refine Qa<|A7 5 22 V Y (by assumption) Y (Ap Y Y)<|A7 6 28 V Y (by assumption) Y (Bo Y Y Y)<|A7 7 29 V Y (by assumption) Y (Bo Y Y Y)<|Qo 8 Y<|G Y<|Qa<|Qo 9 Y<|G Y<|Qa<|Qe ?_;have n:=N l3 Q;refine Ab<|U<|E (oG Y AhY NB<|sg6 _ Q _) Y<|G Y<|E (AQ Ahy [.w 0,.w 0,.nl,.w 0,.w 0,.nl,.w 0,.w 0,.nl,.w 0,.w 0,.nl,.w 0,.w 0,.nl,.nl] [(0,_),(15,_)] [_,_,_,_,_,_,_,_,_,_,_,_,_,_,_,_] Y J0 Y Y Qt Y) Y<|G Y ?_;refine Sa 1 [_,_,_,_,_,_,_,_,_,_,_,_,_,_,_,_] J0 Y (by simp[oa,ob,ou,oui,od,ov,ovi,oc]) ?_;refine J Y<|Aj<|Ja (vs:=[_,_,_,_,_,_,_,_,_,_,_,_,_,_,_,_]) 1 Y Y Y Agm Y J0 Y Y (⟨N l03 Q,O,0,_,e,P,ev,k,_,m,Y,Y,R.up n,u.up n,s.up n,Rv.up n,y.up n,T,Y⟩)
 .obtain⟨l,O,g,eu,e,P,ev,k,ec,m,rfl,rfl,R,u,s,Rv,y,T,_⟩:=q;exact⟨m,[],Y,λh2 L lm=>⟨N l L,Y,O,_,Y,eu,e,P,ev,k,ec,Y,R.up L,u.up L,s.up L,Rv.up L,y.up L,T.rdh lm⟩⟩
def Af8(r:Nat)(D C:Nat->Int)(v:Value):Prop:=(∃k,k<r/\v=.tuple #[.int .i64 k,WD (D k),.bool true]/\¬D k∣C k/\∀j,j<k->D j∣C j)\/(v=.tuple #[.int .i64 0,WD 0,.bool false]/\∀j,j<r->D j∣C j)
theorem UV(qv:Value)(r c:Nat)(S:FS)(C:Nat->Int)(h:Hp)(hr:r<=200)(hc:c<=200)(O:S.Ok r c 660033)(E:EqR qv h r c S (DC r C))(hD:∀k,k<r->(SZ c S.d.flatten k).natAbs<4294967296)(hC:∀k,k<r->Sz (C k)) :
  FnT prog 97 #[qv] h [] (λw A ms'=>h.le A/\ms'=[]/\Af8 r (SZ c S.d.flatten) C w):=by
 obtain⟨eu,eui,z,ev,evi,ec,rfl,Ru,Rui,y,Rv,Rvi,Rc⟩:=E;have ou:=Ru.rd.one;have M:=Rui.rd.one;have od:=y.rd.one;have ov:=Rv.rd.one;have P:=Rvi.rd.one;have oc:=Rc.rd.one;have hL:S.d.flatten.length=r*c:=by rw[O.md,Ci]
 refine Fw func97 ntmps97 Y Y<|λ_ _=>U<|AK [_,_,_,_,_,_,_,_,_,_,_,_,_,_,_,_] Y Y ξ Y Y Y<|λg1=>BJ [.w 0] Y By Y Y<|λQ=>BJ [.bool false,.es] Y Av Y Y<|λR=>BJ [.bool false] Y el4 Y Y<|λT=>Ao<|Ak 3 Y λB L K=>?_;have M1:MW (.agg #[.w r,.w c,z]) B r c S.d.flatten:=⟨hr,hc,hL,z,Y,y.up L⟩
 have sg1:∀A,B.le A->∀a,Seg A a ((⟨g1,0,none⟩:Addr).add 6) [.w r,.w c,z]:=λA l a i v hv=>by
  have:=((K.le l) (6+i) v (by rcases i with _|_|_|i<;>simp_all)).any (ms:=a)
  rwa [BD]
 have c15:=qD 15 K Y;refine X<|U<|Qf MG Y<|Qf YF Y<|Qx (oG Y Iw BQ<|sg1 _ (Bk) _) Y<|Qc call98 Y (Xm _ r c S.d.flatten B M1)<|λvf h10 ms10 l10 hF=>?_;obtain⟨rfl,gb,ed',e1,rfl,rfl⟩:=hF;obtain rfl:z=ed':=by simpa using e1
 refine Ao<|Ag<|AH λh2 l2 hGb=>?_;have n:=l2
 have hI:=Qi gb _ r c S.d.flatten h2 (M1.up l2) (λev' e=>by
  obtain rfl:z=ev':=by simpa using e
  exact hGb)
 obtain⟨D,g⟩:∃D:Nat->Int,D=SZ c S.d.flatten:=⟨_,Y⟩
 rw[<-g]at hD;have hDk:∀k,Ae1 c S.d.flatten k=[.w k,WD (D k)]:=λk=>by rw[g];rfl
 rw[<-g];refine JV (λk d a=>a=[BE T 4 [.bool false],BE R 33 (Bg 0),BE Q 3 [.w 0]]/\∀j,j<k->D j∣C j) (λk d a=>a=[BE T 4 [.bool true],BE R 33 (Bg (D k)),BE Q 3 [.w k]]/\¬D k∣C k/\∀j,j<k->D j∣C j) (λk s1 d a=>∃g6,s1=[(1,.pt g1),(2,.pt Q),(3,.pt R),(4,.pt T),(5,.w k),(6,.pt g6)]/\a=[BE T 4 [.bool false],BE R 33 (Bg 0),BE Q 3 [.w 0]]/\Seg d [] (⟨g6,0,none⟩:Addr) (Bg (D k))/\∀j,j<k->D j∣C j) Y call150 hI (λk=>rfl) Y ?_ ?_ ?_ ?_ ?_
 .exact⟨Y,λj h=>Z⟩
 .rintro w1 k d s u x ⟨rfl,f⟩;rw[hDk];have t:=AA (Ba (D k).natAbs);refine Dq<|Bj V<|G Y<|Am<|B9<|Bj V<|BJ [.bool false,.es] Y Av Y Y<|λg6=>?_;refine Sa 0 [_,_] Av Y (by simp[ou,M,od,ov,P,oc,AA,t]) ?_;refine Am<|HP λh6 l6 b=>?_;exact AI _ ⟨_,Y,Y,b,f⟩ Qs
 .rintro w1 k s1 d s u x ⟨g6,rfl,rfl,b,f⟩;have p:=N n x;have t:=AA (Ba (D k).natAbs);have hkl:k<(DC r C).length:=by rw[Cc];exact u
  have rC:Rd d [] ec 2 r ((DC r C).flatMap Bg):=by have:=((Rc.up L).up p).rd;rwa [Cc]at this
  have gE:∀a,Seg d a ((AJ ec).add (k*2)) (Bg (C k)):=λa=>by
   have:=((((Rc.up L).up p).any (ms:=a)).seg hkl)
   rwa [show(DC r C)[k]=C k by simp[DC]]at this
  refine Ex<|Dq<|Ad9 6 Cx V Y V<|BS (oG Y Bn Av<|b.any) Y Y<|Wf Yx Y<|Wl Y CJ (c15 _ p _)<|Wm Y<|BS (BP (k) rC.any Y CJ Av Y Y) Y Y<|BS (oG Y Bn Av<|gE _) Y Y<|BB<|Qx (As Y call149 Y<|ZC (D k) (C k) (hD k u) (hC k u) _ _) Y<|Qx (DY (Dg Y Y)<|bh Value.bool decide_not.symm) Y<|Am<|B9<|Na Y (λm=>?_)<|λm=>?_
  .refine Dq<|Lk (n:=5) (bs:=[W,W,lw,lw,lw]) [true,true] Cx V V Y Y V<|Qq Y<|Qp Y (oG Y Bn Av<|b.any)<|Qo 2 Y<|Bl 2 0 Y By Y Y ξ Y Y H Y Y<|Qw<|Qo 3 Y ?_;refine Sa 1 [_,_] Av Y (by simp[ou,M,od,ov,P,oc,AA,t]) ?_;refine Qw<|Qo 4 Y<|Bl 0 0 Y el4 Y Y ξ Y Y H Y Y<|Qw<|Qe<|B9<|Ahk<|An<|Afy [] ⟨Y,m,f⟩ fu
  .refine Ii<|Ai<|AI [] ⟨Y,λj hj=>?_⟩ fu;rcases (Z:j<k\/j=k) with B|rfl
   .exact f j B
   .exact fp.1 m
 .rintro D' d s x ⟨rfl,f⟩;refine D2<|U<|Qx (AQ JP [.bool false,.es] [] [_,_] Y Av Y Y Qt Y) Y<|Bl 2 0 Y By Y Y ξ Y Y H Y Y ?_;refine Sa 1 [_,_] Av Y (by simp[Value.oneCell']) ?_;refine Bl 0 0 Y el4 Y Y ξ Y Y H Y Y<|Ao<|Aj<|Gc 3 (.inr Y) Y<|Pz Y Y Y Y U3 Y Bn Y Av Y U4 Y ⟨N (N L n) x,Y,.inr ⟨Y,f⟩⟩
 .rintro D' k d s u x ⟨rfl,hn,f⟩;refine Gc 3 (.inr Y) Y<|Pz Y Y Y Y U3 Y Bn Y Av Y U4 Y ⟨N (N L n) x,Y,.inl ⟨k,u,Y,hn,f⟩⟩
variable {D C:Nat->Int}
def FK(r:Nat)(D C:Nat->Int)(q:Nat):Int:=if q<r/\D q≠0 then C q/D q else 0
theorem OS(a b:Int):(a/b).natAbs<=a.natAbs+1:=by
 first
 | exact bl (Int.natAbs_ediv_le_natAbs a b)<|Nat.le_succ _
 | exact bl (Int.natAbs_div_le_natAbs a b)<|Nat.le_succ _
theorem Sg{r B:Nat}(b:∀k,k<r->Bq B (C k))(q:Nat):Bq (B+1) (FK r D C q):=by
 unfold FK;split
 .rename_i h;have a:=b q h.1;have c:=OS (C q) (D q);unfold Bq at a ⊢;rw[Nat.pow_succ];have:0<2^B:=jc H;omega
 .exact Bq.zero _
theorem Abw{c k:Nat}(h:D k≠0)(b:k<c):(DC c (FK k D C)).set k (C k/D k)=DC c (FK (k+1) D C):=by
 refine ic λq=>?_;rw[gh];by_cases d:q<c
 .by_cases e:k=q
  .subst e;rw[ah rfl,ah (by rw[Cc];exact b)];simp[DC,FK,h,b]
  .rw[af e];simp only[DC,gj,List.getElem?_range d,Option.map_some,FK];congr 1;by_cases a:q<k
   .simp[a,show q<k+1 by omega]
   .simp[a,show ¬q<k+1 by omega]
 .rw[af Z];simp[DC,fk,d]
theorem Zk{k:Nat}(h:D k=0):FK (k+1) D C=FK k D C:=by
 funext q;unfold FK;by_cases e:q=k
 .subst e;simp[h]
 .by_cases a:q<k
  .simp[a,show q<k+1 by omega]
  .simp[a,show ¬q<k+1 by omega]
def AiD(r c:Nat)(D C:Nat->Int)(V:Nat->Nat->Int)(h':Hp)(w:Value):Prop:=((∃k,k<r/\¬D k∣C k)/\w=.tuple #[.slice none 0 0,.bool false])\/((∀j,j<r->D j∣C j)/\∃v,w=.tuple #[v,.bool true]/\RdL Bg 2 h' [] v (DC c λi=>sm c λq=>V i q*FK r D C q))
theorem Acy(va bv:Value)(r c:Nat)(f:Nat->Nat->Int)(b:Nat->Int)(n:St)(D C:Nat->Int)(h:Hp)(A:MW va h r c (Eb r c f))(hf:∀i j,i<r->j<c->Bq 33 (f i j))(hfp:D8 r c (min r c) 0 (QD r c f)=some n)(B:RdL Bg 2 h [] bv (DC r b))(hb:∀i,i<r->Bq 100 (b i))(P:SZ c n.S.d.flatten=D)(hCe:ubF n.S r b=C)(hD:∀k,k<r->(D k).natAbs<4294967296) :
  FnT prog 46 #[va,bv] h [] (λw d ms'=>h.le d/\ms'=[]/\n.S.Ok r c 660033/\AiD r c D C (AP n.S.v) d w):=by
 have hr:=A.hr;have R:=A.hc;have A0:=A;obtain⟨ea,rfl,RA⟩:=A.ex;have oa:=RA.rd.one;have ob:=B.rd.one;refine Fw func46 ntmps46 Y Y<|λ_ _=>U<|AK [_,_,_] Y Y ξ Y Y Y<|λg2=>G Y<|J Y<|Ak 0 Y λh1 l1 hS1=>?_;have sg1:∀d,h1.le d->∀a,Seg d a (⟨g2,0,none⟩:Addr) [.w r,.w c,ea]:=λd l a=>Seg.any (hS1.le l);have c11:=qD 1 hS1 Y;refine U<|E (oG Y Iw BQ<|sg1 _ (Bk) _) Y<|G Y<|Qc call96 Y (XX _ bv r c f b n h1 (A0.up l1) hf hfp (B.up l1) hb)<|λw0 h2 ms2 l2 hF=>?_;obtain⟨l2',rfl,O,qv,rfl,hE⟩:=hF;rw[hCe]at hE;have hE0:=hE;obtain⟨eu,eui,ed,ev,evi,ec,rfl,Ru,Rui,Rd_,Rv,Rvi,Rc⟩:=hE;have ou:=Ru.rd.one;have oui:=Rui.rd.one;have od:=Rd_.rd.one;have ov:=Rv.rd.one;have ovi:=Rvi.rd.one;have oc:=Rc.rd.one;refine AT Y Y<|G Y<|BJ [.w 0,.w 0,.nl,.w 0,.w 0,.nl,.w 0,.w 0,.nl,.w 0,.w 0,.nl,.w 0,.w 0,.nl,.nl] Y J0 Y Y<|λg6=>?_;refine Sa 0 [_,_,_,_,_,_,_,_,_,_,_,_,_,_,_,_] J0 Y (by simp[oa,ob,ou,oui,od,ov,ovi,oc,AA]) ?_;refine J Y<|Ak 0 Y λh3 K Q=>?_;have l13:=N l2' K;have l03:=N l1 l13;refine X<|U<|G Y<|J Y<|AM Y<|I ?_;have sg6:∀d,h3.le d->∀a,Seg d a (⟨g6,0,none⟩:Addr) [.w r,.w r,eu,.w r,.w r,eui,.w r,.w c,ed,.w c,.w c,ev,.w c,.w c,evi,ec]:=λd l a=>Seg.any (Q.le l)
 have hCk:∀k,k<r->Bq 660333 (C k):=λk x=>by rw[<-hCe];exact(Kz r λq hq=>((O.bu k q).mul (hb q hq)).mono (show 660033+100<=660133 by decide)).mono Z
 refine X<|U<|E (oG Y Agm J0<|sg6 _ (Bk) _) Y ?_;refine Qc call97 Y (UV _ r c n.S C h3 hr R O ⟨_,_,_,_,_,_,Y,Ru.up K,Rui.up K,Rd_.up K,Rv.up K,Rvi.up K,Rc.up K⟩ (by rw[P];exact hD)<|λk x=>Sz.of (hCk k x) H)<|λw0 h4 ms4 l4 hF=>?_;obtain⟨l4',rfl,hW⟩:=hF;rw[P]at hW;rcases hW with ⟨k,x,rfl,hn,hz⟩|⟨rfl,hz⟩
 .have u:=AA (Ba (D k).natAbs);refine AT Y Y<|AT Y Y<|BJ [.bool false,.es] Y Av Y Y<|λg9=>G Y ?_;refine Sa 0 [_,_] Av Y (by simp[oa,ob,ou,oui,od,ov,ovi,oc,AA,u]) ?_;refine J Y<|Ak 0 Y λh5 l5 hS9=>U<|J Y<|A4 Y<|U<|G Y<|J Y<|Aj<|Ae ?_;have l05:=N l03 (N l4' l5);refine Zt (.inr Y)<|Cw Y Y Y (⟨l05,Y,O,.inl ⟨⟨k,x,hn⟩,Y⟩⟩)
 .have u:=AA (Ba (0:Int).natAbs);refine AT Y Y<|AT Y Y<|BJ [.bool false,.es] Y Av Y Y<|λg9=>G Y ?_;refine Sa 0 [_,_] Av Y (by simp[oa,ob,ou,oui,od,ov,ovi,oc,AA,u]) ?_;refine J Y<|Ak 0 Y λh5 l5 hS9=>?_;have l35:=N l4' l5;have l15:=N l13 l35;refine U<|J Y<|AM Y<|I<|U<|Qf Dx Y<|Ql Y U3 (c11 _ l15 _)<|KK FF Z (0:Int) (n:=c) Y CJ Av Y Y Y Z Z Z Z Y Y Y<|λg31 ey m hev L=>?_;have oe:=L.o1;refine BJ [.nl] Y En Y Y<|λg11=>Bl 0 0 Y En Y Y (by assumption) Y Y H Y Y<|Ao<|Ak 0 Y λh6 l6 hS11=>?_;have hL:n.S.d.flatten.length=r*c:=by rw[O.md,Ci]
  have g:=N l35 l6;have M1:MW (.agg #[.w r,.w c,ed]) h6 r c n.S.d.flatten:=⟨hr,R,hL,ed,Y,(Rd_.up K).up g⟩
  have sgd:∀d,h6.le d->∀a,Seg d a ((⟨g6,0,none⟩:Addr).add 6) [.w r,.w c,ed]:=λd l a i v hv=>by
   have:=((Q.le (N g l)) (6+i) v (by rcases i with _|_|_|i<;>simp_all)).any (ms:=a)
   rwa [BD]
  have sgv:∀d,h6.le d->∀a,Seg d a ((⟨g6,0,none⟩:Addr).add 9) [.w c,.w c,ev]:=λd l a i v hv=>by
   have:=((Q.le (N g l)) (9+i) v (by rcases i with _|_|_|i<;>simp_all)).any (ms:=a)
   rwa [BD]
  have c15:∀d,h6.le d->∀a,Cell d a ((⟨g6,0,none⟩:Addr).add 15) ec:=λd l a=>((Q 15 _ Y).any).le (N g l);have cy:∀d,h6.le d->∀a,Cell d a (⟨g11,0,none⟩:Addr) ey:=λd l a=>((hS11.at0 Y).any).le l;refine X<|U<|Qf MG Y<|Qf YF Y<|E (oG Y Iw BQ<|sgd _ (Bk) _) Y<|Qc call98 Y (Xm _ r c n.S.d.flatten h6 M1)<|λvf h10 ms10 l10 hF=>?_;obtain⟨rfl,gb,ed',e1,rfl,rfl⟩:=hF;obtain rfl:ed=ed':=by simpa using e1
  refine Ao<|Ag<|AH λh7 l7 hGb=>?_
  have hI:=Qi gb _ r c n.S.d.flatten h7 (M1.up l7) (λev' e=>by
   obtain rfl:ed=ev':=by simpa using e
   exact hGb)
  have hDk:∀k,Ae1 c n.S.d.flatten k=[.w k,WD (D k)]:=λk=>by rw[<-P];rfl
  have hDc:∀k,D k≠0->k<c:=λk x=>by
   by_cases h:k<c
   .exact h
   .exact lj (by rw[<-P];unfold SZ;rw[af h]) x
  refine F8 (λk S a=>∃y,a=[y]/\OwnL Bg 2 33 y ey (DC c (FK k D C))) (λk s1 S a=>∃M y,s1=[(6,.pt g6),(11,.pt g11),(12,.w k),(13,.pt M)]/\a=[y]/\OwnL Bg 2 33 y ey (DC c (FK k D C))/\Seg S [] (⟨M,0,none⟩:Addr) (Bg (D k))) Y call150 (ItrS.itr hI) (λk=>rfl) Y ?_ ?_ ?_ ?_
  .exact⟨m,Y,by rw[show DC c (FK 0 D C)=replicate c 0 from by rw[show FK 0 D C=λ_=>0 from by funext q;simp[FK]];show(range c).map (λ_=>(0:Int))=_;simp[List.map_const']];exact L⟩
  .rintro w1 k S ms1 x lh ⟨y,rfl,L⟩;rw[hDk];have u:=AA (Ba (D k).natAbs);refine Dq<|Bj V<|G Y<|Am<|B9<|Bj V<|BJ [.bool false,.es] Y Av Y Y<|λM=>?_;refine Sa 0 [_,_] Av Y (by simp[oa,ob,ou,oui,od,ov,ovi,oc,AA,u,oe]) ?_;refine Am<|HP λh8 l8 p=>?_;exact AI _ ⟨_,y,Y,Y,L,p⟩ Qs
  .rintro w1 k s1 S ms1 x lh ⟨M,y,rfl,rfl,L,p⟩;have s:=N l7 lh;have u:=AA (Ba (D k).natAbs);refine Ex<|Dq<|Bj V<|E (oG Y Bn Av<|p.any) Y<|E (As Y call99 Y<|My (D k) (Sz.of (B:=32) (hD k x) H) _ _) Y<|E (DY (Dg Y Y)<|bh Value.bool decide_not.symm) Y<|Am<|B9<|Na Y (λz=>?_)<|λz=>?_
   .have hkc:=hDc k z;have hkl:k<(DC r C).length:=by rw[Cc];exact x
    have lc:=N g s
    have rC:Rd S [] ec 2 r ((DC r C).flatMap Bg):=by have:=((Rc.up K).up lc).rd;rwa [Cc]at this
    have gE:∀a,Seg S a ((AJ ec).add (k*2)) (Bg (C k)):=λa=>by
     have:=((((Rc.up K).up lc).any (ms:=a)).seg hkl)
     rwa [show(DC r C)[k]=C k by simp[DC]]at this
    have hln:(DC c (FK k D C)).length=c:=Cc _ _;have rY:Rd S [y] ey 2 c ((DC c (FK k D C)).flatMap Bg):=by have:=(L.rd (h:=S) (ms:=[y]) Mh).rd;rwa [hln]at this
    have osq:=AA (Ba (C k/D k).natAbs);have osr:=AA (Ba (C k%D k).natAbs);refine Lk (n:=15) (bs:=[W,W,W,W,W,W,W,W,W,W,W,W,W,W,lw]) [W,W,W,W,W,W,W,W,W,W,W,W,W,W] Cx V V Y Y V<|QL Y CJ (cy _ s _)<|Qq Y<|QF Yx Y<|QL Y CJ (c15 _ s _)<|Qq Y<|Qp Y (BP (k) rC.any Y CJ Av Y Y)<|Qp Y (oG Y Bn Av<|gE _)<|Qp Y (oG Y Bn Av<|p.any)<|Qp Y (As Y call100 Y<|F5 (C k) (D k) (Sz.of (hCk k x) H) z (hD k x) _ _)<|Qq Y<|Qq Y<|Qq Y<|Qq Y<|Qp Y (Be (k) rY Y CJ Av Y Y Z Z)<|Qo 14 Y<|EY 0 k (C k/D k) L Y Av Y Y Y (E8 _) Y Z Y Y<|λmo' hO'=>Qw<|Qe ?_;rw[Abw z hkc]at hO';refine Ai<|AI [] ⟨mo',Y,hO'⟩ fu
   .refine Ii<|Ai ?_;exact AI [] ⟨y,Y,by rw[Zk (fp.1 z)];exact L⟩ fu
  .rintro D' S ms1 lh ⟨y,rfl,L⟩;have s:=N l7 lh;have lc:=N g s;refine Dr L λh8 l8 hR8=>?_;have T:=N s l8;have MV:MW (.agg #[.w c,.w c,ev]) h8 c c (Eb c c (AP n.S.v)):=⟨R,R,Ci _ _ _,ev,Y,by rw[<-O.mv];exact(Rv.up K).up (N g T)⟩
   have bY:=Sg (D:=D) hCk;have bV:∀i t,Bq 1320400 (AP n.S.v i t*FK r D C t):=λi t=>((O.bv i t).mul (bY t)).mono H;refine D2<|U<|Qf MG Y<|Qf AfA Y<|E (oG Y Iw BQ<|sgv _ T _) Y<|Ql Y CJ (cy _ T _) ?_;refine Qc call101 Y (PS _ ey c c (AP n.S.v) (FK r D C) h8 MV hR8 (λi t hi ht=>Sz.of ((Kz t λq hq=>bV i q).mono (show 1320400+t<=1330400 by omega)) H) (λi t _ _=>Sz.of (O.bv i t) H) (λt _=>Sz.of (bY t) H)<|λi t _ _=>Sz.of (bV i t) H)<|λw9 h9 ms9 l9 hF=>?_;obtain⟨l9',vz,mz,rfl,rfl,Oz⟩:=hF;refine AT Y Y<|G Y<|J Y<|Aj<|Gc 1 (.inr Y) Y<|Dr Oz λhA lA hRA=>?_;exact Cw Y Y Y (⟨N l03<|N g<|N T<|N l9' lA,Y,O,.inr ⟨hz,vz,Y,hRA⟩⟩)
end
section
open Go.Lin Go.Wd Go.Sm
theorem Aa6(l:List Int)(v:Value)(h:Hp)(d:RdL Bg 2 h [] v l)(f:l.length<=1000000):FnT prog 104 #[v] h [] (λx b a=>h.le b/\a=[]/\RdL Bg 2 b [] x l):=
 FnT.frz (P6 l v h d f) λv b a ⟨e,m,c,q⟩=>⟨m,[],c,λj g i=>⟨by rw[e];exact g,Y,q.rdh i⟩⟩
def AiG(r:Nat)(D C:Nat->Int)(U:Nat->Nat->Int)(h':Hp)(w:Value):Prop:=(∃k,k<r/\¬D k∣C k/\(∀j,j<k->D j∣C j)/\∃v,w=.tuple #[v,WD (D k),.bool true]/\RdL Bg 2 h' [] v (DC r (U k)))\/((∀j,j<r->D j∣C j)/\w=.tuple #[.slice none 0 0,WD 0,.bool false])
theorem Aas(va bv:Value)(r c:Nat)(f:Nat->Nat->Int)(b:Nat->Int)(d:St)(D C:Nat->Int)(h:Hp)(A:MW va h r c (Eb r c f))(hf:∀i j,i<r->j<c->Bq 33 (f i j))(hfp:D8 r c (min r c) 0 (QD r c f)=some d)(B:RdL Bg 2 h [] bv (DC r b))(hb:∀i,i<r->Bq 100 (b i))(R:SZ c d.S.d.flatten=D)(Q:ubF d.S r b=C)(hD:∀k,k<r->(D k).natAbs<4294967296) :
  FnT prog 48 #[va,bv] h [] (λw a ms'=>h.le a/\ms'=[]/\d.S.Ok r c 660033/\AiG r D C (AP d.S.u) a w):=by
 have hr:=A.hr;have hcc:=A.hc;have A0:=A;obtain⟨ea,rfl,RA⟩:=A.ex;have oa:=RA.rd.one;have ob:=B.rd.one;refine Au func48 ntmps48 Y Y<|λ_ _=>U<|AK [_,_,_] Y Y ξ Y Y Y<|λg2=>G Y<|BJ [.bool false,.es] Y Av Y Y<|λg5=>J Y<|Ak 1 Y λh1 l1 T=>?_;have sg1:∀a,h1.le a->∀g,Seg a g (⟨g2,0,none⟩:Addr) [.w r,.w c,ea]:=λa l g=>Seg.any (T.le l);have c11:=qD 1 T Y;refine U<|E (oG Y Iw BQ<|sg1 _ (Bk) _) Y<|G Y<|Qc call96 Y (XX _ bv r c f b d h1 (A0.up l1) hf hfp (B.up l1) hb)<|λw0 h2 ms2 l2 S=>?_;obtain⟨l2',rfl,O,qv,rfl,hE⟩:=S;rw[Q]at hE;have hE0:=hE;obtain⟨eu,eui,ed,ev,evi,ec,rfl,Ru,K,z,Rv,L,Rc⟩:=hE;have ou:=Ru.rd.one;have n:=K.rd.one;have od:=z.rd.one;have ov:=Rv.rd.one;have p:=L.rd.one;have oc:=Rc.rd.one;refine AT Y Y<|G Y<|BJ [.w 0,.w 0,.nl,.w 0,.w 0,.nl,.w 0,.w 0,.nl,.w 0,.w 0,.nl,.w 0,.w 0,.nl,.nl] Y J0 Y Y<|λg7=>?_;refine Sa 0 [_,_,_,_,_,_,_,_,_,_,_,_,_,_,_,_] J0 Y (by simp[oa,ob,ou,n,od,ov,p,oc,AA]) ?_;refine J Y<|Ak 0 Y λh3 s hS7=>?_;have l13:=N l2' s;have l03:=N l1 l13;refine X<|U<|G Y<|J Y<|AM Y<|I ?_;have sg6:∀a,h3.le a->∀g,Seg a g (⟨g7,0,none⟩:Addr) [.w r,.w r,eu,.w r,.w r,eui,.w r,.w c,ed,.w c,.w c,ev,.w c,.w c,evi,ec]:=λa l g=>Seg.any (hS7.le l)
 have hCk:∀k,k<r->Bq 660333 (C k):=λk u=>by rw[<-Q];exact(Kz r λq hq=>((O.bu k q).mul (hb q hq)).mono (show 660033+100<=660133 by decide)).mono Z
 refine U<|E (oG Y Agm J0<|sg6 _ (Bk) _) Y ?_;refine Qc call97 Y (UV _ r c d.S C h3 hr hcc O ⟨_,_,_,_,_,_,Y,Ru.up s,K.up s,z.up s,Rv.up s,L.up s,Rc.up s⟩ (by rw[R];exact hD)<|λk u=>Sz.of (hCk k u) H)<|λw0 h4 ms4 l4 S=>?_;obtain⟨l4',rfl,hW⟩:=S;rw[R]at hW;rcases hW with ⟨k,u,rfl,hn,hz⟩|⟨rfl,hz⟩
 .have m:=AA (Ba (D k).natAbs);refine AT Y Y<|AT Y Y<|BJ [.bool false,.es] Y Av Y Y<|λM=>G Y ?_;refine Sa 0 [_,_] Av Y (by simp[oa,ob,ou,n,od,ov,p,oc,AA,m]) ?_;refine J Y<|Ak 0 Y λh5 l5 hS9=>X<|U<|G Y<|J Y<|AM Y<|I ?_;have l35:=N l4' l5;obtain⟨au,cu,rfl,_⟩:=Ru.rd.ex;have sgu:∀a,h5.le a->∀g,Seg a g (⟨g7,0,none⟩:Addr) [.w r,.w r,.slice au d.S.u.flatten.length cu]:=λa l g=>λi v hv=>((hS7.le (N l35 l)) i v (by rcases i with _|_|_|i<;>simp_all)).any;refine U<|Qf MG Y<|Qf XY Y<|E (oG Y Iw BQ<|sgu _ (Bk) _) Y<|BJ [.w 0,.w 0,.nl] Y BQ Y Y<|λg12=>?_;refine Sa 0 [_,_,_] BQ Y (by simp[Value.oneCell']) ?_;refine Ao<|Ak 0 Y λP l6 hS12=>?_;have l36:=N l35 l6;have hrk:(k+1)*r<=r*r:=eh r u;have d1:(k+1)*r=k*r+r:=by rw[dq,gn]
  have c2:r*r<=200*200:=fx hr hr;have d3:((k:Int)+1)*r=k*r+r:=by rw[ko,jh]
  have d4:(k:Int)*r=((k*r:Nat):Int):=(dz k r).symm;have x:RdL Bg 2 P [] (.slice au d.S.u.flatten.length cu) (Eb r r (AP d.S.u)):=by rw[<-O.mu];exact(Ru.up s).up l36
  have hlu:d.S.u.flatten.length=r*r:=by rw[O.mu,Ci]
  have hrow:=x.rowF u;have rU:Rd P [] (.slice au d.S.u.flatten.length cu) 2 (r*r) ((Eb r r (AP d.S.u)).flatMap Bg):=by have:=x.rd;rwa [Ci]at this
  have t:∀a,P.le a->∀g i v,[.w r,.w r,.slice au d.S.u.flatten.length cu][i]?=some v->Cell a g ((⟨g12,0,none⟩:Addr).add i) v:=λa l g i v e=>((hS12 i v e).any).le l;have gD:∀a,P.le a->∀g,Seg a g (⟨M,0,none⟩:Addr) (Bg (D k)):=λa l g=>(Seg.any (hS9.le l6)).le l;refine X<|AS (n:=17) (bs:=[W,W,W,W,W,W,W,W,W,W,W,W,lw,W,lw,lw,lw]) [W,W,W,W,W,W,W,W,W,W,W,W,lw,W] Cx V V Y Y<|QF GF Y<|QL Y CJ (t _ (Bk) _ _ _ Y)<|Qq Y<|QF Dx Y<|QL Y U3 (t _ (Bk) _ _ _ Y)<|Qp Y (oM Y)<|Qq Y<|Qp Y (oA Y)<|QF Dx Y<|QL Y U3 (t _ (Bk) _ _ _ Y)<|Qp Y (oM Y)<|Qp Y (H5 (k*r) ((k+1)*r) rU.any Y CJ Av Y Y Y Z Z Z Z)<|Qp Y (oG Y Bn Av<|gD _ (Bk) _)<|Qo 12 Y<|AE (pre:=[]) Y call104 Y (Aa6 (DC r<|AP d.S.u k) _ P hrow (by rw[Cc];omega)) rfl rfl rfl rfl<|λy h8 ms8 l8 S=>?_;obtain⟨l68,rfl,hY⟩:=S;have oy:=hY.rd.one;refine Qa<|Qo 14 Y<|G Y<|Qa<|Qo 15 Y ?_;refine Sa 0 [_,_] Av Y (by simp[oa,ob,ou,n,od,ov,p,oc,AA,m,oy]) ?_;refine Qa<|Qo 16 Y<|G Y<|Qa<|Qe<|Ab<|Aj<|PT 0 Y Y Y Y Bn Y Av Y Y ⟨N l03<|N l36 l68,Y,O,.inl ⟨k,u,hn,hz,y,Y,hY⟩⟩
 .have m:=AA (Ba (0:Int).natAbs);refine AT Y Y<|AT Y Y<|BJ [.bool false,.es] Y Av Y Y<|λM=>G Y ?_;refine Sa 0 [_,_] Av Y (by simp[oa,ob,ou,n,od,ov,p,oc,AA,m]) ?_;refine J Y<|Ak 0 Y λh5 l5 hS9=>X<|U<|G Y<|J Y<|A4 Y<|U<|E (AQ JP [.bool false,.es] [] [_,_] Y Av Y Y Qt Y) Y<|G Y ?_;refine Sa 0 [_,_] Av Y (by simp[Value.oneCell']) ?_;refine J Y<|Aj<|Ae ?_;have l05:=N l03 (N l4' l5);exact PT 0 Y Y Y Y Bn Y Av Y Y ⟨l05,Y,O,.inr ⟨hz,Y⟩⟩
end
section
open Go.Sort
def Jc(l:List Int):List Int:=l.mergeSort λx y=>decide (x<=y)
theorem Km(l:List Int):(Jc l).Perm l:=List.mergeSort_perm l _
theorem SB(l:List Int):(Jc l).Pairwise (·<=·):=by have:=List.pairwise_mergeSort (le:=λx y:Int=>decide (x<=y)) (λa b c=>by simp;omega) (λa b=>by simp;omega) l;exact this.imp λh=>by simpa using h
theorem Gx(l:List Int):l.flatMap cI=l.map (Value.int .i64):=by
 induction l with
 | nil=>rfl
 | cons a l ih=>rw[eo,dh,ih];rfl
theorem AdL(l:List Int)(v:Value)(m:Hp)(hO:OwnL cI 1 3 m v l)(hl:l.length<=2305843009213693951)(h:Hp) :
  FnT prog 197 #[v] h [m] (λ_ S L=>h=S/\∃P,L=[P]/\OwnL cI 1 3 P v (Jc l)):=by
 intro w B;obtain⟨⟨e0,j⟩,hF⟩:=hO;rcases j with ⟨rfl,n,rfl⟩|⟨g,i,a,rfl,rfl,n,Q,R⟩
 .obtain rfl:l=[]:=gu.1 n;refine(Any.slices_Sort_int_none Tryz.lays189 none 0 w).mono λx O ⟨K,d⟩=>?_;subst d;exact⟨_,h,[Hp.emp],K,Ends.refl B,Y,_,Y,by rw[(Km []).eq_nil];exact OwnL.nil Bf⟩
 .have r:l.flatMap cI=l.map (Value.int .i64):=Gx l;have f:w.heap[g]?=some (.cells (l.flatMap cI++a).toArray 3 (0,0)):=B.own _ (bj.2 Y) g _ (Hp.one_self _ _);have hH:Holds (Value.int .i64) w g 0 l.toArray:=holds_of_blockI f (by rw[r];simp);have y:=(cj.1 f).1;refine(Tryz.slices_Sort_int g 0 i l w hH y Z).mono λx O ⟨K,q,M,d⟩=>?_;have c:(Jc l).length=l.length:=(Km l).length_eq;change O=grow (putRow (Value.int .i64) (Sort.ahead w q) g 0 (Jc l).toArray) M at d;have p:=heap_sortedI (n:=q) (os:=M) (Jc l).toArray f;have b:=grownBy_sortedI (w:=w) (g:=g) (n:=q) (os:=M) (Jc l).toArray;have s:w.drawn<=O.drawn:=by rw[d];exact i9 _ _
  rw[<-d]at p b
  have A:putCells (Value.int .i64) 0 (Jc l).toArray (l.flatMap cI++a).toArray=((Jc l).flatMap cI++a).toArray:=by
   apply jn;intro t;unfold putCells;rw[Array.getElem?_mapIdx,jp,jp,Gx,Gx];rcases ii t l.length with h|h
   .rw[fc (by simpa using h),fc (by simpa[c] using h)];have T:t<(Jc l).length:=Z
    simp[h,T]
   .rw[kc (by simpa using h),kc (by simpa[c] using h)];simp only[bb,c,iq];cases a[t-l.length]? with
    | none=>rfl
    | some u=>
     simp only[Option.map_some];rw[af Z]
  rw[A]at p;have hE:=Ends.put (l':=(Jc l).flatMap cI++a) (i:=0) (Ends.refl B) Y b.os ⟨b.tape,s⟩ b.output b.size (by simpa using p) (λk hk z=>b.block k hk (λe=>z (by simpa using e)));refine⟨_,h,_,K,hE,Y,_,Y,⟨?_,.inr ⟨g,i,a,?_,Y,?_,?_,R⟩⟩,hF⟩
  .rw[Gx];simp
  .rw[c]
  .rw[ag,B6 Bf,c,<-B6 Bf l,<-ag];exact n
  .rw[c];exact Q
open Go.Lin Go.Wd
def Kj(T:List (Int×Int))(j:Nat):Int:=(T.getD j (0,0)).1
theorem YA{T:List (Int×Int)}{j:Nat}(a:j<T.length):T[j].1=Kj T j:=by unfold Kj;simp[List.getD,a]
theorem Aa7(T:List (Int×Int)):(range T.length).map (Kj T)=T.map Prod.fst:=by
 refine gg σ λi a c=>?_;have b:i<T.length:=by simpa using a
 simp[<-YA b]
def AfL(T:List (Int×Int))(vis:List Nat)(vs:List Value)(vis':List Nat):Prop:=∃(j:Nat) (hj:j<T.length),j ∉ vis/\vs=[kN (Kj T j)]/\vis'=vis++[j]
theorem Zp(p t:Nat)(m:Hp)(T:List (Int×Int))(bs:List Nat)(h:Hp)(u:Seg h [] ⟨p,0,none⟩ [.map (some t)])(O:CM kN WD t Cb m T bs)(e:m.le h) :
  Aii prog 198 [.pt p] h (AfL T) [] (λa=>a.Perm (range T.length)):=by
 intro M X R ms L S Q;show FnT _ _ #[.func (.yield M) #[] #[],.pt p] _ _ _;have u:=u.le L;have e:=N e L;refine Au func198 ntmps198 Y Y<|λ_ _=>U<|Ql Y It ((u.at0 Y).any)<|Jh O e Y It Y Y Y Y<|λB i P=>Ao<|Ag ?_
 refine AC (λq s n k=>∃(a:List Nat) (i:Hp) (b:List Hp),q=T.length-a.length/\s=[(0,.func (.yield M) #[] #[]),(5,.pt B)]/\R.le n/\k=i::b/\EF B t m i bs a/\X a n b)
  (T.length-0) _ ⟨[],i,ms,rfl,rfl,Bk,rfl,P,Q⟩ Qs ?_
 rintro q s n k ⟨a,i,b,rfl,rfl,z,rfl,I,K⟩;have e:=N e z;refine U<|KN 0 O I e Y Y Y Y Y Y (λf=>?_)<|λj d c y l=>?_
 .refine J Y<|Ac<|AM Y<|C<|AU ?_;exact CC Y (⟨a,(List.perm_ext_iff_of_nodup I.nodup List.nodup_range).2 λj=>⟨λd=>b6.2 (by have:=I.lt j d;rw[O.len]at this;exact this),λd=>f j<|b6.1 d⟩,K⟩)
 .refine J Y<|Ac ?_
  have g:(a++[j]).length<=T.length:=by have:=l.nodup.length_le_of_subset (l₂:=range T.length) λx hx=>b6.2 (by have:=l.lt x hx;rw[O.len]at this;exact this);simpa using this
  rw[ag,ae]at g;refine A4 Y<|Cg<|Ag<|U<|E (Jo O l e Mh d Y Y) Y<|G Y<|J Y ?_;rw[YA d];refine Ac<|BH<|BV (Ap Y Y) Y Y Y<|BV (Ap Y Y) Y Y Y<|PL (pre:=b) (fr:=[c]) (db (l₁:=[c])) Y Y Y (S a [kN (Kj T j)] (a++[j]) n b ⟨j,d,y,Y,Y⟩ z K) Y Y Y<|λr h2 A l2 hr=>?_;obtain⟨rfl,v⟩:=hr;refine BV (Dg Y Y) Y Y Y<|C4<|Ab<|AM Y<|Ah<|Ai<|Jf (db (l₂:=[c])) ?_;exact Aq (T.length-(a++[j]).length) _ (by rw[ag,ae];omega) ⟨a++[j],c,A,rfl,rfl,N z l2,rfl,l,v⟩ Qs
theorem Aeo(v:Option Nat)(h:Hp):FnT prog 158 #[.map v] h [] (λr b a=>h=b/\∃g,r=.func (.func 198) #[] #[.pointer (some ⟨g,0,none⟩)]/\a=[BE g 141 [.map v]]):=by refine Au func158 ntmps158 Y Y<|λ_ _=>U<|AK [_] Y Y ξ Y Y Y<|λd=>G Y<|BF<|E (BI Y Y Y) Y<|J Y<|Aj ?_;exact Ar Y Y (⟨Y,_,Y,Y⟩)
theorem O7(z B:Nat)(m:Hp)(T:List (Int×Int))(bs:List Nat)(h:Hp)(hG:Seg h [] ⟨z,0,none⟩ [.map (some B)])(O:CM kN WD B Cb m T bs)(hm:m.le h)(hT:T.length<=1000000) :
  FnT prog 235 #[.nl,.func (.func 198) #[] #[.pt z]] h [] (λr h' S=>h.le h'/\∃(c:List Nat) (d:Hp),S=[d]/\c.Perm (range T.length)/\OwnL cI 1 3 d r (c.map (Kj T))):=by
 have hI:=Zp z B m T bs h hG O hm;refine Fw func235 ntmps235 Y Y<|λ_ _=>U<|AK [_] Y Y ξ Y Y Y<|λA=>J Y<|X<|U<|J Y<|Ag<|BW<|AdY<|Pb (R:=AfL T) (λ(c:List Nat) y ms=>c.Nodup/\(∀x∈c,x<T.length)/\∃v d,ms=[BE A 22 [v],d]/\OwnL cI 1 3 d v (c.map (Kj T))) (λ(c:List Nat) vs g s1 y ms=>c.Nodup/\(∀x∈c,x<T.length)/\∃v d j,j<T.length/\j ∉ c/\g=c++[j]/\s1=[(2,.pt A),(5,.w (Kj T j))]/\ms=[BE A 22 [v],d]/\OwnL cI 1 3 d v (c.map (Kj T))) Y call198 hI ?_ Y ?_ ?_ ?_ ?_
 .rintro k vs k' ⟨j,L,_,rfl,_⟩;rfl
 .exact⟨List.Pairwise.nil,by simp,_,_,rfl,OwnL.nil Bf⟩
 .rintro w1 c vs g y u ⟨j,L,l,rfl,rfl⟩ Q ⟨t,f,v,d,rfl,i⟩;rw[show kN (Kj T j)=.w (Kj T j) from Y];refine Bj V<|G Y<|Am<|AI _ ⟨t,f,v,d,j,L,l,Y,Y,Y,i⟩ Qs
 .rintro w1 c vs g s1 y u hR Q ⟨t,f,v,d,j,L,l,rfl,rfl,rfl,i⟩;have M:(c++[j]).Nodup:=kv.2 ⟨t,by simp,λa ha b hb e=>by simp at hb;subst hb;subst e;exact l ha⟩
  have s:∀x∈c++[j],x<T.length:=λx P=>by
   rcases bi.1 P with K|K
   .exact f x K
   .simp at K;omega
  have hlen:(c.map (Kj T)).length<=1000000:=by have:=t.length_le_of_subset (l₂:=range T.length) λx P=>b6.2 (f x P);simp at this ⊢;omega
  have ov:=i.o1;refine Ex<|Bj V<|Ql Y Bb (Cell.blk0 0 Y Y)<|G Y<|AB [_] Y Bb By Y ξ Y Y Z Y Y Y<|λg10=>AL 2 i (RdL.one Bf (x:=Kj T j) Mh Y) Y Bb By Y Z Y Y Y BY (by simp only[ae];omega) (by simp only[ae];omega) rfl rfl rfl<|λv2 R n=>?_;have ov2:=n.o1;refine Bl 1 0 Y Fv Y Y (by assumption) Y Y (by(simp;done)) rfl rfl ?_;refine Am<|Ai<|AU<|AI [] ⟨M,s,v2,R,Y,?_⟩ fu;rw[cz];exact n
 .intro D c y u p Q ⟨t,f,v,d,e,i⟩;subst e;have ov:=i.o1;refine D2<|U<|Ql Y Bb (Cell.blk0 0 Y Y)<|J Y<|Aj<|AU<|Gc 1 (.inr Y) Y<|Ar Y Y (⟨Q,c,d,Y,p,i⟩)
theorem UA(c d:Nat)(m:Hp)(T:List (Int×Int))(bs:List Nat)(h:Hp)(j:Seg h [] ⟨c,0,none⟩ [.map (some d)])(O:CM kN WD d Cb m T bs)(l:m.le h)(k:T.length<=1000000) :
  FnT prog 196 #[.func (.func 198) #[] #[.pt c]] h [] (λr g e=>h.le g/\∃(a:List Nat) (b:Hp),e=[b]/\a.Perm (range T.length)/\OwnL cI 1 3 b r (a.map (Kj T))):=by
 refine Au func196 ntmps196 Y Y<|λ_ _=>U<|G Y<|BF<|G Y<|Qc call235 Y (O7 c d m T bs h j O l k)<|λx v u s i=>?_;obtain⟨t,a,b,rfl,n,f⟩:=i;have y:=f.o1;refine J Y<|Aj<|Ar Y Y (⟨s,a,b,Y,n,f⟩)
theorem W7(c d:Nat)(m:Hp)(T:List (Int×Int))(bs:List Nat)(h:Hp)(t:Seg h [] ⟨c,0,none⟩ [.map (some d)])(O:CM kN WD d Cb m T bs)(v:m.le h)(k:T.length<=1000000) :
  FnT prog 157 #[.func (.func 198) #[] #[.pt c]] h [] (λr p i=>h.le p/\∃(f:List Int) (b:Hp),i=[b]/\OwnL cI 1 3 b r f/\f.Perm (T.map Prod.fst)/\f.Pairwise (·<=·)):=by
 refine Au func157 ntmps157 Y Y<|λ_ _=>U<|G Y<|BF<|G Y<|Qc call196 Y (UA c d m T bs h t O v k)<|λx s K A e=>?_;obtain⟨B,j,b,rfl,n,u⟩:=e;have l:(j.map (Kj T)).length<=1000000:=by rw[bb,n.length_eq,ik];exact k
 refine G Y<|BF<|G Y<|AE (pre:=[b]) Y call197 Y (AdL _ x b u Z s) Y Y Y Y<|λy M L P e=>?_;obtain⟨rfl,g,rfl,a⟩:=e;have Q:=a.o1;refine BF<|G Y<|J Y<|Aj ?_;exact Ar Y Y (⟨A,_,g,Y,a,(Km _).trans (by show List.Perm _ (T.map Prod.fst);rw[<-Aa7];exact n.map _),SB _⟩)
end
section
open Go.Lin Go.Wd Go.Sm Go.Ch
def D6(p:Tm):List Value:=.int .i64 p.1::Bg p.2
theorem EX:∀p,(D6 p).length=3:=λ_=>rfl
theorem D3(p:Tm):∀c∈D6 p,c.oneCell'=true:=λc a=>by
 rcases be.1 a with rfl|a
 .rfl
 .exact E8 p.2 c a
theorem Ot(w:World):(zeroValue 33).run prog w=.ok (WD 0) w:=by rfl
theorem Mo{B n:Nat}{x:Int}(h:x.natAbs<=n)(b:n<2^B)(a:B<=3000000):Sz x:=Sz.of (B:=B) (dr h b) a
theorem KJ(d:Nat)(m:Hp)(T:List Tm)(bs:List Nat)(c n:Int)(f:Cb c)(j:Sz n)(k:Sz (tv T c))(O:CM kN WD d Cb m T bs)(h:Hp) :
  FnT prog 102 #[.map (some d),.w c,WD n] h [m] (λ_ i e=>h=i/\∃b a,e=[b]/\CM kN WD d Cb b (Lj T c n) a):=by
 have p:=AA (Ba n.natAbs);have s:=AA (Ba (tv T c).natAbs);have r:=AA (Ba (tv T c+n).natAbs);refine Au func102 ntmps102 Y Y<|λ_ _=>U<|AK [_,_] Y Y ξ Y Y Y<|λt=>HM<|D Y Y<|D Y Y<|E (LZ (V:=WD) (z:=(0:Int)) c BL O (.tail _<|.head _) Y It Ot Y Y f) Y<|E (oG Y Bn Av<|Seg.blk 0 Y) Y<|E (As Y call156 Y<|Nz (tv T c) n k j _ _) Y<|Dh (V:=WD) (z:=undef) 1 c (tv T c+n) BL O Y Y It Y Y Y f Y Y<|λb a g=>Am<|AU<|CC Y (⟨Y,b,a,Y,g⟩)
structure ChR(v:Value)(h:Hp)(l:List Tm):Prop where
 rd:RdL D6 3 h [] v l
 len:l.length<=100000
 ids:∀p∈l,Cb p.1
 abs:Bi l<2^2000000
theorem ChR.up{v:Value}{h a:Hp}{l:List Tm}(R:ChR v h l)(q:h.le a):ChR v a l:=⟨R.rd.up q,R.len,R.ids,R.abs⟩
theorem ChR.sz{v:Value}{h:Hp}{l:List Tm}(R:ChR v h l){p:Tm}(a:p∈l):Sz p.2:=Mo (HU a) R.abs H
theorem Gw(l:List Tm)(k:Nat):Bi (l.take k)<=Bi l:=by have:=bh Bi (d6 k l);rw[Bp]at this;omega
theorem Pf(a:List (List Tm))(i:Nat)(k:Nat):Bi ((a.take i).flatten++(a.getD i []).take k)<=Bi a.flatten:=by
 have c:a.flatten=(a.take i).flatten++(a.drop i).flatten:=by rw[<-List.flatten_append,List.take_append_drop]
 rw[c,Bp,Bp]
 have d:Bi ((a.getD i []).take k)<=Bi (a.drop i).flatten:=by
  by_cases b:i<a.length
  .rw[fw b,List.flatten_cons,Bp];have:=Gw (a.getD i []) k;rw[show a.getD i []=a[i] by simp[List.getD,b]]at this ⊢;omega
  .rw[show a.getD i []=[] by simp[List.getD,b]];simp[Bi]
 omega
set_option exponentiation.threshold 4000000 in
theorem Ik(v:Value)(x:List Value)(a:List (List Tm))(h:Hp)(R:RdL cU 1 h [] v x)(hl:x.length=a.length)(hn:a.length<=1000)(H:∀i (hi:i<x.length),ChR x[i] h (a.getD i []))(hA:Bi a.flatten<2^2000000) :
  FnT prog 92 #[v] h [] (λr d b=>h.le d/\∃e m bs,r=.map (some e)/\b=[m]/\CM kN WD e Cb m (JW a.flatten) bs):=by
 obtain⟨n,hnn⟩:∃n,a.length=n:=⟨_,Y⟩
 have rV:∀d,h.le d->Rd d [] v 1 n (x.flatMap cU):=λd l=>by have:=(R.up l).rd;rwa [hl,hnn]at this
 have ov:=R.rd.one;refine Au func92 ntmps92 Y Y<|λ_ _=>U<|G Y<|BF<|DJ (K:=kN) (V:=WD) (Ok:=Cb) Y Y Y Y<|λe m0 O0=>J Y<|X<|U<|G Y<|E (Aw (rV _<|Bk).any Y RN Y) Y<|J Y<|Ag<|AC (λq P d b=>∃(i:Nat) (m:Hp) (bs:List Nat),n-i=q/\P=[(3,.map (some e)),(9,v),(10,.w n),(11,.w i)]/\h.le d/\b=[m]/\i<=n/\CM kN WD e Cb m (JW (a.take i).flatten) bs) (n-0) _ ⟨0,m0,[],Y,Y,Bk,Y,Z,O0⟩ Qs ?_;rintro q P d b ⟨i,m,bs,rfl,rfl,O,rfl,hi,j⟩;refine U<|J Y<|X<|Ay Y (λhlt=>?_)<|λhlt=>?_
 .have hin:i<n:=Z
  have K:i<x.length:=Z
  obtain⟨w,hw⟩:∃w,x[i]=w:=⟨_,Y⟩
  obtain⟨l,u⟩:∃l,a.getD i []=l:=⟨_,Y⟩
  have f:=(H i K).up O;rw[hw,u]at f
  have cE:∀c,Cell d c ((AJ v).add (i*1)) w:=λc=>by rw[<-hw];exact((R.up O).any (ms:=c)).cell0 K Y
  obtain⟨p,hp⟩:∃p,l.length=p:=⟨_,Y⟩
  have hpl:p<=100000:=by rw[<-hp];exact f.len
  have rW:∀g,d.le g->Rd g [] w 3 p (l.flatMap D6):=λg q=>by have:=(f.rd.up q).rd;rwa [hp]at this
  have ow:=f.rd.rd.one;refine I<|X<|Ag<|U<|E (AR (i) (rV _ O).any Y RN DO Y Y Z Z) Y<|Ql Y Ct (cE _)<|G Y<|BF<|G Y<|E (Aw (rW _<|Bk).any Y Ct Y) Y<|J Y<|Ag ?_
  have hbd:∀k,Bi ((a.take i).flatten++l.take k)<2^2000000:=λk=>by have:=Pf a i k;rw[u]at this;omega
  refine AC (λq P g b=>∃(k:Nat) (m:Hp) (bs:List Nat),p-k=q/\P=[(3,.map (some e)),(9,v),(10,.w n),(11,.w i),(15,w),(16,.w p),(17,.w k)]/\d.le g/\b=[m]/\k<=p/\CM kN WD e Cb m (JW ((a.take i).flatten++l.take k)) bs) (p-0) _ ⟨0,m,bs,Y,Y,Bk,Y,Z,by rw[List.take_zero,List.append_nil];exact j⟩ Qs ?_;rintro q P g b ⟨k,m,bs,rfl,rfl,Q,rfl,hk,j⟩;refine U<|J Y<|X<|Ay Y (λL=>?_)<|λL=>?_
  .have hkp:k<p:=Z
   have s:k<l.length:=Z
   obtain⟨t,ht⟩:∃t,l[k]=t:=⟨_,Y⟩
   have M:t∈l:=ht ▸ aq s;have gE:∀c,Seg g c ((AJ w).add (k*3)) (D6 t):=λc=>by rw[<-ht];exact((f.rd.up Q).any (ms:=c)).seg s
   have ost:=AA (Ba t.2.natAbs);have T:l.take (k+1)=l.take k++[t]:=by rw[ap s,ht]
   refine I<|X<|Ag<|U<|E (AR (k) (rW _ Q).any Y Ct Cv Y Y Z Z) Y<|E (oG Y U79 Cv<|gE _) Y<|BJ [.w 0,.bool false,.es] Y Cv Y Y<|λg7=>?_;refine Sa 0 [_,_,_] Cv Y (by simp[ov,ow,ost]) ?_;refine Ao<|AH λh3 l3 A=>?_
   have sg7:∀c,Seg h3 c ((⟨g7,0,none⟩:Addr).add 1) (Bg t.2):=λc i v hv=>by
    have:=(A (1+i) v (by rw[ij];exact hv)).any (ms:=c)
    rwa [BD]
   have c7:∀c,Cell h3 c ((⟨g7,0,none⟩:Addr).add 0) (.w t.1):=λc=>(A 0 _ Y).any;refine Ad<|G Y<|Qf Gr Y<|Ql Y U3 (c7 _)<|Qf Ic Y<|E (oG Y Bn Av<|sg7 _) Y ?_;refine AE (pre:=[m]) Y call102 Y (KJ e m _ bs t.1 t.2 (f.ids t M) (f.sz M) (Mo (bl (by rw[Fo];exact Dc _ _)<|Nat.le_of_lt<|hbd k) (show 2^2000000<2^2000001 from Nat.pow_lt_pow_right δ δ) δ) j h3) Y Y Y Y<|λz h4 ms4 l4 hF=>?_;obtain⟨rfl,m',S,rfl,y⟩:=hF;rw[<-KC,du,<-T]at y;refine Am<|D2<|Ad<|E (oA Y) Y<|G Y<|Am<|Aq (p-(k+1)) _ Z ⟨k+1,m',S,Y,Y,N Q l3,Y,Z,y⟩ Qs
  .obtain rfl:k=p:=Z
   have e1:(a.take i).flatten++l.take k=(a.take (i+1)).flatten:=by
    have B:i<a.length:=Z
    rw[bm (show l.length<=k by omega),ap B,List.flatten_append,List.flatten_cons,List.flatten_nil,List.append_nil,<-u];simp[List.getD,B]
   rw[e1]at j;refine C<|D2<|Ad<|E (oA Y) Y<|G Y<|Am<|Aq (n-(i+1)) _ Z ⟨i+1,m,bs,Y,Y,N O Q,Y,Z,j⟩ Qs
 .obtain rfl:i=n:=Z
  rw[show a.take i=a from bm Z]at j;refine C<|Ab<|U<|G Y<|J Y<|Aj<|Ar Y Y (⟨O,e,m,bs,Y,Y,j⟩)
def K2(T:List Tm)(ks:List Int):List Tm:=(ks.filter λc=>decide (tv T c≠0)).map λc=>(c,tv T c)
theorem Nd(T:List Tm)(a:List Int)(c:Int):K2 T (a++[c])=K2 T a++if tv T c≠0 then [(c,tv T c)] else []:=by unfold K2;rw[jm,cz];congr 1;by_cases h:tv T c=0<;>simp[h]
theorem PW(T:List Tm)(a:List Int):(K2 T a).length<=a.length:=by unfold K2;rw[bb];exact fj _ _
theorem Ze{T:List Tm}{c:Int}(h:c ∉ T.map Prod.fst):tv T c=0:=by unfold tv;rw[Ee h];rfl
theorem Aap{T:List Tm}{d:List Int}(j:d.Perm (T.map Prod.fst))(l:d.Pairwise (·<=·))(k:(T.map Prod.fst).Nodup):CanL (K2 T d) (tv T):=by
 have g:d.Nodup:=j.nodup_iff.2 k
 have f:d.Pairwise (· < ·):=by have:=List.Pairwise.and l g;exact this.imp λ⟨a,b⟩=>Z
 refine⟨?_,λp i=>?_,λc e=>?_⟩
 .unfold K2;exact fo.2 ((f.filter _).imp id)
 .obtain⟨c,e,rfl⟩:=ai.1 i;exact⟨Y,dd (dp.1 e).2⟩
 .refine ai.2 ⟨c,dp.2 ⟨j.mem_iff.2 ?_,bp e⟩,Y⟩;exact ax λh=>e<|Ze h
theorem NH(s:Nat)(m:Hp)(T:List Tm)(bs:List Nat)(h:Hp)(O:CM kN WD s Cb m T bs)(hm:m.le h)(hT:T.length<=1000000)(hS:∀c,Sz (tv T c)) :
  FnT prog 103 #[.map (some s)] h [] (λr b d=>h.le b/\∃l m',d=[m']/\OwnL D6 3 79 m' r l/\CanL l (tv T)/\l.length<=T.length):=by
 refine Au func103 ntmps103 Y Y<|λ_ _=>U<|G Y<|BF<|J Y<|X<|U<|G Y<|Qc call158 Y (Aeo (some s) h)<|λvf h1 ms1 l1 B=>?_;obtain⟨rfl,g1,rfl,rfl⟩:=B;refine Bm λh2 l2 K=>?_;have Q:=N hm l2;refine Qc call157 Y (W7 g1 s m T bs h2 K O Q hT)<|λvk h3 ms3 l3 B=>?_;obtain⟨l3',a,mk,rfl,Ok,hp,hs⟩:=B;refine BX Ok λh4 l4 A=>?_;have y:=N l2 (N l3' l4);obtain⟨n,R⟩:∃n,a.length=n:=⟨_,Y⟩
 have S:n=T.length:=by rw[<-R,hp.length_eq,bb]
 have rK:∀b,h4.le b->Rd b [] vk 1 n (a.flatMap cI):=λb l=>by have:=(A.up l).rd;rwa [R]at this
 have ok:=A.rd.one;refine E (Aw (rK _<|Bk).any Y Bb Y) Y<|J Y<|Ag<|BW<|AC (λq sl b d=>∃(k:Nat) (w:Value) (z:Hp),n-k=q/\sl=[(0,.map (some s)),(3,w),(8,vk),(9,.w n),(10,.w k)]/\h4.le b/\d=[z]/\k<=n/\OwnL D6 3 79 z w (K2 T (a.take k))) (n-0) _ ⟨0,_,_,Y,Y,Bk,Y,Z,OwnL.nil EX⟩ Qs ?_;rintro q sl b d ⟨k,w,z,rfl,rfl,i,rfl,hk,t⟩;have ow:=t.o1;have x:=N hm (N y i);have hol:(K2 T (a.take k)).length<=1000000:=bl (PW _ _) (by rw[bf];omega);refine U<|J Y<|X<|Ay Y (λP=>?_)<|λP=>?_
 .have hkn:k<n:=Z
  have f:k<a.length:=Z
  obtain⟨c,L⟩:∃c,a[k]=c:=⟨_,Y⟩
  have M:c∈T.map Prod.fst:=hp.mem_iff.1 (L ▸ aq f)
  have v:Cb c:=by obtain⟨p,hp1,hp2⟩:=ai.1 M;exact hp2 ▸ O.ok p hp1
  have j:a.take (k+1)=a.take k++[c]:=by rw[ap f,L]
  have cE:∀ms,Cell b ms ((AJ vk).add (k*1)) (.w c):=λms=>by rw[<-L];exact((A.up i).any (ms:=ms)).cell0 f Y
  have ost:=AA (Ba (tv T c).natAbs);refine I<|X<|Ag<|U<|E (AR (k) (rK _ i).any Y Bb By Y Y Z Z) Y<|Ql Y U3 (cE _)<|G Y<|BF<|D Y Y<|E (GD (V:=WD) (z:=(0:Int)) c BL O x Y It Ot Y Y v) Y<|E (As Y call60 Y<|Df (tv T c) (hS c) _ _) Y<|J Y<|Ay Y (λg=>?_)<|λg=>?_
  .have hz:tv T c≠0:=λe=>g (by rw[e];rfl);refine Ad<|D Y Y<|D Y Y<|E (GD (V:=WD) (z:=(0:Int)) c BL O x Y It Ot Y Y v) Y<|E (AQ ZI [.w 0,.bool false,.es] [(0,_),(1,_)] [_,_,_] Y Cv Y Y Qt Y) Y<|AB [_,_,_] Y Ct Cv Y ξ Y Y Z Y Y Y<|λg25=>AL 1 t (RdL.one EX (x:=((c,tv T c):Tm)) Mh Y) Y Ct Cv Y Z Y Y Y D3 (by simp only[ae];omega) (by simp only[ae];omega) rfl rfl rfl<|λw2 mo2 u=>?_;have ow2:=u.o1;refine G Y<|Am<|D2<|Ad<|E (oA Y) Y<|G Y<|Am<|AU ?_;exact Aq (n-(k+1)) _ Z ⟨k+1,w2,mo2,Y,Y,i,Y,Z,by rw[j,Nd,ah hz];exact u⟩ Qs
  .have hz:tv T c=0:=by have:=fp.1 g;exact di.1 this
   refine Ah (Ai (Ab (Ad (Qx (oA rfl) rfl (Qm rfl (Am ?_))))));exact Aq (n-(k+1)) _ (by omega) ⟨k+1,w,z,rfl,rfl,i,rfl,by omega,by rw[j,Nd,if_neg (fun h=>h hz),append_nil];exact t⟩ Qs
 .obtain rfl:k=n:=Z
  rw[show a.take k=a from bm Z]at t;refine C<|Ab<|U<|G Y<|J Y<|Aj ?_;exact Ar Y Y (⟨N y i,_,z,Y,t,Aap hp hs O.keys,by rw[<-S,<-R];exact PW _ _⟩)
theorem AcJ{a:List Tm}(b:Bi a<2^2000000)(c:Int):Sz (tv (JW a) c):=by rw[Fo];exact Mo (Dc _ _) b H
theorem VM(v:Value)(l:List Tm)(h:Hp)(R:ChR v h l):FnT prog 138 #[v] h [] (λr t k=>h.le t/\∃d e,k=[e]/\OwnL D6 3 79 e r d/\CanL d (cf l)/\d.length<=l.length):=by
 obtain⟨a,P,rfl,_⟩:=R.rd.rd.ex;refine Au func138 ntmps138 Y Y<|λ_ _=>U<|G Y<|BF<|G Y<|AB [_] Y RN DO Y ξ Y Y Z Y Y Y<|λQ=>Bm λu p y=>?_;have b:([l]:List (List Tm)).flatten=l:=by simp
 refine Qc call92 Y (Ik _ [_] [l] u (RdL.built y Y Y Hc H) Y σ (λi z=>by rcases i with _|i;exact R.up p;simp at z) (by rw[b];exact R.abs))<|λvm S L l3 f=>?_;obtain⟨g,s,m,bs,rfl,rfl,O⟩:=f;rw[b]at O;refine CU λx B K=>?_;refine Qc call103 Y (NH s m _ bs x O K (bl (JG l) (by have:=R.len;omega))<|AcJ R.abs)<|λw T M l5 f=>?_;obtain⟨j,d,e,rfl,n,C,c⟩:=f;have ow:=n.o1;refine J Y<|Aj<|Ar Y Y (⟨N p<|N g<|N B j,d,e,Y,n,C.congr<|Fo l,bl c<|JG l⟩)
def CanR(L:List Tm)(r:Value)(h:Hp):Prop:=∃l,CanL l (cf L)/\ChR r h l/\Bi l<=Bi L/\l.length<=L.length
theorem CanR.of{L l:List Tm}{r:Value}{h:Hp}(C:CanL l (cf L))(R:RdL D6 3 h [] r l)(g:L.length<=100000)(b:∀p∈L,Cb p.1)(a:Bi L<2^2000000)(c:l.length<=L.length):CanR L r h:=
 ⟨l,C,⟨R,Z,λp d=>by
  obtain⟨q,f,e⟩:=ai.1 (C.ids d)
  exact e ▸ b q f,dr C.abl_le a⟩,C.abl_le,c⟩
theorem JE(v:Value)(l:List Tm)(h:Hp)(R:ChR v h l):FnT prog 138 #[v] h [] (λr b a=>h.le b/\a=[]/\CanR l r b):=
 FnT.frz (VM v l h R) λr b a ⟨q,k,i,e,c,C,d⟩=>⟨i,[],e,λj f g=>⟨N q f,rfl,CanR.of C (c.rdh g) R.len R.ids R.abs d⟩⟩
theorem X5(f:Nat)(m:Hp)(T L:List Tm)(bs:List Nat)(h:Hp)(O:CM kN WD f Cb m T bs)(a:∀c,tv T c=cf L c)(b:T.length<=L.length)(n:m.le h)(l:L.length<=100000)(k:∀p∈L,Cb p.1)(i:Bi L<2^2000000) :
  FnT prog 103 #[.map (some f)] h [] (λr g d=>h.le g/\d=[]/\CanR L r g):=
 FnT.frz (NH f m T bs h O n (bl b Z) (λc=>by rw[a];exact Mo (Dc _ _) i H)) λr g d ⟨q,y,v,e,j,C,s⟩=>⟨v,[],e,λx t u=>⟨N q t,Y,CanR.of (C.congr a) (j.rdh u) l k i (bl s b)⟩⟩
theorem RD(a:Nat)(m:Hp)(L:List Tm)(bs:List Nat)(h:Hp)(O:CM kN WD a Cb m (JW L) bs)(g:m.le h)(f:L.length<=100000)(e:∀p∈L,Cb p.1)(d:Bi L<2^2000000) :
  FnT prog 103 #[.map (some a)] h [] (λr c b=>h.le c/\b=[]/\CanR L r c):=
 X5 a m (JW L) L bs h O (Fo L) (JG L) g f e d
theorem Zz(v w:Value)(l k:List Tm)(h:Hp)(R:ChR v h l)(c:ChR w h k)(hn:l.length+k.length<=100000)(s:Bi (l++k)<2^2000000):FnT prog 93 #[v,w] h [] (λr n j=>h.le n/\j=[]/\CanR (l++k) r n):=by
 obtain⟨a,cc,rfl,_⟩:=R.rd.rd.ex;obtain⟨T,t,rfl,_⟩:=c.rd.rd.ex;refine Au func93 ntmps93 Y Y<|λ_ _=>U<|G Y<|BF<|D Y Y<|AX [(0,_),(1,_)] [.nl,.nl] [_,_] Y RN DO Y Z V Qt Y Y Y Y<|λg7=>Bm λx e A=>?_;have b:([l,k]:List (List Tm)).flatten=l++k:=by simp
 refine Qc call92 Y (Ik _ [_,_] [l,k] x (RdL.built A Y Y Hc H) Y σ (λi B=>by rcases i with _|_|i;exact R.up e;exact c.up e;simp at B;omega) (by rw[b];exact s))<|λvm h3 Q l3 d=>?_;obtain⟨f,u,m,bs,rfl,rfl,O⟩:=d;rw[b]at O;refine CU λy M P=>?_;refine Qc call103 Y (RD u m _ bs y O P (by rw[ag];omega) (λp K=>(bi.1 K).elim (R.ids p)<|c.ids p) s)<|λz h5 S l5 d=>?_;obtain⟨g,rfl,C⟩:=d;have oz:z.oneCell'=true:=by obtain⟨_,_,q,_⟩:=C;exact q.rd.rd.one
 refine J Y<|Aj<|Ar Y Y (⟨N e<|N f<|N M g,Y,C⟩)
variable {T:List Tm} {n:Int} {vis:List Nat} {j:Nat}
def KL(n:Int)(l:List Tm):List Tm:=l.map λp=>(p.1,n*p.2)
theorem N7(n:Int)(l:List Tm)(c:Int):cf (KL n l) c=n*cf l c:=by
 induction l with
 | nil=>simp[KL,Ka]
 | cons p l ih=>
  show cf ((p.1,n*p.2)::KL n l) c=_;rw[CN,CN,ih,jj];congr 1;show(if p.1=c then n*p.2 else 0)=_;split<;>simp
theorem K0(n:Int)(l:List Tm):Bi (KL n l)=n.natAbs*Bi l:=by
 induction l with
 | nil=>simp[KL,Bi]
 | cons p l ih=>
  show Bi ((p.1,n*p.2)::KL n l)=_;rw[DD,DD,ih,ip,jv]
def OY(n:Int)(T:List Tm)(vis:List Nat):List Tm:=T.mapIdx λj p=>(p.1,if j∈vis then n*p.2 else p.2)
theorem Jp(n:Int)(T:List Tm)(vis:List Nat):(OY n T vis).length=T.length:=by simp[OY]
theorem AeU(n:Int)(T:List Tm):OY n T []=T:=by refine ic λk=>?_;simp[OY,List.getElem?_mapIdx]
theorem Aba(a:j<T.length):(OY n T vis)[j]'(by rw[Jp];exact a)=(T[j].1,if j∈vis then n*T[j].2 else T[j].2):=by simp[OY]
theorem Ad2(a:j<T.length):(OY n T vis).set j (T[j].1,n*T[j].2)=OY n T (vis++[j]):=by
 refine ic λk=>?_;rw[gh,Jp];by_cases e:j=k
 .subst e;rw[ah rfl,ah a];simp[OY,a]
 .rw[af e];simp only[OY,List.getElem?_mapIdx,bi,bj];have:(k∈vis\/k=j)<->k∈vis:=⟨λh=>h.resolve_right λq=>e q.symm,.inl⟩
  simp only[this]
theorem AcT(n:Int)(T:List Tm)(vis:List Nat):(OY n T vis).map Prod.fst=T.map Prod.fst:=by refine ic λk=>?_;simp only[OY,gj,List.getElem?_mapIdx,Option.map_map];cases T[k]?<;>rfl
theorem Abj(n:Int)(T:List Tm)(c:Int):BO (T.map λp=>(p.1,n*p.2)) c=(BO T c).map (n*·):=by
 unfold BO
 induction T with
 | nil=>rfl
 | cons p T ih=>
  rw[dh,j8,j8];by_cases e:p.1=c
  .simp[e]
  .simp only[e,decide_false];exact ih
theorem AeR(h:∀j,j<T.length->j∈vis)(c:Int):tv (OY n T vis) c=n*tv T c:=by
 have e:OY n T vis=T.map λp=>(p.1,n*p.2):=by
  refine ic λk=>?_;simp only[OY,List.getElem?_mapIdx,gj];by_cases a:k<T.length
  .simp[h k a,a]
  .simp[fk,a]
 unfold tv;rw[e,Abj];cases BO T c<;>simp
theorem AhO(b:(T.map Prod.fst).Nodup)(a:j<T.length):tv T T[j].1=T[j].2:=by unfold tv;rw[EU b (j:=j) (a:=T[j].1) (x:=T[j].2) (by simp[a])];rfl
theorem WJ(n:Int)(v:Value)(l:List Tm)(h:Hp)(R:ChR v h l)(hn:Sz n)(ha:n.natAbs*Bi l<2^2000000):FnT prog 94 #[WD n,v] h [] (λr h' d=>h.le h'/\d=[]/\CanR (KL n l) r h'):=by
 obtain⟨a,cc,rfl,_⟩:=R.rd.rd.ex;have osn:=AA (Ba n.natAbs);refine Au func94 ntmps94 Y Y<|λ_ _=>U<|AK [_,_] Y Y ξ Y Y Y<|λg2=>J Y<|AH λh1 l1 hS2=>?_;have y:([l]:List (List Tm)).flatten=l:=by simp
 refine U<|G Y<|AB [_] Y RN DO Y ξ Y Y Z Y Y Y<|λg9=>Bm λh2 l2 hS=>?_;have l02:=N l1 l2;refine Qc call92 Y (Ik _ [_] [l] h2 (RdL.built hS Y Y Hc H) Y σ (λi hi=>by rcases i with _|i;exact R.up l02;simp at hi) (by rw[y];exact R.abs))<|λvm h3 ms3 l3 S=>?_;obtain⟨l3',P,m,bs,rfl,rfl,O⟩:=S;rw[y]at O;have B:=N l2 l3';obtain⟨T,Q⟩:∃T,JW l=T:=⟨_,Y⟩
 have hTn:T.length<=l.length:=Q ▸ JG l;rw[Q]at O;refine J Y<|X<|U<|G Y<|AbC O σ rfl It rfl rfl rfl rfl<|λgi L I0=>Ao<|Ag ?_
 refine AC (λq s hh d=>∃(vis:List Nat) (L K:Hp),q=T.length-vis.length/\s=[(2,.pt g2),(5,.map (some P)),(12,.pt gi)]/\h3.le hh/\d=[L,K]/\CM kN WD P Cb K (OY n T vis) bs/\EF gi P K L bs vis)
  (T.length-0) _ ⟨[],L,m,rfl,rfl,Bk,rfl,by rw[AeU];exact O,I0⟩ Qs ?_
 rintro q s hh d ⟨vis,L,K,rfl,rfl,lh,rfl,g,I⟩;have lh1:=N B lh;refine U<|Ad1 0 g I σ rfl rfl rfl rfl rfl rfl (λu=>?_)<|λj e mi' z M=>?_
 .refine J Y<|X<|AM Y<|Br<|Ab<|U<|G Y<|PF 0 Y<|CU λh4 l4 lm=>?_;have f:∀j,j<T.length->j∈vis:=λj e=>u j (by rw[Jp];exact e);refine Qc call103 Y (X5 P K (OY n T vis) (KL n l) bs h4 g (λc=>by rw[AeR f,<-Q,Fo,N7]) (by rw[Jp,KL,bb];exact hTn) lm (by rw[KL,bb];exact R.len) (λp hp=>by obtain⟨q,hq,rfl⟩:=ai.1 hp;exact R.ids q hq) (by rw[K0];exact ha))<|λw h5 ms5 l5 S=>?_;obtain⟨l5',rfl,C⟩:=S;have oz:w.oneCell'=true:=by obtain⟨_,_,q,_⟩:=C;exact q.rd.rd.one
  refine J Y<|Aj<|Ar Y Y (⟨N l1<|N lh1<|N l4 l5',Y,C⟩)
 .refine J Y<|X ?_;have b:j<T.length:=by rw[Jp]at e;exact e
  obtain⟨c,k⟩:∃c,T[j].1=c:=⟨_,Y⟩
  obtain⟨x,t⟩:∃x,T[j].2=x:=⟨_,Y⟩
  have htx:tv T c=x:=by rw[<-k,<-t];exact AhO O.keys b
  have hxs:Sz x:=by rw[<-htx,<-Q];exact AcJ R.abs c
  have hcT:c∈T.map Prod.fst:=k ▸ List.mem_map_of_mem (aq b);have hcI:Cb c:=k ▸ O.ok _ (aq b);have heq:(.tuple #[kN ((OY n T vis)[j]'e).1,WD ((OY n T vis)[j]'e).2]:Value)=.tuple #[.w c,WD x]:=by rw[Aba b,af z,k,t];rfl
  have osx:=AA (Ba x.natAbs);have osm:=AA (Ba (n*x).natAbs);refine A4 Y<|Cg<|Ag<|U<|E (DY (AcX g M σ σ e rfl rfl) heq) rfl<|G rfl<|G rfl<|BJ [.bool false,.es] rfl Av rfl rfl<|λg7=>G rfl ?_;refine Sa 0 [_,_] Av Y (by simp[osn,osx,osm]) ?_;refine Ao<|AH λh6 l6 hS7=>?_;have l26:=N (N B lh) l6;have sg2:∀ms,Seg h6 ms (⟨g2,0,none⟩:Addr) (Bg n):=λms=>(hS2.le l26).any;refine Ad<|D Y Y<|E (oG Y Bn Av<|sg2 _) Y<|E (oG Y Bn Av<|hS7.any) Y<|E (As Y call141 Y<|IV n x hn hxs _ _) Y ?_;refine Aae (V:=WD) (z:=undef) 1 c (n*x) BL g (by rw[AcT];exact hcT) Y Y It Y Y Y hcI Y Y<|λm2 O2 I2=>?_
  have e2:DG (OY n T vis) c (n*x)=OY n T (vis++[j]):=by
   have e3:(OY n T vis)[j]?=some (c,x):=by rw[aj e,Aba b,af z,k,t]
   rw[Gg g.keys e3,<-k,<-t,Ad2 b]
  rw[e2]at O2
  have A:(vis++[j]).length<=T.length:=by have:=M.nodup.length_le_of_subset (l₂:=range T.length) λx t=>b6.2 (by have:=M.lt x t;rw[g.len,Jp]at this;exact this);simpa using this
  rw[ag,ae]at A;refine Am<|Ai ?_;exact Aq (T.length-(vis++[j]).length) _ (by rw[ag,ae];omega) ⟨vis++[j],mi',m2,rfl,rfl,N lh l6,rfl,O2,I2 _ _ _ M⟩ Qs
end
section
open Go.Lin Go.Wd Go.Sm Go.Ch
def Xb(l:List (Int×Int))(p:Int×Int->Bool):Int:=match l.findIdx? p with|some k=>k|none=>-1
theorem ZW{l:List (Int×Int)}{p:Int×Int->Bool}{k:Nat}(b:k<l.length)(h:p l[k]=true)(c:∀j (a:j<l.length),j<k->p l[j]=false):Xb l p=k:=by unfold Xb;rw[kq.2 ⟨b,h,λj a=>by rw[c j Z a];decide⟩]
theorem ZG{l:List (Int×Int)}{p:Int×Int->Bool}(h:∀j (a:j<l.length),p l[j]=false):Xb l p=-1:=by unfold Xb;rw[List.findIdx?_eq_none_iff.2 λx b=>by obtain⟨j,a,rfl⟩:=ee b;exact h j a]
theorem Abv(l:List (Int×Int))(p:Int×Int->Bool):decide (0<=Xb l p)=l.any p:=by
 unfold Xb;cases h:l.findIdx? p with
 | none=>
  rw[List.findIdx?_eq_none_iff]at h;have:l.any p=false:=kz.2 λx c=>by rw[h x c];decide
  rw[this];rfl
 | some k=>
  obtain⟨b,a,_⟩:=kq.1 h;have:l.any p=true:=List.any_eq_true.2 ⟨_,aq b,a⟩;rw[this];exact bp (show(0:Int)<=(k:Int) by omega)
theorem ZE(l:List (Int×Int))(i:Value)(cf:FuncId)(cs:List Value)(p:Int×Int->Bool)(h:Hp)(g:RdL D6 3 h [] i l)(L:l.length<=1000000)
  (x:∀u w,(callFunc cf u).run prog w=.ok (.enter cf u) w)
  (z:∀s∈l,∀e,FnV prog cf ([]++[Value.agg (D6 s).toArray]++cs).toArray h e (.bool (p s))) :
  FnT prog 166 #[i,.func (.func cf) #[] cs.toArray] h [] (λr _ _=>r=.w (Xb l p)):=by
 have o1:=g.rd.one;refine Au func166 ntmps166 Y Y<|λ_ _=>U<|J Y<|X<|U<|G Y<|E (Aw g.rd.any Y Ct Y) Y<|J Y<|Ag ?_
 refine AC (λq s t f=>∃(k:Nat),q=l.length-k/\s=[(0,i),(1,.func (.func cf) #[] cs.toArray),(7,.w l.length),(8,.w k)]/\h=t/\f=[]/\k<=l.length/\∀j (d:j<l.length),j<k->p l[j]=false)
  (l.length-0) _ ⟨0,rfl,rfl,rfl,rfl,Z,λj _ d=>Z⟩ Qs ?_
 rintro q s t f ⟨k,rfl,rfl,rfl,rfl,K,b⟩;refine U<|J Y<|X<|Ay Y (λm=>?_)<|λm=>?_
 .have a:k<l.length:=Z
  have n:∀e,Seg h e ((AJ i).add (k*3)) (D6 l[k]):=λe=>(g.any (ms:=e)).seg a;have B:=AA (Ba (l[k]).2.natAbs);refine I<|X<|Ag<|U<|D Y Y<|BF<|D Y Y<|G Y<|E (BP (k) g.rd.any Y Ct Cv Y Y) Y<|E (oG Y U79 Cv<|n _) Y<|E (CF Y Y x Y<|z _ (aq a) _) Y<|Ao<|B1 Y (λc=>?_)<|λc=>?_
  .refine X<|Ad<|G Y<|J Y<|Aj<|An<|Ae<|Ae<|An<|Ae ?_;exact Ar Y Y (by rw[ZW a c b])
  .refine Ah<|D2<|Ad<|E (oA Y) Y<|G Y<|Am<|Aq (l.length-(k+1)) _ Z ⟨k+1,Y,Y,Y,Y,Z,λj d y=>?_⟩ Qs;rcases (Z:j<k\/j=k) with v|rfl
   .exact b j d v
   .exact c
 .obtain rfl:k=l.length:=Z
  refine C<|Ab<|U<|J Y<|Aj ?_;exact Ar Y Y (by rw[ZG λj d=>b j d d])
theorem Md(l:List (Int×Int))(c:Value)(cf:FuncId)(cs:List Value)(b:Int×Int->Bool)(h:Hp)(e:RdL D6 3 h [] c l)(g:l.length<=1000000)
  (f:∀d w,(callFunc cf d).run prog w=.ok (.enter cf d) w)
  (i:∀s∈l,∀a,FnV prog cf ([]++[Value.agg (D6 s).toArray]++cs).toArray h a (.bool (b s))) (a:List Hp) :
  FnV prog 120 #[c,.func (.func cf) #[] cs.toArray] h a (.bool (l.any b)):=by
 refine D9 ?_ a;refine Au func120 ntmps120 Y Y<|λ_ _=>U<|G Y<|BF<|D Y Y<|E (As Y call166 Y<|D9 (ZE l c cf cs b h e g f i) _) Y<|G Y<|J Y<|Aj ?_;exact Ar Y Y (by rw[<-Abv])
def WX(T:List (Int×Bool))(c:Int):Bool:=(BO T c).getD false
def inS(T:List (Int×Bool))(dim:Int)(x:Cl):List (Int×Bool):=DG T x.id (WX T x.id||decide (x.dim=dim))
def inT(o:List Cl)(dim:Int):List (Int×Bool):=o.foldl (λT x=>inS T dim x) []
theorem U1(o:List Cl)(a:Int)(x:Cl):inT (o++[x]) a=inS (inT o a) a x:=by unfold inT;rw[List.foldl_append];rfl
def Ix(o:List Cl)(dim c:Int):Bool:=o.any λx=>decide (x.id=c)&&decide (x.dim=dim)
theorem AgB(T:List (Int×Bool))(a:Int)(x:Cl)(c:Int):WX (inS T a x) c=(WX T c||(decide (x.id=c)&&decide (x.dim=a))):=by
 unfold inS
 have:WX (DG T x.id (WX T x.id||decide (x.dim=a))) c=if c=x.id then(WX T x.id||decide (x.dim=a)) else WX T c:=by unfold WX;rw[Gk];split<;>rfl
 rw[this];by_cases e:c=x.id
 .rw[ah e,e];simp
 .rw[af e,dx (λq=>e q.symm)];simp
theorem Af9(o:List Cl)(a c:Int):WX (inT o a) c=Ix o a c:=by
 have b:∀(o:List Cl) (T:List (Int×Bool)),WX (o.foldl (λT x=>inS T a x) T) c=(WX T c||Ix o a c):=by
  intro o
  induction o with
  | nil=>intro T;simp[Ix]
  | cons x o ih=>
   intro T;rw[it,ih,AgB];show _=(WX T c||((decide (x.id=c)&&decide (x.dim=a))||Ix o a c));rw[Bool.or_assoc]
 have:=b o [];unfold inT;rw[this];rfl
noncomputable def EL(o:List Cl)(dim:Int)(L:List Tm):Bool:=@decide (∀c,cf L c≠0->Ix o dim c=true) (Classical.propDecidable _)
theorem Du(o:List Cl)(a:Int)(L:List Tm):EL o a L=true<->∀c,cf L c≠0->Ix o a c=true:=@gk _ (Classical.propDecidable _)
theorem Sn{o:List Cl}{a:Int}{L l:List Tm}(C:CanL l (cf L)):(!(l.any λp=>!Ix o a p.1))=EL o a L:=by
 have f:(!(l.any λp=>!Ix o a p.1))=true<->EL o a L=true:=by
  rw[Du];simp only[Bool.not_eq_true',kz,Bool.not_eq_false,Bool.not_not,jw];constructor
  .intro h c b;have:=h _ (C.all c b);simpa using this
  .intro h p d;obtain⟨e,n⟩:=C.val p d;have:=h p.1 (e ▸ n);simp[this]
 cases ha:(!(l.any λp=>!Ix o a p.1))<;>cases hb:EL o a L<;>simp_all
theorem AhE(a b:Nat)(m:Hp)(T:List (Int×Bool))(bs:List Nat)(h:Hp)(d:Cell h [] (⟨a,0,none⟩:Addr) (.map (some b)))(O:CM kN vB b Cb m T bs)(e:m.le h)(p:Tm)(f:Cb p.1)(c:List Hp) :
  FnV prog 139 #[.agg (D6 p).toArray,.pt a] h c (.bool (!WX T p.1)):=by
 refine D9 ?_ c;have i:=AA (Ba p.2.natAbs);refine Au func139 ntmps139 Y Y<|λ_ _=>U<|AK [_,_,_] Y Y ξ Y Y Y<|λj=>G Y<|BF<|Ql Y VG (d.any)<|Qf Gr Y<|Ql Y U3 (Cell.blk 0 Y Y)<|E (GD (V:=vB) (z:=false) p.1 BL O e Y VG Ye Y Y f) Y<|G Y<|J Y<|Aj<|Ar Y Y<|Y
theorem NP(l:List Ce)(v va:Value)(b:Int)(a:List Tm)(h:Hp)(T:RdC h v l)(hn:l.length<=1000)(hI:∀x∈l,Cb x.c.id)(A:ChR va h a)(e:List Hp):FnV prog 86 #[.agg #[v],.int .i64 b,va] h e (.bool (EL (l.map Ce.c) b a)):=by
 refine D9 ?_ e;have ov:=T.q.rd.one;obtain⟨aa,ac,rfl,_⟩:=A.rd.rd.ex;refine Au func86 ntmps86 Y Y<|λ_ _=>U<|AK [_] Y Y ξ Y Y Y<|λg3=>J Y<|AH λh1 l1 hS3=>?_;have c3:=qD 0 hS3 Y;refine U<|DJ (K:=kN) (V:=vB) (Ok:=Cb) Y Y Y Y<|λgS m0 O0=>BJ [.map none] Y Aei Y Y<|λS=>Bl 0 0 Y Aei Y Y ξ Y Y H Y Y<|Ao<|Ak 0 Y λh2 l2 hS7=>?_;have t:∀d,h2.le d->∀e,Cell d e (⟨S,0,none⟩:Addr) (.map (some gS)):=λd l e=>((hS7.at0 Y).any).le l;have j:=N l1 l2;obtain⟨n,B⟩:∃n,l.length=n:=⟨_,Y⟩
 have rV:∀d,h2.le d->Rd d [] v 3 n (l.flatMap cC):=λd q=>by have:=((T.up j).q.up q).rd;rwa [B]at this
 refine X<|U<|Qf Cy Y<|Ql Y B8 (c3 _ l2 _)<|E (Aw (rV _<|Bk).any Y B8 Y) Y<|J Y<|Ag<|AC (λq sl d P=>∃(k:Nat) (m:Hp) (bs:List Nat),n-k=q/\sl=[(1,.w b),(2,.slice aa a.length ac),(7,.pt S),(12,v),(13,.w n),(14,.w k)]/\h2.le d/\P=[m]/\k<=n/\CM kN vB gS Cb m (inT ((l.map Ce.c).take k) b) bs) (n-0) _ ⟨0,m0,[],Y,Y,Bk,Y,Z,O0⟩ Qs ?_;rintro q sl d P ⟨k,m,bs,rfl,rfl,M,rfl,hk,O⟩;refine U<|J Y<|X<|Ay Y (λhlt=>?_)<|λhlt=>?_
 .have hkn:k<n:=Z
  have i:k<l.length:=Z
  obtain⟨x,hx⟩:∃x,l[k]=x:=⟨_,Y⟩
  have K:x∈l:=hx ▸ aq i;have f:=hI x K;have ox:=(T.s x K).rd.one;have gE:∀e,Seg d e ((AJ v).add (k*3)) (cC x):=λe=>by rw[<-hx];exact(((T.up j).q.up M).any (ms:=e)).seg i
  have y:(l.map Ce.c).take (k+1)=(l.map Ce.c).take k++[x.c]:=by rw[ap (by simpa using i),fd,hx]
  obtain⟨u,hu⟩:∃u,(BO (inT ((l.map Ce.c).take k) b) x.c.id).getD false=u:=⟨_,Y⟩
  refine I<|X<|Ag<|U<|E (AR (k) (rV _ M).any Y B8 A9 Y Y Z Z) Y<|E (oG Y Kr A9<|gE _) Y<|BJ [.w 0,.w 0,.nl] Y A9 Y Y<|λg9=>?_;refine Sa 0 [_,_,_] A9 Y (by simp[ov,ox]) ?_;refine Ao<|AH λh5 l5 z=>?_;have c:=N M l5;have R:=qC 0 z Y;have d9:=qC 1 z Y;cases u
  .refine Ad<|Ql Y VG (t _ c _)<|Qf B7 Y<|Ql Y U3 (R _)<|Ql Y VG (t _ c _)<|Qf B7 Y<|Ql Y U3 (R _)<|E (DZ (V:=vB) (z:=false) x.c.id hu BL O (.head _) Y VG Ye Y Y f) Y<|G Y<|Qg (oF Co Y) Y<|Qg (oL Y U3<|d9 _) Y<|Qg (Ap Y Y) Y<|Qg (Cq Y Y Y) Y<|G Y<|Dh (V:=vB) (z:=undef) 0 x.c.id (decide<|x.c.dim=b) BL O Y Y VG Y Y Y f Y Y<|λm' g r=>?_
   have e2:DG (inT ((l.map Ce.c).take k) b) x.c.id (decide (x.c.dim=b))=inT ((l.map Ce.c).take (k+1)) b:=by rw[y,U1];unfold inS WX;rw[hu];rfl
   rw[e2]at r;refine Am<|D2<|Ad<|E (oA Y) Y<|G Y<|Am<|Aq (n-(k+1)) _ Z ⟨k+1,m',g,Y,Y,c,Y,Z,r⟩ Qs
  .refine Ad<|Ql Y VG (t _ c _)<|Qf B7 Y<|Ql Y U3 (R _)<|Ql Y VG (t _ c _)<|Qf B7 Y<|Ql Y U3 (R _)<|E (DZ (V:=vB) (z:=false) x.c.id hu BL O (.head _) Y VG Ye Y Y f) Y<|G Y<|DM Y Y<|DM Y Y<|G Y<|Dh (V:=vB) (z:=undef) 0 x.c.id true BL O Y Y VG Y Y Y f Y Y<|λm' g r=>?_
   have e2:DG (inT ((l.map Ce.c).take k) b) x.c.id true=inT ((l.map Ce.c).take (k+1)) b:=by rw[y,U1];unfold inS WX;rw[hu];rfl
   rw[e2]at r;refine Am<|D2<|Ad<|E (oA Y) Y<|G Y<|Am<|Aq (n-(k+1)) _ Z ⟨k+1,m',g,Y,Y,c,Y,Z,r⟩ Qs
 .subst B;obtain rfl:k=l.length:=Z
  rw[show(l.map Ce.c).take l.length=l.map Ce.c from bm σ]at O;have lhx:=N j M;refine Br<|Ab<|U<|G Y<|CU λh6 l6 lm=>?_;have l06:=N lhx l6;refine Qc call138 Y (JE _ a h6<|A.up l06)<|λw h8 ms8 l8 hF=>?_;obtain⟨L,rfl,C⟩:=hF;obtain⟨l',CL,Q,_,_⟩:=C;have ow:=Q.rd.rd.one;refine E (BI Y Y Y) Y<|E (As Y call120 Y<|Md l' w 139 [.pt S] (λp=>!Ix (l.map Ce.c) b p.1) h8 Q.rd (by have:=Q.len;omega) (λxs w=>call139 xs w) (λs hs e=>by have:=AhE S gS m _ bs h8 (t _ (N M (N l6 L)) _) O (N lm L) s (Q.ids s hs) e;rw[Af9]at this;exact this) _) Y ?_;refine G Y<|J Y<|Aj<|Ar Y Y<|bh Value.bool<|Sn CL
def A8(o:List Cl):List (Int×(Int×Int)):=o.flatMap λx=>x.sd.map λs=>(x.id,s)
theorem LF(o:List Cl)(x:Cl):A8 (o++[x])=A8 o++x.sd.map λs=>(x.id,s):=by unfold A8;rw[fe];simp
theorem AdQ{o:List Cl}{i j:Nat}(c:i<o.length)(a:j<(o[i]).sd.length):(A8 o)[(A8 (o.take i)).length+j]?=some ((o[i]).id,(o[i]).sd[j]):=by
 have b:A8 o=A8 (o.take i)++A8 (o.drop i):=by unfold A8;rw[<-List.flatMap_append,List.take_append_drop]
 rw[b,kc Z,Nat.add_sub_cancel_left,fw c];show((o[i].sd.map λs=>(o[i].id,s))++A8 (o.drop (i+1)))[j]?=_;rw[fc (by simpa using a)];simp[a]
def NZ(o:List Cl)(k:Nat):List Value:=[.int .i64 ((A8 o).getD k default).1,.agg (cD ((A8 o).getD k default).2).toArray]
theorem Qd(g:Nat)(v:Value)(l:List Ce)(h:Hp)(hG:Cell h [] ((⟨g,0,none⟩:Addr).add 0) v)(f:RdC h v l)(hn:l.length<=1000)(hsn:∀x∈l,x.c.sd.length<=1000):Itr prog 174 [.pointer (some ⟨g,0,none⟩)] h (A8 (l.map Ce.c)).length (NZ (l.map Ce.c)):=by
 intro lp X u a hl hY h0;show FnT _ _ #[.func (.yield lp) #[] #[],.pt g] _ _ _;obtain⟨o,ho⟩:∃o,l.map Ce.c=o:=⟨_,Y⟩
 rw[ho]at hY ⊢;obtain⟨n,O⟩:∃n,l.length=n:=⟨_,Y⟩
 have hon:o.length=n:=by rw[<-ho,bb,O]
 have hG:=hG.le hl;have f:=f.up hl;have ov:=f.q.rd.one;have c0:∀a,Cell u a ((⟨g,0,none⟩:Addr).add 0) v:=λa=>hG.any;have rV:∀d,u.le d->Rd d [] v 3 n (l.flatMap cC):=λd q=>by have:=(f.q.up q).rd;rwa [O]at this
 refine Au func174 ntmps174 Y Y<|λ_ _=>Ac<|BH<|BV (oF Cy Y) Y Y Y<|BV (oL Y B8<|c0 _) Y Y Y<|BV (Aw (rV _<|Bk).any Y B8 Y) Y Y Y<|BV (Ap Y Y) Y Y Y<|C4<|Ab<|Ag ?_
 refine AC (λq s m b=>∃(i:Nat),q=n-i/\s=[(0,.func (.yield lp) #[] #[]),(8,v),(9,.w n),(10,.w i)]/\u.le m/\i<=n/\X (A8 (o.take i)).length m b)
  (n-0) _ ⟨0,rfl,rfl,Bk,Z,h0⟩ Qs ?_
 rintro q s m b ⟨i,rfl,rfl,R,hi,k⟩;refine Ac<|BH<|BV (Dw Y Y Y) Y Y Y<|C4<|Ab<|Ac<|Ay Y (λhlt=>?_)<|λhlt=>?_
 .have hin:i<n:=Z
  have B:i<l.length:=Z
  have K:i<o.length:=Z
  obtain⟨x,hx⟩:∃x,l[i]=x:=⟨_,Y⟩
  have e:o[i]=x.c:=by subst ho;rw[fd,hx]
  have P:x∈l:=hx ▸ aq B;have S:=(f.s x P).up R;have ox:=S.rd.one;obtain⟨p,hp⟩:∃p,x.c.sd.length=p:=⟨_,Y⟩
  have hpn:p<=1000:=hp ▸ hsn x P;have rS:∀d,m.le d->Rd d [] x.v 2 p (x.c.sd.flatMap cD):=λd q=>by have:=(S.up q).rd;rwa [hp]at this
  have gE:∀a,Seg m a ((AJ v).add (i*3)) (cC x):=λa=>by rw[<-hx];exact((f.q.up R).any (ms:=a)).seg B
  have T:(A8 (o.take (i+1))).length=(A8 (o.take i)).length+p:=by rw[ap K,e,LF,ag,bb,hp]
  have etn:(A8 (o.take (i+1))).length<=(A8 o).length:=by
   have u:A8 o=A8 (o.take (i+1))++A8 (o.drop (i+1)):=by unfold A8;rw[<-List.flatMap_append,List.take_append_drop]
   rw[u,ag];omega
  refine I<|Ac<|Ag<|U<|E (AR (i) (rV _ R).any Y B8 A9 Y Y Z Z) Y<|E (oG Y Kr A9<|gE _) Y<|BJ [.w 0,.w 0,.nl] Y A9 Y Y<|λt=>?_;refine Sa 0 [_,_,_] A9 Y (by simp[ov,ox]) ?_;refine Ao<|Ac<|BH<|BV (oF BZ Y) Y Y Y<|BV (oL Y Di<|Cell.blk 0 Y Y) Y Y Y<|BV (Aw (rS _<|Bk).any Y Di Y) Y Y Y<|BV (Ap Y Y) Y Y Y<|C4<|Ab<|Ag ?_
  refine AC (λq s z b=>∃(j:Nat) (c:List Hp),q=p-j/\s=[(0,.func (.yield lp) #[] #[]),(4,.pt t),(8,v),(9,.w n),(10,.w i),(15,x.v),(16,.w p),(17,.w j)]/\m.le z/\j<=p/\b=BE t 50 (cC x)::c/\X ((A8 (o.take i)).length+j) z c)
   (p-0) _ ⟨0,_,rfl,rfl,Bk,Z,rfl,k⟩ Qs ?_
  rintro q s z b ⟨j,c,rfl,rfl,Q,hj,rfl,k⟩;refine Ac<|BH<|BV (Dw Y Y Y) Y Y Y<|C4<|Ab<|Ac<|Ay Y (λM=>?_)<|λM=>?_
  .have hjp:j<p:=Z
   have L:j<x.c.sd.length:=Z
   obtain⟨y,hy⟩:∃y,x.c.sd[j]=y:=⟨_,Y⟩
   have gS:∀a,Seg z a ((AJ x.v).add (j*2)) (cD y):=λa=>by rw[<-hy];exact((S.up Q).any (ms:=a)).seg L
   have hkN:(A8 (o.take i)).length+j<(A8 o).length:=Z
   have A:=hY _ z c hkN (N R Q) k;have hjo:j<(o[i]).sd.length:=by rw[e];exact L
   have heq:(A8 o).getD ((A8 (o.take i)).length+j) default=(x.c.id,y):=by have:=AdQ K hjo;simp only[List.getD,this,Option.getD_some];subst hy;simp only[e]
   rw[show NZ o ((A8 (o.take i)).length+j)=[.w x.c.id,.agg (cD y).toArray] by unfold NZ;rw[heq]]at A;refine I<|Ac<|Ag<|U<|E (AR (j) (rS _ Q).any Y Di B5 Y Y Z Z) Y<|E (oG Y To B5<|gS _) Y<|BJ [.w 0,.w 0] Y B5 Y Y<|λg6=>?_;refine Sa 0 [_,_] B5 Y (by simp[Value.oneCell']) ?_;refine Ao<|Ac<|BH<|BV (Ap Y Y) Y Y Y<|BV (oF B7 Y) Y Y Y<|BV (oL Y U3<|Cell.blk 1 Y Y) Y Y Y<|BV (oG Y To B5<|Seg.blk 0 Y) Y Y Y<|SO<|PL (pre:=c) (fr:=[BE t 50 (cC x)]) (db (l₁:=[BE t 50 (cC x)])) Y Y Y A Y Y Y<|λr h3 ms2 l3 hr=>?_;obtain⟨rfl,hX2⟩:=hr;refine BV (Dg Y Y) Y Y Y<|C4<|Ab<|AM Y<|Ah<|D2<|BH<|BV (oA Y) Y Y Y<|BV (Ap Y Y) Y Y Y<|C4<|Jf (db (l₂:=[BE t 50 (cC x)])) ?_;exact Aq (p-(j+1)) _ Z ⟨j+1,ms2,Y,Y,N Q l3,Z,Y,by rw[<-Nat.add_assoc];exact hX2⟩ Qs
  .obtain rfl:j=p:=Z
   rw[<-T]at k;refine C<|D2<|BH<|BV (oA Y) Y Y Y<|BV (Ap Y Y) Y Y Y<|C4<|AU<|Aq (n-(i+1)) _ Z ⟨i+1,Y,Y,N R Q,Z,k⟩ Qs
 .obtain rfl:i=n:=Z
  refine C ?_;exact CC Y (by rw[<-bm (l:=o) (i:=i) Z];exact k)
end
end Go.Proofs.Q