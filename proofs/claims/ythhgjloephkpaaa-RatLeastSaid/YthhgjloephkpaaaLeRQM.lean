/- Words and walks for the row RowRatLeast, put together: RQM. -/
import Derived.Test.YthhgjloephkpaaaLe18
import Derived.Test.YthhgjloephkpaaaLe6
import Derived.Test.YthhgjloephkpaaaLe19
namespace Go.Proofs.Ythhgjloephkpaaa
set_option linter.unusedVariables false
set_option linter.unusedSimpArgs false
open Go Go.RowKit Go.Proofs.YthhgjloephkpaaaW.PrintWords Go.Proofs.YthhgjloephkpaaaW.PrintLast
set_option maxRecDepth 100000 in
set_option maxHeartbeats 8000000 in
theorem qc_main {ad bd:Addr} {n n1 k c d x y kk k2 nk M yt s:Nat} {w:World} (hx:Wds w (some ad) n c (dg x)) (hy:Wds w (some bd) k d (dg y)) (hk:2≤k) (hkn:k≤n) (hnm:n≤1000000000) (hkk:kk+1=k) (ag:k2+2=k) (ah:n1=n+1) (hnk:nk+k=n) (hM:M=nk+1) (hxl:(dg x).length=n) (hyl:(dg y).length=k) (ai:s≤31) (aj:min s 32=s) (al:min (32 - s) 32=32 - s) {vl:List Nat} (hvlen:vl.length=k) (hvD:Dig vl) (hYl:BW ^ (k - 1) * 2 ^ 31≤val vl) (hYBv:val vl<BW ^ k) {ul:List Nat} (hulen:ul.length=n1) (huD:Dig ul) (huv:val ul=x * 2 ^ s) {L D C:Nat} {g f:List Value} {aw:World} (aK:St w aw [⟨L,wc (List.replicate M 0),100⟩,⟨D,wc (vl),100⟩,⟨C,wc (ul),100⟩]) {Q:Exit→Act→World→Prop} (hQp:∀ c (a:Act) d v w,Q (.panic c) (a.put d v) w→Q (.panic c) a w) :
  (pR (pL (pR (pR (pR (pR (pR (pR (pR (pR (pR (pR (pF Try.f117))))))))))))).wp Try.prog (Exit.then (fun aa_ w'=>∃ (ls:List Nat) (outs:List Nat) (l:List Value),aa_=⟨#[E (some ad) n c,E (some bd) k d,O,O,E none 0 0,E none 0 0,O,O,O,O,J ((s:Nat):Int),E (some ⟨C,0,none⟩) n1 n1,E (some ⟨D,0,none⟩) k k,(GD g 0),(GD f 0),I (k:Int),E (some ⟨L,0,none⟩) M M,(GD l 0),(GD l 1),(GD l 2),(GD l 3),(GD l 4),(GD l 5),(GD l 6),(GD l 7),(GD l 8),(GD l 9),(GD l 10),(GD l 11),(GD l 12),O,O,E (some ad) n c,E (some bd) k d,I (cmpN (x) (y)),T false,O,O,E (some bd) k d,I (k:Int),T false,O,O,O,O,O,O,O,O,O,O,O,O,O,O,O,O,O,O,O,O,O,O,O,O,O,O,O,O,O,O,O,O,O,O,O,O,O,O,E (some bd) k d,E (some bd) k d,I (k:Int),I ((kk:Nat):Int),.pointer (some (bd.add kk)),.int .u32 ((yt:Nat):Int),I ((s:Nat):Int),J ((s:Nat):Int),E (some ad) n c,I (n:Int),I ((n1:Nat):Int),E (some ⟨C,0,none⟩) n1 n1,E (some bd) k d,I (k:Int),E (some ⟨D,0,none⟩) k k,E (some bd) k d,I (k:Int),(GD g 1),(GD g 2),(GD g 3),(GD g 4),(GD g 5),(GD g 6),(GD g 7),(GD g 8),(GD g 9),(GD g 10),(GD g 11),(GD g 12),(GD g 13),(GD g 14),(GD g 15),(GD g 16),(GD g 17),(GD g 18),(GD g 19),(GD g 20),(GD g 21),(GD g 22),(GD g 23),(GD g 24),(GD g 25),(GD g 26),(GD g 27),(GD g 28),(GD g 29),(GD g 30),(GD g 31),(GD g 32),(GD g 33),E (some ⟨C,0,none⟩) n1 n1,I (n1:Int),(GD f 1),(GD f 2),(GD f 3),(GD f 4),(GD f 5),(GD f 6),(GD f 7),(GD f 8),(GD f 9),(GD f 10),(GD f 11),(GD f 12),(GD f 13),(GD f 14),(GD f 15),(GD f 16),(GD f 17),(GD f 18),(GD f 19),(GD f 20),(GD f 21),(GD f 22),(GD f 23),(GD f 24),(GD f 25),(GD f 26),(GD f 27),(GD f 28),(GD f 29),(GD f 30),(GD f 31),(GD f 32),(GD f 33),(GD f 34),(GD f 35),(GD f 36),(GD f 37),E (some ⟨D,0,none⟩) k k,I (k:Int),E (some ad) n c,I (n:Int),I (k:Int),I ((nk:Nat):Int),I ((M:Nat):Int),E (some ⟨L,0,none⟩) M M,E (some ad) n c,I (n:Int),I (k:Int),I (((M:Nat):Int) - 1),(GD l 13),(GD l 14),(GD l 15),(GD l 16),(GD l 17),(GD l 18),(GD l 19),(GD l 20),(GD l 21),(GD l 22),(GD l 23),(GD l 24),(GD l 25),(GD l 26),(GD l 27),(GD l 28),(GD l 29),(GD l 30),(GD l 31),(GD l 32),(GD l 33),(GD l 34),(GD l 35),(GD l 36),(GD l 37),(GD l 38),(GD l 39),(GD l 40),(GD l 41),(GD l 42),(GD l 43),(GD l 44),(GD l 45),(GD l 46),(GD l 47),(GD l 48),(GD l 49),(GD l 50),(GD l 51),(GD l 52),(GD l 53),(GD l 54),(GD l 55),(GD l 56),(GD l 57),(GD l 58),(GD l 59),(GD l 60),(GD l 61),(GD l 62),(GD l 63),(GD l 64),(GD l 65),(GD l 66),(GD l 67),(GD l 68),(GD l 69),(GD l 70),(GD l 71),(GD l 72),(GD l 73),(GD l 74),(GD l 75),(GD l 76),(GD l 77),(GD l 78),(GD l 79),(GD l 80),(GD l 81),(GD l 82),(GD l 83),(GD l 84),(GD l 85),(GD l 86),(GD l 87),(GD l 88),(GD l 89),(GD l 90),(GD l 91),(GD l 92),(GD l 93),(GD l 94),(GD l 95),(GD l 96),(GD l 97),(GD l 98),(GD l 99),(GD l 100),(GD l 101),(GD l 102),(GD l 103),(GD l 104),(GD l 105),(GD l 106),(GD l 107),(GD l 108),(GD l 109),(GD l 110),(GD l 111),(GD l 112),(GD l 113),(GD l 114),(GD l 115),(GD l 116),(GD l 117),(GD l 118),(GD l 119),(GD l 120),(GD l 121),(GD l 122),(GD l 123),(GD l 124),(GD l 125),(GD l 126),(GD l 127),(GD l 128),(GD l 129),(GD l 130),(GD l 131),(GD l 132),(GD l 133),(GD l 134),(GD l 135),(GD l 136),(GD l 137),(GD l 138),(GD l 139),(GD l 140),(GD l 141),(GD l 142),(GD l 143),(GD l 144),(GD l 145),(GD l 146),(GD l 147),(GD l 148),(GD l 149),(GD l 150),(GD l 151),(GD l 152),(GD l 153),(GD l 154),(GD l 155),(GD l 156),(GD l 157),(GD l 158),(GD l 159),(GD l 160),(GD l 161),(GD l 162),(GD l 163),(GD l 164),(GD l 165),(GD l 166),(GD l 167),(GD l 168),(GD l 169),(GD l 170),(GD l 171),(GD l 172),(GD l 173),(GD l 174),(GD l 175),(GD l 176),(GD l 177),(GD l 178),(GD l 179),(GD l 180),(GD l 181),(GD l 182),(GD l 183),(GD l 184),(GD l 185),(GD l 186),(GD l 187),(GD l 188),(GD l 189),(GD l 190),O,O,O,O,O,O,O,O,O,O,O,O,O,O,O,O,O,O,O,O,O,O,O,O,O,O,O,O,O,O,O,O,O,O],[]⟩∧St w w' [⟨L,wc (outs),100⟩,⟨D,wc (vl),100⟩,⟨C,wc (ls),100⟩]∧(Long (x * 2 ^ s) (val vl) k 0 M ls outs)∧True) Q) ⟨#[E (some ad) n c,E (some bd) k d,O,O,E none 0 0,E none 0 0,O,O,O,O,J ((s:Nat):Int),E (some ⟨C,0,none⟩) n1 n1,E (some ⟨D,0,none⟩) k k,(GD g 0),(GD f 0),I (k:Int),E (some ⟨L,0,none⟩) M M,I (((M:Nat):Int) - 1),O,O,O,O,O,O,O,O,O,O,O,O,O,O,E (some ad) n c,E (some bd) k d,I (cmpN (x) (y)),T false,O,O,E (some bd) k d,I (k:Int),T false,O,O,O,O,O,O,O,O,O,O,O,O,O,O,O,O,O,O,O,O,O,O,O,O,O,O,O,O,O,O,O,O,O,O,O,O,O,O,E (some bd) k d,E (some bd) k d,I (k:Int),I ((kk:Nat):Int),.pointer (some (bd.add kk)),.int .u32 ((yt:Nat):Int),I ((s:Nat):Int),J ((s:Nat):Int),E (some ad) n c,I (n:Int),I ((n1:Nat):Int),E (some ⟨C,0,none⟩) n1 n1,E (some bd) k d,I (k:Int),E (some ⟨D,0,none⟩) k k,E (some bd) k d,I (k:Int),(GD g 1),(GD g 2),(GD g 3),(GD g 4),(GD g 5),(GD g 6),(GD g 7),(GD g 8),(GD g 9),(GD g 10),(GD g 11),(GD g 12),(GD g 13),(GD g 14),(GD g 15),(GD g 16),(GD g 17),(GD g 18),(GD g 19),(GD g 20),(GD g 21),(GD g 22),(GD g 23),(GD g 24),(GD g 25),(GD g 26),(GD g 27),(GD g 28),(GD g 29),(GD g 30),(GD g 31),(GD g 32),(GD g 33),E (some ⟨C,0,none⟩) n1 n1,I (n1:Int),(GD f 1),(GD f 2),(GD f 3),(GD f 4),(GD f 5),(GD f 6),(GD f 7),(GD f 8),(GD f 9),(GD f 10),(GD f 11),(GD f 12),(GD f 13),(GD f 14),(GD f 15),(GD f 16),(GD f 17),(GD f 18),(GD f 19),(GD f 20),(GD f 21),(GD f 22),(GD f 23),(GD f 24),(GD f 25),(GD f 26),(GD f 27),(GD f 28),(GD f 29),(GD f 30),(GD f 31),(GD f 32),(GD f 33),(GD f 34),(GD f 35),(GD f 36),(GD f 37),E (some ⟨D,0,none⟩) k k,I (k:Int),E (some ad) n c,I (n:Int),I (k:Int),I ((nk:Nat):Int),I ((M:Nat):Int),E (some ⟨L,0,none⟩) M M,E (some ad) n c,I (n:Int),I (k:Int),I (((M:Nat):Int) - 1),O,O,O,O,O,O,O,O,O,O,O,O,O,O,O,O,O,O,O,O,O,O,O,O,O,O,O,O,O,O,O,O,O,O,O,O,O,O,O,O,O,O,O,O,O,O,O,O,O,O,O,O,O,O,O,O,O,O,O,O,O,O,O,O,O,O,O,O,O,O,O,O,O,O,O,O,O,O,O,O,O,O,O,O,O,O,O,O,O,O,O,O,O,O,O,O,O,O,O,O,O,O,O,O,O,O,O,O,O,O,O,O,O,O,O,O,O,O,O,O,O,O,O,O,O,O,O,O,O,O,O,O,O,O,O,O,O,O,O,O,O,O,O,O,O,O,O,O,O,O,O,O,O,O,O,O,O,O,O,O,O,O,O,O,O,O,O,O,O,O,O,O,O,O,O,O,O,O,O,O,O,O,O,O,O,O,O,O,O,O,O,O,O,O,O,O,O,O,O,O,O,O,O,O,O,O,O,O,O,O,O,O],[]⟩ aw:=by
 show (Code.block 6 _).wp _ _ _ _
 refine wp_block ?_
 refine wp_loop_g (fun mm aa_ w'=>∃ (t:Nat) (ls:List Nat) (outs:List Nat) (e:List Value),aa_=⟨#[E (some ad) n c,E (some bd) k d,O,O,E none 0 0,E none 0 0,O,O,O,O,J ((s:Nat):Int),E (some ⟨C,0,none⟩) n1 n1,E (some ⟨D,0,none⟩) k k,(GD g 0),(GD f 0),I (k:Int),E (some ⟨L,0,none⟩) M M,I (((t:Nat):Int) - 1),(GD e 0),(GD e 1),(GD e 2),(GD e 3),(GD e 4),(GD e 5),(GD e 6),(GD e 7),(GD e 8),(GD e 9),(GD e 10),(GD e 11),O,O,E (some ad) n c,E (some bd) k d,I (cmpN (x) (y)),T false,O,O,E (some bd) k d,I (k:Int),T false,O,O,O,O,O,O,O,O,O,O,O,O,O,O,O,O,O,O,O,O,O,O,O,O,O,O,O,O,O,O,O,O,O,O,O,O,O,O,E (some bd) k d,E (some bd) k d,I (k:Int),I ((kk:Nat):Int),.pointer (some (bd.add kk)),.int .u32 ((yt:Nat):Int),I ((s:Nat):Int),J ((s:Nat):Int),E (some ad) n c,I (n:Int),I ((n1:Nat):Int),E (some ⟨C,0,none⟩) n1 n1,E (some bd) k d,I (k:Int),E (some ⟨D,0,none⟩) k k,E (some bd) k d,I (k:Int),(GD g 1),(GD g 2),(GD g 3),(GD g 4),(GD g 5),(GD g 6),(GD g 7),(GD g 8),(GD g 9),(GD g 10),(GD g 11),(GD g 12),(GD g 13),(GD g 14),(GD g 15),(GD g 16),(GD g 17),(GD g 18),(GD g 19),(GD g 20),(GD g 21),(GD g 22),(GD g 23),(GD g 24),(GD g 25),(GD g 26),(GD g 27),(GD g 28),(GD g 29),(GD g 30),(GD g 31),(GD g 32),(GD g 33),E (some ⟨C,0,none⟩) n1 n1,I (n1:Int),(GD f 1),(GD f 2),(GD f 3),(GD f 4),(GD f 5),(GD f 6),(GD f 7),(GD f 8),(GD f 9),(GD f 10),(GD f 11),(GD f 12),(GD f 13),(GD f 14),(GD f 15),(GD f 16),(GD f 17),(GD f 18),(GD f 19),(GD f 20),(GD f 21),(GD f 22),(GD f 23),(GD f 24),(GD f 25),(GD f 26),(GD f 27),(GD f 28),(GD f 29),(GD f 30),(GD f 31),(GD f 32),(GD f 33),(GD f 34),(GD f 35),(GD f 36),(GD f 37),E (some ⟨D,0,none⟩) k k,I (k:Int),E (some ad) n c,I (n:Int),I (k:Int),I ((nk:Nat):Int),I ((M:Nat):Int),E (some ⟨L,0,none⟩) M M,E (some ad) n c,I (n:Int),I (k:Int),I (((M:Nat):Int) - 1),(GD e 12),(GD e 13),(GD e 14),(GD e 15),(GD e 16),(GD e 17),(GD e 18),(GD e 19),(GD e 20),(GD e 21),(GD e 22),(GD e 23),(GD e 24),(GD e 25),(GD e 26),(GD e 27),(GD e 28),(GD e 29),(GD e 30),(GD e 31),(GD e 32),(GD e 33),(GD e 34),(GD e 35),(GD e 36),(GD e 37),(GD e 38),(GD e 39),(GD e 40),(GD e 41),(GD e 42),(GD e 43),(GD e 44),(GD e 45),(GD e 46),(GD e 47),(GD e 48),(GD e 49),(GD e 50),(GD e 51),(GD e 52),(GD e 53),(GD e 54),(GD e 55),(GD e 56),(GD e 57),(GD e 58),(GD e 59),(GD e 60),(GD e 61),(GD e 62),(GD e 63),(GD e 64),(GD e 65),(GD e 66),(GD e 67),(GD e 68),(GD e 69),(GD e 70),(GD e 71),(GD e 72),(GD e 73),(GD e 74),(GD e 75),(GD e 76),(GD e 77),(GD e 78),(GD e 79),(GD e 80),(GD e 81),(GD e 82),(GD e 83),(GD e 84),(GD e 85),(GD e 86),(GD e 87),(GD e 88),(GD e 89),(GD e 90),(GD e 91),(GD e 92),(GD e 93),(GD e 94),(GD e 95),(GD e 96),(GD e 97),(GD e 98),(GD e 99),(GD e 100),(GD e 101),(GD e 102),(GD e 103),(GD e 104),(GD e 105),(GD e 106),(GD e 107),(GD e 108),(GD e 109),(GD e 110),(GD e 111),(GD e 112),(GD e 113),(GD e 114),(GD e 115),(GD e 116),(GD e 117),(GD e 118),(GD e 119),(GD e 120),(GD e 121),(GD e 122),(GD e 123),(GD e 124),(GD e 125),(GD e 126),(GD e 127),(GD e 128),(GD e 129),(GD e 130),(GD e 131),(GD e 132),(GD e 133),(GD e 134),(GD e 135),(GD e 136),(GD e 137),(GD e 138),(GD e 139),(GD e 140),(GD e 141),(GD e 142),(GD e 143),(GD e 144),(GD e 145),(GD e 146),(GD e 147),(GD e 148),(GD e 149),(GD e 150),(GD e 151),(GD e 152),(GD e 153),(GD e 154),(GD e 155),(GD e 156),(GD e 157),(GD e 158),(GD e 159),(GD e 160),(GD e 161),(GD e 162),(GD e 163),(GD e 164),(GD e 165),(GD e 166),(GD e 167),(GD e 168),(GD e 169),(GD e 170),(GD e 171),(GD e 172),(GD e 173),(GD e 174),(GD e 175),(GD e 176),(GD e 177),(GD e 178),(GD e 179),(GD e 180),(GD e 181),(GD e 182),(GD e 183),(GD e 184),(GD e 185),(GD e 186),(GD e 187),(GD e 188),(GD e 189),O,O,O,O,O,O,O,O,O,O,O,O,O,O,O,O,O,O,O,O,O,O,O,O,O,O,O,O,O,O,O,O,O,O],[]⟩∧St w w' [⟨L,wc (outs),100⟩,⟨D,wc (vl),100⟩,⟨C,wc (ls),100⟩]∧(Long (x * 2 ^ s) (val vl) k t M ls outs)∧t=mm) (M) ⟨M,ul,List.replicate M 0,[O,O,O,O,O,O,O,O,O,O,O,O,O,O,O,O,O,O,O,O,O,O,O,O,O,O,O,O,O,O,O,O,O,O,O,O,O,O,O,O,O,O,O,O,O,O,O,O,O,O,O,O,O,O,O,O,O,O,O,O,O,O,O,O,O,O,O,O,O,O,O,O,O,O,O,O,O,O,O,O,O,O,O,O,O,O,O,O,O,O,O,O,O,O,O,O,O,O,O,O,O,O,O,O,O,O,O,O,O,O,O,O,O,O,O,O,O,O,O,O,O,O,O,O,O,O,O,O,O,O,O,O,O,O,O,O,O,O,O,O,O,O,O,O,O,O,O,O,O,O,O,O,O,O,O,O,O,O,O,O,O,O,O,O,O,O,O,O,O,O,O,O,O,O,O,O,O,O,O,O,O,O,O,O,O,O,O,O,O,O],rfl,aK,Long.start (A:=x) (s:=s) (n:=n) (B:=0) (by omega) huD huv rfl (by rw [← hxl]; exact dg_lt x) (by omega) (by omega) (by omega) (by omega) hYl,rfl⟩ ?_
 rintro _ _ a3 ⟨t,ls,outs,e,rfl,ax,hL,rfl⟩
 refine wp_seq_k fun a4 aL=>?_
 refine wp_seq_k fun a5 ay=>?_
 refine wp_region_lit ?_
 refine PV (I (((t:Nat):Int) - 1)) rfl rfl ?_
 simp only [PA]
 by_cases az:(0:Int)≤(((t:Nat):Int) - 1)
 ·skip
  refine PV (T true) (CT (run_bin (I (((t:Nat):Int) - 1)) (I 0) _ rfl rfl rfl (bin_geq_3 _ _ _ _)) (congrArg Value.bool (decide_eq_true az))) rfl ?_
  simp only [PA]
  refine wpList_nil ?_
  refine ay _ _ ?_
  refine cond_true rfl ?_
  refine wp_skip ?_
  refine aL _ _ ?_
  refine wp_seq_k fun a6 aM=>?_
  refine wp_block ?_
  refine wp_seq_k fun a7 aN=>?_
  obtain ⟨t1,aP⟩:∃ z,t=z+1:=⟨t - 1,by omega⟩
  subst aP
  have hout:=hL.olen
  have htM:=hL.tM
  obtain ⟨pre,wl,post,rfl,rfl,hwl,hwD,hwlt,hLS⟩:=hL.win hYBv
  obtain ⟨F,X⟩:∃ z:Nat,wl.getD k 0=z:=⟨_,rfl⟩
  obtain ⟨N,am⟩:∃ z:Nat,wl.getD kk 0=z:=⟨_,rfl⟩
  obtain ⟨a2,aa⟩:∃ z:Nat,wl.getD k2 0=z:=⟨_,rfl⟩
  obtain ⟨H,S⟩:∃ z:Nat,vl.getD kk 0=z:=⟨_,rfl⟩
  obtain ⟨v2,ac⟩:∃ z:Nat,vl.getD k2 0=z:=⟨_,rfl⟩
  have V:F<BW:=X▸hwD.at_ k
  have aD:N<BW:=am▸hwD.at_ kk
  have an:a2<BW:=aa▸hwD.at_ k2
  have ae:H<BW:=S▸hvD.at_ kk
  have ao:v2<BW:=ac▸hvD.at_ k2
  have ap:2147483648≤H:=top_big hvD hvlen hkk hYl S
  obtain ⟨P,G⟩:∃ P,Guess (val wl) (val vl) (F * BW+N) H v2 a2 P:=⟨_,by have G:=guess_of hwl hvlen hk hwD hvD (by rw [show k - 1=kk by omega,S]; omega) hwlt; rw [show k - 1=kk by omega,show k - 2=k2 by omega,X,am,aa,S,ac] at G; exact G⟩
  refine region_drawnP 18 (fun j=>decide (18≤j)) (by kernel_rfl) rfl ax fun a9 aq ba=>?_
  refine anyT_here (i:=0) (E (some ⟨C,0,none⟩) n1 n1) rfl (by kernel_rfl) (by kernel_rfl) (by kernel_rfl) (by kernel_rfl) (fun _ _ _ h=>hQp _ _ _ _ _ h) rfl rfl ?_
  simp only [PA]
  refine anyT_here (i:=1) (I ((pre.length:Nat):Int)) rfl (by kernel_rfl) (by kernel_rfl) (by kernel_rfl) (by kernel_rfl) (fun _ _ _ h=>hQp _ _ _ _ _ h) rfl (CT rfl (vint (by omega))) ?_
  simp only [PA]
  refine anyT_here (i:=2) (I (k:Int)) rfl (by kernel_rfl) (by kernel_rfl) (by kernel_rfl) (by kernel_rfl) (fun _ _ _ h=>hQp _ _ _ _ _ h) rfl rfl ?_
  simp only [PA]
  refine anyT_here (i:=3) (I ((pre.length+k:Nat):Int)) rfl (by kernel_rfl) (by kernel_rfl) (by kernel_rfl) (by kernel_rfl) (fun _ _ _ h=>hQp _ _ _ _ _ h) rfl (CT (run_bin (I ((pre.length:Nat):Int)) (I (k:Int)) _ rfl rfl rfl (bin_add_3 _ _ _ _)) (vint (by rw [IntKind.wrap_i64]; omega))) ?_
  simp only [PA]
  refine anyT_here (i:=4) (.pointer (some ⟨C,(pre.length+k),none⟩)) rfl (by kernel_rfl) (by kernel_rfl) (by kernel_rfl) (by kernel_rfl) (fun _ _ _ h=>hQp _ _ _ _ _ h) rfl (run_idxB rfl rfl rfl (by omega)) ?_
  simp only [PA]
  refine anyT_here (i:=5) (.int .u32 ((F:Nat):Int)) rfl (by kernel_rfl) (by kernel_rfl) (by kernel_rfl) (by kernel_rfl) (fun _ _ _ h=>hQp _ _ _ _ _ h) rfl (CT (run_loadWin rfl rfl (aq.at_ _ (MI (i:=2) rfl)) (by first | omega)) (vnat X)) ?_
  simp only [PA]
  refine anyT_here (i:=6) (J ((F:Nat):Int)) rfl (by kernel_rfl) (by kernel_rfl) (by kernel_rfl) (by kernel_rfl) (fun _ _ _ h=>hQp _ _ _ _ _ h) rfl (run_cv _ rfl rfl rfl rfl (wrap_u64 (by have:=V; rw [BW_eq] at this; omega))) ?_
  simp only [PA]
  obtain ⟨ab,hab⟩:∃ z:Nat,F * BW=z:=⟨_,rfl⟩
  refine anyT_here (i:=7) (J ((ab:Nat):Int)) rfl (by kernel_rfl) (by kernel_rfl) (by kernel_rfl) (by kernel_rfl) (fun _ _ _ h=>hQp _ _ _ _ _ h) rfl (CT (run_bin (J ((F:Nat):Int)) (J 32) _ rfl rfl rfl (bin_shl_104_u64 _ _ _ _)) ((vint (w_shl32 (a:=F) V)).trans (vnat hab))) ?_
  simp only [PA]
  refine anyT_here (i:=8) (E (some ⟨C,0,none⟩) n1 n1) rfl (by kernel_rfl) (by kernel_rfl) (by kernel_rfl) (by kernel_rfl) (fun _ _ _ h=>hQp _ _ _ _ _ h) rfl rfl ?_
  simp only [PA]
  refine anyT_here (i:=9) (I ((pre.length:Nat):Int)) rfl (by kernel_rfl) (by kernel_rfl) (by kernel_rfl) (by kernel_rfl) (fun _ _ _ h=>hQp _ _ _ _ _ h) rfl (CT rfl (vint (by omega))) ?_
  simp only [PA]
  refine anyT_here (i:=10) (I (k:Int)) rfl (by kernel_rfl) (by kernel_rfl) (by kernel_rfl) (by kernel_rfl) (fun _ _ _ h=>hQp _ _ _ _ _ h) rfl rfl ?_
  simp only [PA]
  refine anyT_here (i:=11) (I ((pre.length+k:Nat):Int)) rfl (by kernel_rfl) (by kernel_rfl) (by kernel_rfl) (by kernel_rfl) (fun _ _ _ h=>hQp _ _ _ _ _ h) rfl (CT (run_bin (I ((pre.length:Nat):Int)) (I (k:Int)) _ rfl rfl rfl (bin_add_3 _ _ _ _)) (vint (by rw [IntKind.wrap_i64]; omega))) ?_
  simp only [PA]
  refine anyT_here (i:=12) (I ((pre.length+kk:Nat):Int)) rfl (by kernel_rfl) (by kernel_rfl) (by kernel_rfl) (by kernel_rfl) (fun _ _ _ h=>hQp _ _ _ _ _ h) rfl (CT (run_bin (I ((pre.length+k:Nat):Int)) (I 1) _ rfl rfl rfl (bin_sub_3 _ _ _ _)) (vint (by rw [IntKind.wrap_i64]; omega))) ?_
  simp only [PA]
  refine anyT_here (i:=13) (.pointer (some ⟨C,(pre.length+kk),none⟩)) rfl (by kernel_rfl) (by kernel_rfl) (by kernel_rfl) (by kernel_rfl) (fun _ _ _ h=>hQp _ _ _ _ _ h) rfl (run_idxB rfl rfl rfl (by omega)) ?_
  simp only [PA]
  refine anyT_here (i:=14) (.int .u32 ((N:Nat):Int)) rfl (by kernel_rfl) (by kernel_rfl) (by kernel_rfl) (by kernel_rfl) (fun _ _ _ h=>hQp _ _ _ _ _ h) rfl (CT (run_loadWin rfl rfl (aq.at_ _ (MI (i:=2) rfl)) (by first | omega)) (vnat am)) ?_
  simp only [PA]
  refine anyT_here (i:=15) (J ((N:Nat):Int)) rfl (by kernel_rfl) (by kernel_rfl) (by kernel_rfl) (by kernel_rfl) (fun _ _ _ h=>hQp _ _ _ _ _ h) rfl (run_cv _ rfl rfl rfl rfl (wrap_u64 (by have:=aD; rw [BW_eq] at this; omega))) ?_
  simp only [PA]
  obtain ⟨hd,hhd⟩:∃ z:Nat,ab+N=z:=⟨_,rfl⟩
  rw [hab,hhd] at G
  have hHD:hd<18446744073709551616:=by rw [BW_eq] at *; omega
  refine anyT_here (i:=16) (J ((hd:Nat):Int)) rfl (by kernel_rfl) (by kernel_rfl) (by kernel_rfl) (by kernel_rfl) (fun _ _ _ h=>hQp _ _ _ _ _ h) rfl (CT (run_bin (J ((ab:Nat):Int)) (J ((N:Nat):Int)) _ rfl rfl rfl (bin_or_104 _ _ _ _)) ((vint (hab▸head_or (a:=F) (b:=N) V aD)).trans (vnat hhd))) ?_
  simp only [PA]
  refine anyT_here (i:=17) (J ((hd:Nat):Int)) rfl (by kernel_rfl) (by kernel_rfl) (by kernel_rfl) (by kernel_rfl) (fun _ _ _ h=>hQp _ _ _ _ _ h) rfl rfl ?_
  simp only [PA]
  refine anyT_done (by kernel_rfl) ?_ _
  refine aN _ _ ?_
  refine wp_seq_k fun bb aQ=>?_
  refine region_drawnP 18 (fun j=>decide (18≤j)) (by kernel_rfl) rfl aq fun aR ar bc=>?_
  refine anyT_here (i:=0) (J ((hd:Nat):Int)) rfl (by kernel_rfl) (by kernel_rfl) (by kernel_rfl) (by kernel_rfl) (fun _ _ _ h=>hQp _ _ _ _ _ h) rfl rfl ?_
  simp only [PA]
  refine anyT_here (i:=1) (E (some ⟨D,0,none⟩) k k) rfl (by kernel_rfl) (by kernel_rfl) (by kernel_rfl) (by kernel_rfl) (fun _ _ _ h=>hQp _ _ _ _ _ h) rfl rfl ?_
  simp only [PA]
  refine anyT_here (i:=2) (I (k:Int)) rfl (by kernel_rfl) (by kernel_rfl) (by kernel_rfl) (by kernel_rfl) (fun _ _ _ h=>hQp _ _ _ _ _ h) rfl rfl ?_
  simp only [PA]
  refine anyT_here (i:=3) (I ((kk:Nat):Int)) rfl (by kernel_rfl) (by kernel_rfl) (by kernel_rfl) (by kernel_rfl) (fun _ _ _ h=>hQp _ _ _ _ _ h) rfl (CT (run_bin (I (k:Int)) (I 1) _ rfl rfl rfl (bin_sub_3 _ _ _ _)) (vint (by rw [IntKind.wrap_i64]; omega))) ?_
  simp only [PA]
  refine anyT_here (i:=4) (.pointer (some ⟨D,kk,none⟩)) rfl (by kernel_rfl) (by kernel_rfl) (by kernel_rfl) (by kernel_rfl) (fun _ _ _ h=>hQp _ _ _ _ _ h) rfl (run_idxB rfl rfl rfl (by omega)) ?_
  simp only [PA]
  refine anyT_here (i:=5) (.int .u32 ((H:Nat):Int)) rfl (by kernel_rfl) (by kernel_rfl) (by kernel_rfl) (by kernel_rfl) (fun _ _ _ h=>hQp _ _ _ _ _ h) rfl (CT (run_loadB rfl rfl (ar.at_ _ (MI (i:=1) rfl)) (by first | omega | (have:=hV.1; omega))) (vnat S)) ?_
  simp only [PA]
  refine anyT_here (i:=6) (J ((H:Nat):Int)) rfl (by kernel_rfl) (by kernel_rfl) (by kernel_rfl) (by kernel_rfl) (fun _ _ _ h=>hQp _ _ _ _ _ h) rfl (run_cv _ rfl rfl rfl rfl (wrap_u64 (by have:=ae; rw [BW_eq] at this; omega))) ?_
  simp only [PA]
  obtain ⟨Y,au⟩:∃ z:Nat,hd / H=z:=⟨_,rfl⟩
  refine anyT_here (i:=7) (J ((Y:Nat):Int)) rfl (by kernel_rfl) (by kernel_rfl) (by kernel_rfl) (by kernel_rfl) (fun _ _ _ h=>hQp _ _ _ _ _ h) rfl (CT (run_bin (J ((hd:Nat):Int)) (J ((H:Nat):Int)) _ rfl rfl rfl (bin_quo_104 _ _ _ _ (by omega))) ((vint (w_quo (m:=hd) (n:=H) hHD)).trans (vnat au))) ?_
  simp only [PA]
  refine anyT_here (i:=8) (J ((hd:Nat):Int)) rfl (by kernel_rfl) (by kernel_rfl) (by kernel_rfl) (by kernel_rfl) (fun _ _ _ h=>hQp _ _ _ _ _ h) rfl rfl ?_
  simp only [PA]
  refine anyT_here (i:=9) (E (some ⟨D,0,none⟩) k k) rfl (by kernel_rfl) (by kernel_rfl) (by kernel_rfl) (by kernel_rfl) (fun _ _ _ h=>hQp _ _ _ _ _ h) rfl rfl ?_
  simp only [PA]
  refine anyT_here (i:=10) (I (k:Int)) rfl (by kernel_rfl) (by kernel_rfl) (by kernel_rfl) (by kernel_rfl) (fun _ _ _ h=>hQp _ _ _ _ _ h) rfl rfl ?_
  simp only [PA]
  refine anyT_here (i:=11) (I ((kk:Nat):Int)) rfl (by kernel_rfl) (by kernel_rfl) (by kernel_rfl) (by kernel_rfl) (fun _ _ _ h=>hQp _ _ _ _ _ h) rfl (CT (run_bin (I (k:Int)) (I 1) _ rfl rfl rfl (bin_sub_3 _ _ _ _)) (vint (by rw [IntKind.wrap_i64]; omega))) ?_
  simp only [PA]
  refine anyT_here (i:=12) (.pointer (some ⟨D,kk,none⟩)) rfl (by kernel_rfl) (by kernel_rfl) (by kernel_rfl) (by kernel_rfl) (fun _ _ _ h=>hQp _ _ _ _ _ h) rfl (run_idxB rfl rfl rfl (by omega)) ?_
  simp only [PA]
  refine anyT_here (i:=13) (.int .u32 ((H:Nat):Int)) rfl (by kernel_rfl) (by kernel_rfl) (by kernel_rfl) (by kernel_rfl) (fun _ _ _ h=>hQp _ _ _ _ _ h) rfl (CT (run_loadB rfl rfl (ar.at_ _ (MI (i:=1) rfl)) (by first | omega | (have:=hV.1; omega))) (vnat S)) ?_
  simp only [PA]
  refine anyT_here (i:=14) (J ((H:Nat):Int)) rfl (by kernel_rfl) (by kernel_rfl) (by kernel_rfl) (by kernel_rfl) (fun _ _ _ h=>hQp _ _ _ _ _ h) rfl (run_cv _ rfl rfl rfl rfl (wrap_u64 (by have:=ae; rw [BW_eq] at this; omega))) ?_
  simp only [PA]
  obtain ⟨W,av⟩:∃ z:Nat,hd % H=z:=⟨_,rfl⟩
  have hqr:Y * H+W=hd:=by rw [← au,← av,Nat.mul_comm]; exact Nat.div_add_mod hd H
  have aS:W<H:=av▸Nat.mod_lt _ (by omega)
  refine anyT_here (i:=15) (J ((W:Nat):Int)) rfl (by kernel_rfl) (by kernel_rfl) (by kernel_rfl) (by kernel_rfl) (fun _ _ _ h=>hQp _ _ _ _ _ h) rfl (CT (run_bin (J ((hd:Nat):Int)) (J ((H:Nat):Int)) _ rfl rfl rfl (bin_rem_104 _ _ _ _ (by omega))) ((vint (w_rem (m:=hd) (n:=H))).trans (vnat av))) ?_
  simp only [PA]
  refine anyT_here (i:=16) (J ((Y:Nat):Int)) rfl (by kernel_rfl) (by kernel_rfl) (by kernel_rfl) (by kernel_rfl) (fun _ _ _ h=>hQp _ _ _ _ _ h) rfl rfl ?_
  simp only [PA]
  refine anyT_here (i:=17) (J ((W:Nat):Int)) rfl (by kernel_rfl) (by kernel_rfl) (by kernel_rfl) (by kernel_rfl) (fun _ _ _ h=>hQp _ _ _ _ _ h) rfl rfl ?_
  simp only [PA]
  refine anyT_done (by kernel_rfl) ?_ _
  refine aQ _ _ ?_
  refine wp_seq_k fun be aU=>?_
  refine wp_cut (fun aa_ w'=>∃ (q:Nat) (o:List Value),aa_=⟨#[E (some ad) n c,E (some bd) k d,O,O,E none 0 0,E none 0 0,O,O,O,O,J ((s:Nat):Int),E (some ⟨C,0,none⟩) n1 n1,E (some ⟨D,0,none⟩) k k,(GD g 0),(GD f 0),I (k:Int),E (some ⟨L,0,none⟩) M M,I ((((pre.length+1):Nat):Int) - 1),J ((hd:Nat):Int),J ((q:Nat):Int),(GD o 0),(GD e 3),(GD e 4),(GD e 5),(GD e 6),(GD e 7),(GD e 8),(GD e 9),(GD e 10),(GD e 11),O,O,E (some ad) n c,E (some bd) k d,I (cmpN (x) (y)),T false,O,O,E (some bd) k d,I (k:Int),T false,O,O,O,O,O,O,O,O,O,O,O,O,O,O,O,O,O,O,O,O,O,O,O,O,O,O,O,O,O,O,O,O,O,O,O,O,O,O,E (some bd) k d,E (some bd) k d,I (k:Int),I ((kk:Nat):Int),.pointer (some (bd.add kk)),.int .u32 ((yt:Nat):Int),I ((s:Nat):Int),J ((s:Nat):Int),E (some ad) n c,I (n:Int),I ((n1:Nat):Int),E (some ⟨C,0,none⟩) n1 n1,E (some bd) k d,I (k:Int),E (some ⟨D,0,none⟩) k k,E (some bd) k d,I (k:Int),(GD g 1),(GD g 2),(GD g 3),(GD g 4),(GD g 5),(GD g 6),(GD g 7),(GD g 8),(GD g 9),(GD g 10),(GD g 11),(GD g 12),(GD g 13),(GD g 14),(GD g 15),(GD g 16),(GD g 17),(GD g 18),(GD g 19),(GD g 20),(GD g 21),(GD g 22),(GD g 23),(GD g 24),(GD g 25),(GD g 26),(GD g 27),(GD g 28),(GD g 29),(GD g 30),(GD g 31),(GD g 32),(GD g 33),E (some ⟨C,0,none⟩) n1 n1,I (n1:Int),(GD f 1),(GD f 2),(GD f 3),(GD f 4),(GD f 5),(GD f 6),(GD f 7),(GD f 8),(GD f 9),(GD f 10),(GD f 11),(GD f 12),(GD f 13),(GD f 14),(GD f 15),(GD f 16),(GD f 17),(GD f 18),(GD f 19),(GD f 20),(GD f 21),(GD f 22),(GD f 23),(GD f 24),(GD f 25),(GD f 26),(GD f 27),(GD f 28),(GD f 29),(GD f 30),(GD f 31),(GD f 32),(GD f 33),(GD f 34),(GD f 35),(GD f 36),(GD f 37),E (some ⟨D,0,none⟩) k k,I (k:Int),E (some ad) n c,I (n:Int),I (k:Int),I ((nk:Nat):Int),I ((M:Nat):Int),E (some ⟨L,0,none⟩) M M,E (some ad) n c,I (n:Int),I (k:Int),I (((M:Nat):Int) - 1),I ((((pre.length+1):Nat):Int) - 1),T true,(GD e 14),(GD e 15),E (some ⟨C,0,none⟩) n1 n1,I ((pre.length:Nat):Int),I (k:Int),I ((pre.length+k:Nat):Int),.pointer (some ⟨C,(pre.length+k),none⟩),.int .u32 ((F:Nat):Int),J ((F:Nat):Int),J ((ab:Nat):Int),E (some ⟨C,0,none⟩) n1 n1,I ((pre.length:Nat):Int),I (k:Int),I ((pre.length+k:Nat):Int),I ((pre.length+kk:Nat):Int),.pointer (some ⟨C,(pre.length+kk),none⟩),.int .u32 ((N:Nat):Int),J ((N:Nat):Int),J ((hd:Nat):Int),J ((hd:Nat):Int),E (some ⟨D,0,none⟩) k k,I (k:Int),I ((kk:Nat):Int),.pointer (some ⟨D,kk,none⟩),.int .u32 ((H:Nat):Int),J ((H:Nat):Int),J ((Y:Nat):Int),J ((hd:Nat):Int),E (some ⟨D,0,none⟩) k k,I (k:Int),I ((kk:Nat):Int),.pointer (some ⟨D,kk,none⟩),.int .u32 ((H:Nat):Int),J ((H:Nat):Int),J ((W:Nat):Int),(GD o 1),(GD o 2),(GD o 3),(GD o 4),(GD o 5),(GD o 6),(GD o 7),(GD o 8),(GD o 9),(GD o 10),(GD o 11),(GD o 12),(GD o 13),(GD o 14),(GD o 15),(GD o 16),(GD o 17),(GD o 18),(GD o 19),(GD o 20),(GD o 21),(GD o 22),(GD o 23),(GD o 24),(GD o 25),(GD o 26),(GD o 27),(GD o 28),(GD o 29),(GD o 30),(GD o 31),(GD o 32),(GD o 33),(GD o 34),(GD o 35),(GD o 36),(GD e 85),(GD e 86),(GD e 87),(GD e 88),(GD e 89),(GD e 90),(GD e 91),(GD e 92),(GD e 93),(GD e 94),(GD e 95),(GD e 96),(GD e 97),(GD e 98),(GD e 99),(GD e 100),(GD e 101),(GD e 102),(GD e 103),(GD e 104),(GD e 105),(GD e 106),(GD e 107),(GD e 108),(GD e 109),(GD e 110),(GD e 111),(GD e 112),(GD e 113),(GD e 114),(GD e 115),(GD e 116),(GD e 117),(GD e 118),(GD e 119),(GD e 120),(GD e 121),(GD e 122),(GD e 123),(GD e 124),(GD e 125),(GD e 126),(GD e 127),(GD e 128),(GD e 129),(GD e 130),(GD e 131),(GD e 132),(GD e 133),(GD e 134),(GD e 135),(GD e 136),(GD e 137),(GD e 138),(GD e 139),(GD e 140),(GD e 141),(GD e 142),(GD e 143),(GD e 144),(GD e 145),(GD e 146),(GD e 147),(GD e 148),(GD e 149),(GD e 150),(GD e 151),(GD e 152),(GD e 153),(GD e 154),(GD e 155),(GD e 156),(GD e 157),(GD e 158),(GD e 159),(GD e 160),(GD e 161),(GD e 162),(GD e 163),(GD e 164),(GD e 165),(GD e 166),(GD e 167),(GD e 168),(GD e 169),(GD e 170),(GD e 171),(GD e 172),(GD e 173),(GD e 174),(GD e 175),(GD e 176),(GD e 177),(GD e 178),(GD e 179),(GD e 180),(GD e 181),(GD e 182),(GD e 183),(GD e 184),(GD e 185),(GD e 186),(GD e 187),(GD e 188),(GD e 189),O,O,O,O,O,O,O,O,O,O,O,O,O,O,O,O,O,O,O,O,O,O,O,O,O,O,O,O,O,O,O,O,O,O],[]⟩∧St w w' [⟨L,wc (outs),100⟩,⟨D,wc (vl),100⟩,⟨C,wc (pre++wl++post),100⟩]∧(q<BW∧val wl / val vl≤q∧q≤val wl / val vl+1)∧U aR w') (qc_guess hx hy hk hkn hnm hkk ag ah hnk hM hxl hyl ai aj al hvlen hvD hYl hYBv hwl hwD X aa S ac V an ae ao ap G htM au hqr aS ar (fun _ _ _ _ _ h=>hQp _ _ _ _ _ h)) ?_
  rintro _ bf ⟨q,o,rfl,aV,hq,bg⟩
  refine aU _ _ ?_
  refine wp_seq_k fun bh aW=>?_
  refine wp_region_lit ?_
  refine PV (I 0) rfl rfl ?_
  simp only [PA]
  refine PV (J 0) rfl rfl ?_
  simp only [PA]
  refine wpList_nil ?_
  refine aW _ _ ?_
  refine wp_seq_k fun bi aX=>?_
  refine wp_seq_k fun bj aY=>?_
  refine wp_region_lit ?_
  refine PV (I (k:Int)) rfl rfl ?_
  simp only [PA]
  refine PV (I 0) rfl rfl ?_
  simp only [PA]
  refine wpList_nil ?_
  refine aY _ _ ?_
  refine wp_cut (fun aa_ w'=>∃ (j:Nat) (cy:Nat) (br:Nat) (cur:List Nat) (p:List Value),aa_=⟨#[E (some ad) n c,E (some bd) k d,O,O,E none 0 0,E none 0 0,O,O,O,O,J ((s:Nat):Int),E (some ⟨C,0,none⟩) n1 n1,E (some ⟨D,0,none⟩) k k,(GD g 0),(GD f 0),I (k:Int),E (some ⟨L,0,none⟩) M M,I ((((pre.length+1):Nat):Int) - 1),J ((hd:Nat):Int),J ((q:Nat):Int),(GD o 0),I ((br:Nat):Int),J ((cy:Nat):Int),(GD p 0),(GD p 1),(GD p 2),(GD e 8),(GD e 9),(GD e 10),(GD e 11),O,O,E (some ad) n c,E (some bd) k d,I (cmpN (x) (y)),T false,O,O,E (some bd) k d,I (k:Int),T false,O,O,O,O,O,O,O,O,O,O,O,O,O,O,O,O,O,O,O,O,O,O,O,O,O,O,O,O,O,O,O,O,O,O,O,O,O,O,E (some bd) k d,E (some bd) k d,I (k:Int),I ((kk:Nat):Int),.pointer (some (bd.add kk)),.int .u32 ((yt:Nat):Int),I ((s:Nat):Int),J ((s:Nat):Int),E (some ad) n c,I (n:Int),I ((n1:Nat):Int),E (some ⟨C,0,none⟩) n1 n1,E (some bd) k d,I (k:Int),E (some ⟨D,0,none⟩) k k,E (some bd) k d,I (k:Int),(GD g 1),(GD g 2),(GD g 3),(GD g 4),(GD g 5),(GD g 6),(GD g 7),(GD g 8),(GD g 9),(GD g 10),(GD g 11),(GD g 12),(GD g 13),(GD g 14),(GD g 15),(GD g 16),(GD g 17),(GD g 18),(GD g 19),(GD g 20),(GD g 21),(GD g 22),(GD g 23),(GD g 24),(GD g 25),(GD g 26),(GD g 27),(GD g 28),(GD g 29),(GD g 30),(GD g 31),(GD g 32),(GD g 33),E (some ⟨C,0,none⟩) n1 n1,I (n1:Int),(GD f 1),(GD f 2),(GD f 3),(GD f 4),(GD f 5),(GD f 6),(GD f 7),(GD f 8),(GD f 9),(GD f 10),(GD f 11),(GD f 12),(GD f 13),(GD f 14),(GD f 15),(GD f 16),(GD f 17),(GD f 18),(GD f 19),(GD f 20),(GD f 21),(GD f 22),(GD f 23),(GD f 24),(GD f 25),(GD f 26),(GD f 27),(GD f 28),(GD f 29),(GD f 30),(GD f 31),(GD f 32),(GD f 33),(GD f 34),(GD f 35),(GD f 36),(GD f 37),E (some ⟨D,0,none⟩) k k,I (k:Int),E (some ad) n c,I (n:Int),I (k:Int),I ((nk:Nat):Int),I ((M:Nat):Int),E (some ⟨L,0,none⟩) M M,E (some ad) n c,I (n:Int),I (k:Int),I (((M:Nat):Int) - 1),I ((((pre.length+1):Nat):Int) - 1),T true,(GD e 14),(GD e 15),E (some ⟨C,0,none⟩) n1 n1,I ((pre.length:Nat):Int),I (k:Int),I ((pre.length+k:Nat):Int),.pointer (some ⟨C,(pre.length+k),none⟩),.int .u32 ((F:Nat):Int),J ((F:Nat):Int),J ((ab:Nat):Int),E (some ⟨C,0,none⟩) n1 n1,I ((pre.length:Nat):Int),I (k:Int),I ((pre.length+k:Nat):Int),I ((pre.length+kk:Nat):Int),.pointer (some ⟨C,(pre.length+kk),none⟩),.int .u32 ((N:Nat):Int),J ((N:Nat):Int),J ((hd:Nat):Int),J ((hd:Nat):Int),E (some ⟨D,0,none⟩) k k,I (k:Int),I ((kk:Nat):Int),.pointer (some ⟨D,kk,none⟩),.int .u32 ((H:Nat):Int),J ((H:Nat):Int),J ((Y:Nat):Int),J ((hd:Nat):Int),E (some ⟨D,0,none⟩) k k,I (k:Int),I ((kk:Nat):Int),.pointer (some ⟨D,kk,none⟩),.int .u32 ((H:Nat):Int),J ((H:Nat):Int),J ((W:Nat):Int),(GD o 1),(GD o 2),(GD o 3),(GD o 4),(GD o 5),(GD o 6),(GD o 7),(GD o 8),(GD o 9),(GD o 10),(GD o 11),(GD o 12),(GD o 13),(GD o 14),(GD o 15),(GD o 16),(GD o 17),(GD o 18),(GD o 19),(GD o 20),(GD o 21),(GD o 22),(GD o 23),(GD o 24),(GD o 25),(GD o 26),(GD o 27),(GD o 28),(GD o 29),(GD o 30),(GD o 31),(GD o 32),(GD o 33),(GD o 34),(GD o 35),(GD o 36),I (k:Int),(GD p 3),(GD p 4),(GD p 5),(GD p 6),(GD p 7),(GD p 8),(GD p 9),(GD p 10),(GD p 11),(GD p 12),(GD p 13),(GD p 14),(GD p 15),(GD p 16),(GD p 17),(GD p 18),(GD p 19),(GD p 20),(GD p 21),(GD p 22),(GD p 23),(GD p 24),(GD p 25),(GD p 26),(GD p 27),(GD p 28),(GD p 29),(GD p 30),(GD p 31),(GD p 32),(GD p 33),(GD p 34),(GD p 35),(GD p 36),(GD p 37),(GD p 38),(GD p 39),(GD e 123),(GD e 124),(GD e 125),(GD e 126),(GD e 127),(GD e 128),(GD e 129),(GD e 130),(GD e 131),(GD e 132),(GD e 133),(GD e 134),(GD e 135),(GD e 136),(GD e 137),(GD e 138),(GD e 139),(GD e 140),(GD e 141),(GD e 142),(GD e 143),(GD e 144),(GD e 145),(GD e 146),(GD e 147),(GD e 148),(GD e 149),(GD e 150),(GD e 151),(GD e 152),(GD e 153),(GD e 154),(GD e 155),(GD e 156),(GD e 157),(GD e 158),(GD e 159),(GD e 160),(GD e 161),(GD e 162),(GD e 163),(GD e 164),(GD e 165),(GD e 166),(GD e 167),(GD e 168),(GD e 169),(GD e 170),(GD e 171),(GD e 172),(GD e 173),(GD e 174),(GD e 175),(GD e 176),(GD e 177),(GD e 178),(GD e 179),(GD e 180),(GD e 181),(GD e 182),(GD e 183),(GD e 184),(GD e 185),(GD e 186),(GD e 187),(GD e 188),(GD e 189),O,O,O,O,O,O,O,O,O,O,O,O,O,O,O,O,O,O,O,O,O,O,O,O,O,O,O,O,O,O,O,O,O,O],[]⟩∧St w w' [⟨L,wc (outs),100⟩,⟨D,wc (vl),100⟩,⟨C,wc (pre++cur++post),100⟩]∧(j=k)∧(br≤1)∧(cy<BW)∧(Sub wl vl q j cy br cur)∧True) (qc_sub hx hy hk hkn hnm hkk ag ah hnk hM hxl hyl ai aj al hvlen hvD hYl hYBv hwl hwD X aa S ac V an ae ao ap G htM hq aV (fun _ _ _ _ _ h=>hQp _ _ _ _ _ h)) ?_
  rintro _ bk ⟨j,cy,br,cur,p,rfl,aF,hjk,hbr,hcy,hI,-⟩
  refine aX _ _ ?_
  refine wp_seq_k fun bl aB=>?_
  refine wp_region_lit ?_
  refine PV (E (some ⟨C,0,none⟩) n1 n1) rfl rfl ?_
  simp only [PA]
  refine PV (I ((pre.length:Nat):Int)) (CT rfl (vint (by omega))) rfl ?_
  simp only [PA]
  refine PV (I (k:Int)) rfl rfl ?_
  simp only [PA]
  refine PV (I ((pre.length+k:Nat):Int)) (CT (run_bin (I ((pre.length:Nat):Int)) (I (k:Int)) _ rfl rfl rfl (bin_add_3 _ _ _ _)) (vint (by rw [IntKind.wrap_i64]; omega))) rfl ?_
  simp only [PA]
  refine PV (.pointer (some ⟨C,(pre.length+k),none⟩)) (run_idxB rfl rfl rfl (by omega)) rfl ?_
  simp only [PA]
  refine PV (.int .u32 ((F:Nat):Int)) (CT (run_loadWin rfl rfl (aF.at_ _ (MI (i:=2) rfl)) (by first | omega | (have:=hI.1; omega))) (vnat ((hI.2.2.1 k (by omega)).trans X))) rfl ?_
  simp only [PA]
  refine PV (I ((F:Nat):Int)) (run_cv _ rfl rfl rfl rfl (wrap_i64 (by have:=V; rw [BW_eq] at this; omega))) rfl ?_
  simp only [PA]
  refine PV (I ((br:Nat):Int)) rfl rfl ?_
  simp only [PA]
  refine PV (I (IntKind.i64.wrap ((((F:Nat):Int):Int) - ((br:Nat):Int)))) (run_bin (I ((F:Nat):Int)) (I ((br:Nat):Int)) _ rfl rfl rfl (bin_sub_2 _ _ _ _)) rfl ?_
  simp only [PA]
  refine PV (J ((cy:Nat):Int)) rfl rfl ?_
  simp only [PA]
  refine PV (I ((cy:Nat):Int)) (run_cv _ rfl rfl rfl rfl (wrap_i64 (by have:=hcy; rw [BW_eq] at this; omega))) rfl ?_
  simp only [PA]
  obtain ⟨e2,aG⟩:∃ z:Nat,(F+BW - br - cy) % BW=z:=⟨_,rfl⟩
  have aH:=sdiff V hcy hbr aG
  have hIk:Sub wl vl q k cy br cur:=(show j=k by omega)▸hI
  refine PV (I (((F:Nat):Int) - ((br:Nat):Int) - ((cy:Nat):Int))) (CT (run_bin (I (IntKind.i64.wrap ((((F:Nat):Int):Int) - ((br:Nat):Int)))) (I ((cy:Nat):Int)) _ rfl rfl rfl (bin_sub_2 _ _ _ _)) (vint (take_word2 V hcy hbr))) rfl ?_
  simp only [PA]
  refine PV (I (((F:Nat):Int) - ((br:Nat):Int) - ((cy:Nat):Int))) rfl rfl ?_
  simp only [PA]
  refine wpList_nil ?_
  refine aB _ _ ?_
  refine wp_seq_k fun bm aE=>?_
  refine wp_region_lit ?_
  refine PV (E (some ⟨C,0,none⟩) n1 n1) rfl rfl ?_
  simp only [PA]
  refine PV (I ((pre.length:Nat):Int)) (CT rfl (vint (by omega))) rfl ?_
  simp only [PA]
  refine PV (I (k:Int)) rfl rfl ?_
  simp only [PA]
  refine PV (I ((pre.length+k:Nat):Int)) (CT (run_bin (I ((pre.length:Nat):Int)) (I (k:Int)) _ rfl rfl rfl (bin_add_3 _ _ _ _)) (vint (by rw [IntKind.wrap_i64]; omega))) rfl ?_
  simp only [PA]
  refine PV (I (((F:Nat):Int) - ((br:Nat):Int) - ((cy:Nat):Int))) rfl rfl ?_
  simp only [PA]
  refine PV (.int .u32 ((e2:Nat):Int)) (CT (run_cv _ rfl rfl rfl rfl rfl) (vint aH.1)) rfl ?_
  simp only [PA]
  refine PV (.pointer (some ⟨C,(pre.length+k),none⟩)) (run_idxB rfl rfl rfl (by omega)) rfl ?_
  simp only [PA]
  refine wpList_plain rfl fun K hK=>o_stWin 2 (e2) ([⟨L,wc (outs),100⟩,⟨D,wc (vl),100⟩,⟨C,wc (pre++((cur).set ((k)) (e2))++post),100⟩]) rfl rfl rfl aF rfl (by first | omega | (have:=hI.1; omega)) rfl fun bn aI=>hK _ _ ?_
  simp only [PA]
  refine wpList_nil ?_
  refine aE _ _ ?_
  refine wp_seq_k fun bo aT=>?_
  refine wp_cut (fun aa_ w'=>∃ (R:Nat) (rl:List Nat) (r:List Value),aa_=⟨#[E (some ad) n c,E (some bd) k d,O,O,E none 0 0,E none 0 0,O,O,O,O,J ((s:Nat):Int),E (some ⟨C,0,none⟩) n1 n1,E (some ⟨D,0,none⟩) k k,(GD g 0),(GD f 0),I (k:Int),E (some ⟨L,0,none⟩) M M,I ((((pre.length+1):Nat):Int) - 1),J ((hd:Nat):Int),J ((R:Nat):Int),(GD o 0),I ((br:Nat):Int),J ((cy:Nat):Int),(GD p 0),(GD p 1),(GD p 2),I (((F:Nat):Int) - ((br:Nat):Int) - ((cy:Nat):Int)),(GD r 0),(GD r 1),(GD r 2),O,O,E (some ad) n c,E (some bd) k d,I (cmpN (x) (y)),T false,O,O,E (some bd) k d,I (k:Int),T false,O,O,O,O,O,O,O,O,O,O,O,O,O,O,O,O,O,O,O,O,O,O,O,O,O,O,O,O,O,O,O,O,O,O,O,O,O,O,E (some bd) k d,E (some bd) k d,I (k:Int),I ((kk:Nat):Int),.pointer (some (bd.add kk)),.int .u32 ((yt:Nat):Int),I ((s:Nat):Int),J ((s:Nat):Int),E (some ad) n c,I (n:Int),I ((n1:Nat):Int),E (some ⟨C,0,none⟩) n1 n1,E (some bd) k d,I (k:Int),E (some ⟨D,0,none⟩) k k,E (some bd) k d,I (k:Int),(GD g 1),(GD g 2),(GD g 3),(GD g 4),(GD g 5),(GD g 6),(GD g 7),(GD g 8),(GD g 9),(GD g 10),(GD g 11),(GD g 12),(GD g 13),(GD g 14),(GD g 15),(GD g 16),(GD g 17),(GD g 18),(GD g 19),(GD g 20),(GD g 21),(GD g 22),(GD g 23),(GD g 24),(GD g 25),(GD g 26),(GD g 27),(GD g 28),(GD g 29),(GD g 30),(GD g 31),(GD g 32),(GD g 33),E (some ⟨C,0,none⟩) n1 n1,I (n1:Int),(GD f 1),(GD f 2),(GD f 3),(GD f 4),(GD f 5),(GD f 6),(GD f 7),(GD f 8),(GD f 9),(GD f 10),(GD f 11),(GD f 12),(GD f 13),(GD f 14),(GD f 15),(GD f 16),(GD f 17),(GD f 18),(GD f 19),(GD f 20),(GD f 21),(GD f 22),(GD f 23),(GD f 24),(GD f 25),(GD f 26),(GD f 27),(GD f 28),(GD f 29),(GD f 30),(GD f 31),(GD f 32),(GD f 33),(GD f 34),(GD f 35),(GD f 36),(GD f 37),E (some ⟨D,0,none⟩) k k,I (k:Int),E (some ad) n c,I (n:Int),I (k:Int),I ((nk:Nat):Int),I ((M:Nat):Int),E (some ⟨L,0,none⟩) M M,E (some ad) n c,I (n:Int),I (k:Int),I (((M:Nat):Int) - 1),I ((((pre.length+1):Nat):Int) - 1),T true,(GD e 14),(GD e 15),E (some ⟨C,0,none⟩) n1 n1,I ((pre.length:Nat):Int),I (k:Int),I ((pre.length+k:Nat):Int),.pointer (some ⟨C,(pre.length+k),none⟩),.int .u32 ((F:Nat):Int),J ((F:Nat):Int),J ((ab:Nat):Int),E (some ⟨C,0,none⟩) n1 n1,I ((pre.length:Nat):Int),I (k:Int),I ((pre.length+k:Nat):Int),I ((pre.length+kk:Nat):Int),.pointer (some ⟨C,(pre.length+kk),none⟩),.int .u32 ((N:Nat):Int),J ((N:Nat):Int),J ((hd:Nat):Int),J ((hd:Nat):Int),E (some ⟨D,0,none⟩) k k,I (k:Int),I ((kk:Nat):Int),.pointer (some ⟨D,kk,none⟩),.int .u32 ((H:Nat):Int),J ((H:Nat):Int),J ((Y:Nat):Int),J ((hd:Nat):Int),E (some ⟨D,0,none⟩) k k,I (k:Int),I ((kk:Nat):Int),.pointer (some ⟨D,kk,none⟩),.int .u32 ((H:Nat):Int),J ((H:Nat):Int),J ((W:Nat):Int),(GD o 1),(GD o 2),(GD o 3),(GD o 4),(GD o 5),(GD o 6),(GD o 7),(GD o 8),(GD o 9),(GD o 10),(GD o 11),(GD o 12),(GD o 13),(GD o 14),(GD o 15),(GD o 16),(GD o 17),(GD o 18),(GD o 19),(GD o 20),(GD o 21),(GD o 22),(GD o 23),(GD o 24),(GD o 25),(GD o 26),(GD o 27),(GD o 28),(GD o 29),(GD o 30),(GD o 31),(GD o 32),(GD o 33),(GD o 34),(GD o 35),(GD o 36),I (k:Int),(GD p 3),(GD p 4),(GD p 5),(GD p 6),(GD p 7),(GD p 8),(GD p 9),(GD p 10),(GD p 11),(GD p 12),(GD p 13),(GD p 14),(GD p 15),(GD p 16),(GD p 17),(GD p 18),(GD p 19),(GD p 20),(GD p 21),(GD p 22),(GD p 23),(GD p 24),(GD p 25),(GD p 26),(GD p 27),(GD p 28),(GD p 29),(GD p 30),(GD p 31),(GD p 32),(GD p 33),(GD p 34),(GD p 35),(GD p 36),(GD p 37),(GD p 38),(GD p 39),E (some ⟨C,0,none⟩) n1 n1,I ((pre.length:Nat):Int),I (k:Int),I ((pre.length+k:Nat):Int),.pointer (some ⟨C,(pre.length+k),none⟩),.int .u32 ((F:Nat):Int),I ((F:Nat):Int),I ((br:Nat):Int),I (IntKind.i64.wrap ((((F:Nat):Int):Int) - ((br:Nat):Int))),J ((cy:Nat):Int),I ((cy:Nat):Int),I (((F:Nat):Int) - ((br:Nat):Int) - ((cy:Nat):Int)),E (some ⟨C,0,none⟩) n1 n1,I ((pre.length:Nat):Int),I (k:Int),I ((pre.length+k:Nat):Int),I (((F:Nat):Int) - ((br:Nat):Int) - ((cy:Nat):Int)),.int .u32 ((e2:Nat):Int),.pointer (some ⟨C,(pre.length+k),none⟩),(GD r 3),(GD r 4),(GD r 5),(GD r 6),(GD r 7),(GD r 8),(GD r 9),(GD r 10),(GD r 11),(GD r 12),(GD r 13),(GD r 14),(GD r 15),(GD r 16),(GD r 17),(GD r 18),(GD r 19),(GD r 20),(GD r 21),(GD r 22),(GD r 23),(GD r 24),(GD r 25),(GD r 26),(GD r 27),(GD r 28),(GD r 29),(GD r 30),(GD r 31),(GD r 32),(GD r 33),(GD r 34),(GD r 35),(GD r 36),(GD r 37),(GD r 38),(GD r 39),(GD r 40),(GD r 41),(GD r 42),(GD r 43),(GD r 44),(GD r 45),(GD e 185),(GD e 186),(GD e 187),(GD e 188),(GD e 189),O,O,O,O,O,O,O,O,O,O,O,O,O,O,O,O,O,O,O,O,O,O,O,O,O,O,O,O,O,O,O,O,O,O],[]⟩∧St w w' [⟨L,wc (outs),100⟩,⟨D,wc (vl),100⟩,⟨C,wc (pre++rl++post),100⟩]∧(R=val wl / val vl)∧(R<BW)∧(rl.length=k+1)∧(Dig rl)∧(val rl=val wl % val vl)∧True) (qc_back hx hy hk hkn hnm hkk ag ah hnk hM hxl hyl ai aj al hvlen hvD hYl hYBv hwl hwD X aa S ac V an ae ao ap G htM hq hbr hcy hIk aG aH aI (fun _ _ _ _ _ h=>hQp _ _ _ _ _ h)) ?_
  rintro _ bp ⟨R,rl,r,rfl,aO,hqe,aJ,hrl,hrD,hrv,-⟩
  refine aT _ _ ?_
  refine wp_region_lit ?_
  refine PV (E (some ⟨L,0,none⟩) M M) rfl rfl ?_
  simp only [PA]
  refine PV (I ((pre.length:Nat):Int)) (CT rfl (vint (by omega))) rfl ?_
  simp only [PA]
  refine PV (J ((R:Nat):Int)) rfl rfl ?_
  simp only [PA]
  refine PV (.int .u32 ((R:Nat):Int)) (CT (run_cv _ rfl rfl rfl rfl (wrap_u32)) (vnat (Nat.mod_eq_of_lt aJ))) rfl ?_
  simp only [PA]
  refine PV (.pointer (some ⟨L,pre.length,none⟩)) (run_idxB rfl rfl rfl (by omega)) rfl ?_
  simp only [PA]
  refine wpList_plain rfl fun K hK=>o_stB 0 (R) ([⟨L,wc (((outs).set (pre.length) (R))),100⟩,⟨D,wc (vl),100⟩,⟨C,wc (pre++rl++post),100⟩]) rfl rfl rfl aO rfl (by first | omega | (have:=hout; omega)) rfl fun bq aZ=>hK _ _ ?_
  simp only [PA]
  refine wpList_nil ?_
  refine aM _ _ ?_
  refine wp_region_lit ?_
  refine PV (I ((pre.length:Nat):Int)) (CT rfl (vint (by omega))) rfl ?_
  simp only [PA]
  refine PV (I (((pre.length:Nat):Int) - 1)) (CT (run_bin (I ((pre.length:Nat):Int)) (I 1) _ rfl rfl rfl (bin_sub_3 _ _ _ _)) (vint (by rw [IntKind.wrap_i64]; omega))) rfl ?_
  simp only [PA]
  refine PV (I (((pre.length:Nat):Int) - 1)) rfl rfl ?_
  simp only [PA]
  refine wpList_nil ?_
  exact ⟨pre.length,by omega,pre.length,(pre++rl++post),((outs).set (pre.length) (R)),[J ((hd:Nat):Int),J ((R:Nat):Int),(GD o 0),I ((br:Nat):Int),J ((cy:Nat):Int),(GD p 0),(GD p 1),(GD p 2),I (((F:Nat):Int) - ((br:Nat):Int) - ((cy:Nat):Int)),(GD r 0),(GD r 1),(GD r 2),I ((((pre.length+1):Nat):Int) - 1),T true,I ((pre.length:Nat):Int),I (((pre.length:Nat):Int) - 1),E (some ⟨C,0,none⟩) n1 n1,I ((pre.length:Nat):Int),I (k:Int),I ((pre.length+k:Nat):Int),.pointer (some ⟨C,(pre.length+k),none⟩),.int .u32 ((F:Nat):Int),J ((F:Nat):Int),J ((ab:Nat):Int),E (some ⟨C,0,none⟩) n1 n1,I ((pre.length:Nat):Int),I (k:Int),I ((pre.length+k:Nat):Int),I ((pre.length+kk:Nat):Int),.pointer (some ⟨C,(pre.length+kk),none⟩),.int .u32 ((N:Nat):Int),J ((N:Nat):Int),J ((hd:Nat):Int),J ((hd:Nat):Int),E (some ⟨D,0,none⟩) k k,I (k:Int),I ((kk:Nat):Int),.pointer (some ⟨D,kk,none⟩),.int .u32 ((H:Nat):Int),J ((H:Nat):Int),J ((Y:Nat):Int),J ((hd:Nat):Int),E (some ⟨D,0,none⟩) k k,I (k:Int),I ((kk:Nat):Int),.pointer (some ⟨D,kk,none⟩),.int .u32 ((H:Nat):Int),J ((H:Nat):Int),J ((W:Nat):Int),(GD o 1),(GD o 2),(GD o 3),(GD o 4),(GD o 5),(GD o 6),(GD o 7),(GD o 8),(GD o 9),(GD o 10),(GD o 11),(GD o 12),(GD o 13),(GD o 14),(GD o 15),(GD o 16),(GD o 17),(GD o 18),(GD o 19),(GD o 20),(GD o 21),(GD o 22),(GD o 23),(GD o 24),(GD o 25),(GD o 26),(GD o 27),(GD o 28),(GD o 29),(GD o 30),(GD o 31),(GD o 32),(GD o 33),(GD o 34),(GD o 35),(GD o 36),I (k:Int),(GD p 3),(GD p 4),(GD p 5),(GD p 6),(GD p 7),(GD p 8),(GD p 9),(GD p 10),(GD p 11),(GD p 12),(GD p 13),(GD p 14),(GD p 15),(GD p 16),(GD p 17),(GD p 18),(GD p 19),(GD p 20),(GD p 21),(GD p 22),(GD p 23),(GD p 24),(GD p 25),(GD p 26),(GD p 27),(GD p 28),(GD p 29),(GD p 30),(GD p 31),(GD p 32),(GD p 33),(GD p 34),(GD p 35),(GD p 36),(GD p 37),(GD p 38),(GD p 39),E (some ⟨C,0,none⟩) n1 n1,I ((pre.length:Nat):Int),I (k:Int),I ((pre.length+k:Nat):Int),.pointer (some ⟨C,(pre.length+k),none⟩),.int .u32 ((F:Nat):Int),I ((F:Nat):Int),I ((br:Nat):Int),I (IntKind.i64.wrap ((((F:Nat):Int):Int) - ((br:Nat):Int))),J ((cy:Nat):Int),I ((cy:Nat):Int),I (((F:Nat):Int) - ((br:Nat):Int) - ((cy:Nat):Int)),E (some ⟨C,0,none⟩) n1 n1,I ((pre.length:Nat):Int),I (k:Int),I ((pre.length+k:Nat):Int),I (((F:Nat):Int) - ((br:Nat):Int) - ((cy:Nat):Int)),.int .u32 ((e2:Nat):Int),.pointer (some ⟨C,(pre.length+k),none⟩),(GD r 3),(GD r 4),(GD r 5),(GD r 6),(GD r 7),(GD r 8),(GD r 9),(GD r 10),(GD r 11),(GD r 12),(GD r 13),(GD r 14),(GD r 15),(GD r 16),(GD r 17),(GD r 18),(GD r 19),(GD r 20),(GD r 21),(GD r 22),(GD r 23),(GD r 24),(GD r 25),(GD r 26),(GD r 27),(GD r 28),(GD r 29),(GD r 30),(GD r 31),(GD r 32),(GD r 33),(GD r 34),(GD r 35),(GD r 36),(GD r 37),(GD r 38),(GD r 39),(GD r 40),(GD r 41),(GD r 42),(GD r 43),(GD r 44),(GD r 45),E (some ⟨L,0,none⟩) M M,I ((pre.length:Nat):Int),J ((R:Nat):Int),.int .u32 ((R:Nat):Int),.pointer (some ⟨L,pre.length,none⟩)],rfl,aZ,hLS rl R hrl hrD hrv hqe,rfl⟩
 ·skip
  refine PV (T false) (CT (run_bin (I (((t:Nat):Int) - 1)) (I 0) _ rfl rfl rfl (bin_geq_3 _ _ _ _)) (congrArg Value.bool (decide_eq_false az))) rfl ?_
  simp only [PA]
  refine wpList_nil ?_
  refine ay _ _ ?_
  refine cond_false rfl ?_
  refine wp_exit ?_
  exact ⟨ls,outs,[I (((t:Nat):Int) - 1),(GD e 0),(GD e 1),(GD e 2),(GD e 3),(GD e 4),(GD e 5),(GD e 6),(GD e 7),(GD e 8),(GD e 9),(GD e 10),(GD e 11),I (((t:Nat):Int) - 1),T false,(GD e 14),(GD e 15),(GD e 16),(GD e 17),(GD e 18),(GD e 19),(GD e 20),(GD e 21),(GD e 22),(GD e 23),(GD e 24),(GD e 25),(GD e 26),(GD e 27),(GD e 28),(GD e 29),(GD e 30),(GD e 31),(GD e 32),(GD e 33),(GD e 34),(GD e 35),(GD e 36),(GD e 37),(GD e 38),(GD e 39),(GD e 40),(GD e 41),(GD e 42),(GD e 43),(GD e 44),(GD e 45),(GD e 46),(GD e 47),(GD e 48),(GD e 49),(GD e 50),(GD e 51),(GD e 52),(GD e 53),(GD e 54),(GD e 55),(GD e 56),(GD e 57),(GD e 58),(GD e 59),(GD e 60),(GD e 61),(GD e 62),(GD e 63),(GD e 64),(GD e 65),(GD e 66),(GD e 67),(GD e 68),(GD e 69),(GD e 70),(GD e 71),(GD e 72),(GD e 73),(GD e 74),(GD e 75),(GD e 76),(GD e 77),(GD e 78),(GD e 79),(GD e 80),(GD e 81),(GD e 82),(GD e 83),(GD e 84),(GD e 85),(GD e 86),(GD e 87),(GD e 88),(GD e 89),(GD e 90),(GD e 91),(GD e 92),(GD e 93),(GD e 94),(GD e 95),(GD e 96),(GD e 97),(GD e 98),(GD e 99),(GD e 100),(GD e 101),(GD e 102),(GD e 103),(GD e 104),(GD e 105),(GD e 106),(GD e 107),(GD e 108),(GD e 109),(GD e 110),(GD e 111),(GD e 112),(GD e 113),(GD e 114),(GD e 115),(GD e 116),(GD e 117),(GD e 118),(GD e 119),(GD e 120),(GD e 121),(GD e 122),(GD e 123),(GD e 124),(GD e 125),(GD e 126),(GD e 127),(GD e 128),(GD e 129),(GD e 130),(GD e 131),(GD e 132),(GD e 133),(GD e 134),(GD e 135),(GD e 136),(GD e 137),(GD e 138),(GD e 139),(GD e 140),(GD e 141),(GD e 142),(GD e 143),(GD e 144),(GD e 145),(GD e 146),(GD e 147),(GD e 148),(GD e 149),(GD e 150),(GD e 151),(GD e 152),(GD e 153),(GD e 154),(GD e 155),(GD e 156),(GD e 157),(GD e 158),(GD e 159),(GD e 160),(GD e 161),(GD e 162),(GD e 163),(GD e 164),(GD e 165),(GD e 166),(GD e 167),(GD e 168),(GD e 169),(GD e 170),(GD e 171),(GD e 172),(GD e 173),(GD e 174),(GD e 175),(GD e 176),(GD e 177),(GD e 178),(GD e 179),(GD e 180),(GD e 181),(GD e 182),(GD e 183),(GD e 184),(GD e 185),(GD e 186),(GD e 187),(GD e 188),(GD e 189)],rfl,ax,(show t=0 by omega)▸hL,trivial⟩
end Go.Proofs.Ythhgjloephkpaaa
