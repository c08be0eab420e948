/- Words and walks for the row RowRatLeast, put together: RQR, RQC. -/
import Derived.Test.YthhgjloephkpaaaLe17
import Derived.Test.YthhgjloephkpaaaLe6
import Derived.Test.YthhgjloephkpaaaLe18
import Derived.Test.YthhgjloephkpaaaLeRQM
namespace Go.Proofs.Ythhgjloephkpaaa
set_option linter.unusedVariables false
set_option linter.unusedSimpArgs false
open Go Go.RowKit Go.Proofs.YthhgjloephkpaaaW.PrintWords Go.Proofs.YthhgjloephkpaaaW.PrintLast
set_option maxRecDepth 100000 in
set_option maxHeartbeats 8000000 in
theorem qc_rest {ad bd:Addr} {n n1 k c d x y kk k2 nk M yt s:Nat} {w:World} (hx:Wds w (some ad) n c (dg x)) (hy:Wds w (some bd) k d (dg y)) (hk:2≤k) (hkn:k≤n) (hnm:n≤1000000000) (hkk:kk+1=k) (ai:k2+2=k) (aj:n1=n+1) (hnk:nk+k=n) (hM:M=nk+1) (hxl:(dg x).length=n) (hyl:(dg y).length=k) (A:s≤31) (W:min s 32=s) (X:min (32 - s) 32=32 - s) {vl:List Nat} (hvlen:vl.length=k) (hvD:Dig vl) (hYl:BW ^ (k - 1) * 2 ^ 31≤val vl) (hYBv:val vl<BW ^ k) {ls outs:List Nat} (hL:Long (x * 2 ^ s) (val vl) k 0 M ls outs) (hlen:ls.length=n1) (Y:ls.getD k 0=0) (aa:val (ls.drop (k+1))=0) {p r q o:Nat} {b f e:List Value} {G:World} (ab:St w G [⟨p,wc (List.replicate k 0),100⟩,⟨r,wc (outs),100⟩,⟨q,wc (vl),100⟩,⟨o,wc (ls),100⟩]) {Q:Exit→Act→World→Prop} (hQp:∀ c (a:Act) d v w,Q (.panic c) (a.put d v) w→Q (.panic c) a w) :
  (pR (pL (pR (pR (pR (pR (pR (pR (pR (pR (pR (pR (pR (pR (pF Try.f117))))))))))))))).wp Try.prog (Exit.then (fun aa_ w'=>∃ (rl:List Nat) (l:List Value),aa_=⟨#[E (some ad) n c,E (some bd) k d,O,O,E none 0 0,E none 0 0,O,O,O,O,J ((s:Nat):Int),E (some ⟨o,0,none⟩) n1 n1,E (some ⟨q,0,none⟩) k k,(GD f 0),(GD e 0),I (k:Int),E (some ⟨r,0,none⟩) M M,(GD b 0),(GD b 1),(GD b 2),(GD b 3),(GD b 4),(GD b 5),(GD b 6),(GD b 7),(GD b 8),(GD b 9),(GD b 10),(GD b 11),(GD b 12),E (some ⟨p,0,none⟩) k k,(GD l 0),E (some ad) n c,E (some bd) k d,I (cmpN (x) (y)),T false,O,O,E (some bd) k d,I (k:Int),T false,O,O,O,O,O,O,O,O,O,O,O,O,O,O,O,O,O,O,O,O,O,O,O,O,O,O,O,O,O,O,O,O,O,O,O,O,O,O,E (some bd) k d,E (some bd) k d,I (k:Int),I ((kk:Nat):Int),.pointer (some (bd.add kk)),.int .u32 ((yt:Nat):Int),I ((s:Nat):Int),J ((s:Nat):Int),E (some ad) n c,I (n:Int),I ((n1:Nat):Int),E (some ⟨o,0,none⟩) n1 n1,E (some bd) k d,I (k:Int),E (some ⟨q,0,none⟩) k k,E (some bd) k d,I (k:Int),(GD f 1),(GD f 2),(GD f 3),(GD f 4),(GD f 5),(GD f 6),(GD f 7),(GD f 8),(GD f 9),(GD f 10),(GD f 11),(GD f 12),(GD f 13),(GD f 14),(GD f 15),(GD f 16),(GD f 17),(GD f 18),(GD f 19),(GD f 20),(GD f 21),(GD f 22),(GD f 23),(GD f 24),(GD f 25),(GD f 26),(GD f 27),(GD f 28),(GD f 29),(GD f 30),(GD f 31),(GD f 32),(GD f 33),E (some ⟨o,0,none⟩) n1 n1,I (n1:Int),(GD e 1),(GD e 2),(GD e 3),(GD e 4),(GD e 5),(GD e 6),(GD e 7),(GD e 8),(GD e 9),(GD e 10),(GD e 11),(GD e 12),(GD e 13),(GD e 14),(GD e 15),(GD e 16),(GD e 17),(GD e 18),(GD e 19),(GD e 20),(GD e 21),(GD e 22),(GD e 23),(GD e 24),(GD e 25),(GD e 26),(GD e 27),(GD e 28),(GD e 29),(GD e 30),(GD e 31),(GD e 32),(GD e 33),(GD e 34),(GD e 35),(GD e 36),(GD e 37),E (some ⟨q,0,none⟩) k k,I (k:Int),E (some ad) n c,I (n:Int),I (k:Int),I ((nk:Nat):Int),I ((M:Nat):Int),E (some ⟨r,0,none⟩) M M,E (some ad) n c,I (n:Int),I (k:Int),I (((M:Nat):Int) - 1),(GD b 13),(GD b 14),(GD b 15),(GD b 16),(GD b 17),(GD b 18),(GD b 19),(GD b 20),(GD b 21),(GD b 22),(GD b 23),(GD b 24),(GD b 25),(GD b 26),(GD b 27),(GD b 28),(GD b 29),(GD b 30),(GD b 31),(GD b 32),(GD b 33),(GD b 34),(GD b 35),(GD b 36),(GD b 37),(GD b 38),(GD b 39),(GD b 40),(GD b 41),(GD b 42),(GD b 43),(GD b 44),(GD b 45),(GD b 46),(GD b 47),(GD b 48),(GD b 49),(GD b 50),(GD b 51),(GD b 52),(GD b 53),(GD b 54),(GD b 55),(GD b 56),(GD b 57),(GD b 58),(GD b 59),(GD b 60),(GD b 61),(GD b 62),(GD b 63),(GD b 64),(GD b 65),(GD b 66),(GD b 67),(GD b 68),(GD b 69),(GD b 70),(GD b 71),(GD b 72),(GD b 73),(GD b 74),(GD b 75),(GD b 76),(GD b 77),(GD b 78),(GD b 79),(GD b 80),(GD b 81),(GD b 82),(GD b 83),(GD b 84),(GD b 85),(GD b 86),(GD b 87),(GD b 88),(GD b 89),(GD b 90),(GD b 91),(GD b 92),(GD b 93),(GD b 94),(GD b 95),(GD b 96),(GD b 97),(GD b 98),(GD b 99),(GD b 100),(GD b 101),(GD b 102),(GD b 103),(GD b 104),(GD b 105),(GD b 106),(GD b 107),(GD b 108),(GD b 109),(GD b 110),(GD b 111),(GD b 112),(GD b 113),(GD b 114),(GD b 115),(GD b 116),(GD b 117),(GD b 118),(GD b 119),(GD b 120),(GD b 121),(GD b 122),(GD b 123),(GD b 124),(GD b 125),(GD b 126),(GD b 127),(GD b 128),(GD b 129),(GD b 130),(GD b 131),(GD b 132),(GD b 133),(GD b 134),(GD b 135),(GD b 136),(GD b 137),(GD b 138),(GD b 139),(GD b 140),(GD b 141),(GD b 142),(GD b 143),(GD b 144),(GD b 145),(GD b 146),(GD b 147),(GD b 148),(GD b 149),(GD b 150),(GD b 151),(GD b 152),(GD b 153),(GD b 154),(GD b 155),(GD b 156),(GD b 157),(GD b 158),(GD b 159),(GD b 160),(GD b 161),(GD b 162),(GD b 163),(GD b 164),(GD b 165),(GD b 166),(GD b 167),(GD b 168),(GD b 169),(GD b 170),(GD b 171),(GD b 172),(GD b 173),(GD b 174),(GD b 175),(GD b 176),(GD b 177),(GD b 178),(GD b 179),(GD b 180),(GD b 181),(GD b 182),(GD b 183),(GD b 184),(GD b 185),(GD b 186),(GD b 187),(GD b 188),(GD b 189),(GD b 190),I (k:Int),E (some ⟨p,0,none⟩) k k,I (k:Int),(GD l 1),(GD l 2),(GD l 3),(GD l 4),(GD l 5),(GD l 6),(GD l 7),(GD l 8),(GD l 9),(GD l 10),(GD l 11),(GD l 12),(GD l 13),(GD l 14),(GD l 15),(GD l 16),(GD l 17),(GD l 18),(GD l 19),(GD l 20),(GD l 21),(GD l 22),(GD l 23),(GD l 24),(GD l 25),(GD l 26),(GD l 27),(GD l 28),(GD l 29),O,O],[]⟩∧St w w' [⟨p,wc (rl),100⟩,⟨r,wc (outs),100⟩,⟨q,wc (vl),100⟩,⟨o,wc (ls),100⟩]∧(rl.length=k)∧(Dig rl)∧(val rl=val ls / 2 ^ s)∧True) Q) ⟨#[E (some ad) n c,E (some bd) k d,O,O,E none 0 0,E none 0 0,O,O,O,O,J ((s:Nat):Int),E (some ⟨o,0,none⟩) n1 n1,E (some ⟨q,0,none⟩) k k,(GD f 0),(GD e 0),I (k:Int),E (some ⟨r,0,none⟩) M M,(GD b 0),(GD b 1),(GD b 2),(GD b 3),(GD b 4),(GD b 5),(GD b 6),(GD b 7),(GD b 8),(GD b 9),(GD b 10),(GD b 11),(GD b 12),E (some ⟨p,0,none⟩) k k,O,E (some ad) n c,E (some bd) k d,I (cmpN (x) (y)),T false,O,O,E (some bd) k d,I (k:Int),T false,O,O,O,O,O,O,O,O,O,O,O,O,O,O,O,O,O,O,O,O,O,O,O,O,O,O,O,O,O,O,O,O,O,O,O,O,O,O,E (some bd) k d,E (some bd) k d,I (k:Int),I ((kk:Nat):Int),.pointer (some (bd.add kk)),.int .u32 ((yt:Nat):Int),I ((s:Nat):Int),J ((s:Nat):Int),E (some ad) n c,I (n:Int),I ((n1:Nat):Int),E (some ⟨o,0,none⟩) n1 n1,E (some bd) k d,I (k:Int),E (some ⟨q,0,none⟩) k k,E (some bd) k d,I (k:Int),(GD f 1),(GD f 2),(GD f 3),(GD f 4),(GD f 5),(GD f 6),(GD f 7),(GD f 8),(GD f 9),(GD f 10),(GD f 11),(GD f 12),(GD f 13),(GD f 14),(GD f 15),(GD f 16),(GD f 17),(GD f 18),(GD f 19),(GD f 20),(GD f 21),(GD f 22),(GD f 23),(GD f 24),(GD f 25),(GD f 26),(GD f 27),(GD f 28),(GD f 29),(GD f 30),(GD f 31),(GD f 32),(GD f 33),E (some ⟨o,0,none⟩) n1 n1,I (n1:Int),(GD e 1),(GD e 2),(GD e 3),(GD e 4),(GD e 5),(GD e 6),(GD e 7),(GD e 8),(GD e 9),(GD e 10),(GD e 11),(GD e 12),(GD e 13),(GD e 14),(GD e 15),(GD e 16),(GD e 17),(GD e 18),(GD e 19),(GD e 20),(GD e 21),(GD e 22),(GD e 23),(GD e 24),(GD e 25),(GD e 26),(GD e 27),(GD e 28),(GD e 29),(GD e 30),(GD e 31),(GD e 32),(GD e 33),(GD e 34),(GD e 35),(GD e 36),(GD e 37),E (some ⟨q,0,none⟩) k k,I (k:Int),E (some ad) n c,I (n:Int),I (k:Int),I ((nk:Nat):Int),I ((M:Nat):Int),E (some ⟨r,0,none⟩) M M,E (some ad) n c,I (n:Int),I (k:Int),I (((M:Nat):Int) - 1),(GD b 13),(GD b 14),(GD b 15),(GD b 16),(GD b 17),(GD b 18),(GD b 19),(GD b 20),(GD b 21),(GD b 22),(GD b 23),(GD b 24),(GD b 25),(GD b 26),(GD b 27),(GD b 28),(GD b 29),(GD b 30),(GD b 31),(GD b 32),(GD b 33),(GD b 34),(GD b 35),(GD b 36),(GD b 37),(GD b 38),(GD b 39),(GD b 40),(GD b 41),(GD b 42),(GD b 43),(GD b 44),(GD b 45),(GD b 46),(GD b 47),(GD b 48),(GD b 49),(GD b 50),(GD b 51),(GD b 52),(GD b 53),(GD b 54),(GD b 55),(GD b 56),(GD b 57),(GD b 58),(GD b 59),(GD b 60),(GD b 61),(GD b 62),(GD b 63),(GD b 64),(GD b 65),(GD b 66),(GD b 67),(GD b 68),(GD b 69),(GD b 70),(GD b 71),(GD b 72),(GD b 73),(GD b 74),(GD b 75),(GD b 76),(GD b 77),(GD b 78),(GD b 79),(GD b 80),(GD b 81),(GD b 82),(GD b 83),(GD b 84),(GD b 85),(GD b 86),(GD b 87),(GD b 88),(GD b 89),(GD b 90),(GD b 91),(GD b 92),(GD b 93),(GD b 94),(GD b 95),(GD b 96),(GD b 97),(GD b 98),(GD b 99),(GD b 100),(GD b 101),(GD b 102),(GD b 103),(GD b 104),(GD b 105),(GD b 106),(GD b 107),(GD b 108),(GD b 109),(GD b 110),(GD b 111),(GD b 112),(GD b 113),(GD b 114),(GD b 115),(GD b 116),(GD b 117),(GD b 118),(GD b 119),(GD b 120),(GD b 121),(GD b 122),(GD b 123),(GD b 124),(GD b 125),(GD b 126),(GD b 127),(GD b 128),(GD b 129),(GD b 130),(GD b 131),(GD b 132),(GD b 133),(GD b 134),(GD b 135),(GD b 136),(GD b 137),(GD b 138),(GD b 139),(GD b 140),(GD b 141),(GD b 142),(GD b 143),(GD b 144),(GD b 145),(GD b 146),(GD b 147),(GD b 148),(GD b 149),(GD b 150),(GD b 151),(GD b 152),(GD b 153),(GD b 154),(GD b 155),(GD b 156),(GD b 157),(GD b 158),(GD b 159),(GD b 160),(GD b 161),(GD b 162),(GD b 163),(GD b 164),(GD b 165),(GD b 166),(GD b 167),(GD b 168),(GD b 169),(GD b 170),(GD b 171),(GD b 172),(GD b 173),(GD b 174),(GD b 175),(GD b 176),(GD b 177),(GD b 178),(GD b 179),(GD b 180),(GD b 181),(GD b 182),(GD b 183),(GD b 184),(GD b 185),(GD b 186),(GD b 187),(GD b 188),(GD b 189),(GD b 190),I (k:Int),E (some ⟨p,0,none⟩) k k,I (k:Int),I 0,O,O,O,O,O,O,O,O,O,O,O,O,O,O,O,O,O,O,O,O,O,O,O,O,O,O,O,O,O,O],[]⟩ G:=by
 show (Code.block 14 _).wp _ _ _ _
 refine wp_block ?_
 refine wp_loop_g (fun mm aa_ w'=>∃ (i:Nat) (rl:List Nat) (g:List Value),aa_=⟨#[E (some ad) n c,E (some bd) k d,O,O,E none 0 0,E none 0 0,O,O,O,O,J ((s:Nat):Int),E (some ⟨o,0,none⟩) n1 n1,E (some ⟨q,0,none⟩) k k,(GD f 0),(GD e 0),I (k:Int),E (some ⟨r,0,none⟩) M M,(GD b 0),(GD b 1),(GD b 2),(GD b 3),(GD b 4),(GD b 5),(GD b 6),(GD b 7),(GD b 8),(GD b 9),(GD b 10),(GD b 11),(GD b 12),E (some ⟨p,0,none⟩) k k,(GD g 0),E (some ad) n c,E (some bd) k d,I (cmpN (x) (y)),T false,O,O,E (some bd) k d,I (k:Int),T false,O,O,O,O,O,O,O,O,O,O,O,O,O,O,O,O,O,O,O,O,O,O,O,O,O,O,O,O,O,O,O,O,O,O,O,O,O,O,E (some bd) k d,E (some bd) k d,I (k:Int),I ((kk:Nat):Int),.pointer (some (bd.add kk)),.int .u32 ((yt:Nat):Int),I ((s:Nat):Int),J ((s:Nat):Int),E (some ad) n c,I (n:Int),I ((n1:Nat):Int),E (some ⟨o,0,none⟩) n1 n1,E (some bd) k d,I (k:Int),E (some ⟨q,0,none⟩) k k,E (some bd) k d,I (k:Int),(GD f 1),(GD f 2),(GD f 3),(GD f 4),(GD f 5),(GD f 6),(GD f 7),(GD f 8),(GD f 9),(GD f 10),(GD f 11),(GD f 12),(GD f 13),(GD f 14),(GD f 15),(GD f 16),(GD f 17),(GD f 18),(GD f 19),(GD f 20),(GD f 21),(GD f 22),(GD f 23),(GD f 24),(GD f 25),(GD f 26),(GD f 27),(GD f 28),(GD f 29),(GD f 30),(GD f 31),(GD f 32),(GD f 33),E (some ⟨o,0,none⟩) n1 n1,I (n1:Int),(GD e 1),(GD e 2),(GD e 3),(GD e 4),(GD e 5),(GD e 6),(GD e 7),(GD e 8),(GD e 9),(GD e 10),(GD e 11),(GD e 12),(GD e 13),(GD e 14),(GD e 15),(GD e 16),(GD e 17),(GD e 18),(GD e 19),(GD e 20),(GD e 21),(GD e 22),(GD e 23),(GD e 24),(GD e 25),(GD e 26),(GD e 27),(GD e 28),(GD e 29),(GD e 30),(GD e 31),(GD e 32),(GD e 33),(GD e 34),(GD e 35),(GD e 36),(GD e 37),E (some ⟨q,0,none⟩) k k,I (k:Int),E (some ad) n c,I (n:Int),I (k:Int),I ((nk:Nat):Int),I ((M:Nat):Int),E (some ⟨r,0,none⟩) M M,E (some ad) n c,I (n:Int),I (k:Int),I (((M:Nat):Int) - 1),(GD b 13),(GD b 14),(GD b 15),(GD b 16),(GD b 17),(GD b 18),(GD b 19),(GD b 20),(GD b 21),(GD b 22),(GD b 23),(GD b 24),(GD b 25),(GD b 26),(GD b 27),(GD b 28),(GD b 29),(GD b 30),(GD b 31),(GD b 32),(GD b 33),(GD b 34),(GD b 35),(GD b 36),(GD b 37),(GD b 38),(GD b 39),(GD b 40),(GD b 41),(GD b 42),(GD b 43),(GD b 44),(GD b 45),(GD b 46),(GD b 47),(GD b 48),(GD b 49),(GD b 50),(GD b 51),(GD b 52),(GD b 53),(GD b 54),(GD b 55),(GD b 56),(GD b 57),(GD b 58),(GD b 59),(GD b 60),(GD b 61),(GD b 62),(GD b 63),(GD b 64),(GD b 65),(GD b 66),(GD b 67),(GD b 68),(GD b 69),(GD b 70),(GD b 71),(GD b 72),(GD b 73),(GD b 74),(GD b 75),(GD b 76),(GD b 77),(GD b 78),(GD b 79),(GD b 80),(GD b 81),(GD b 82),(GD b 83),(GD b 84),(GD b 85),(GD b 86),(GD b 87),(GD b 88),(GD b 89),(GD b 90),(GD b 91),(GD b 92),(GD b 93),(GD b 94),(GD b 95),(GD b 96),(GD b 97),(GD b 98),(GD b 99),(GD b 100),(GD b 101),(GD b 102),(GD b 103),(GD b 104),(GD b 105),(GD b 106),(GD b 107),(GD b 108),(GD b 109),(GD b 110),(GD b 111),(GD b 112),(GD b 113),(GD b 114),(GD b 115),(GD b 116),(GD b 117),(GD b 118),(GD b 119),(GD b 120),(GD b 121),(GD b 122),(GD b 123),(GD b 124),(GD b 125),(GD b 126),(GD b 127),(GD b 128),(GD b 129),(GD b 130),(GD b 131),(GD b 132),(GD b 133),(GD b 134),(GD b 135),(GD b 136),(GD b 137),(GD b 138),(GD b 139),(GD b 140),(GD b 141),(GD b 142),(GD b 143),(GD b 144),(GD b 145),(GD b 146),(GD b 147),(GD b 148),(GD b 149),(GD b 150),(GD b 151),(GD b 152),(GD b 153),(GD b 154),(GD b 155),(GD b 156),(GD b 157),(GD b 158),(GD b 159),(GD b 160),(GD b 161),(GD b 162),(GD b 163),(GD b 164),(GD b 165),(GD b 166),(GD b 167),(GD b 168),(GD b 169),(GD b 170),(GD b 171),(GD b 172),(GD b 173),(GD b 174),(GD b 175),(GD b 176),(GD b 177),(GD b 178),(GD b 179),(GD b 180),(GD b 181),(GD b 182),(GD b 183),(GD b 184),(GD b 185),(GD b 186),(GD b 187),(GD b 188),(GD b 189),(GD b 190),I (k:Int),E (some ⟨p,0,none⟩) k k,I (k:Int),I ((i:Nat):Int),(GD g 1),(GD g 2),(GD g 3),(GD g 4),(GD g 5),(GD g 6),(GD g 7),(GD g 8),(GD g 9),(GD g 10),(GD g 11),(GD g 12),(GD g 13),(GD g 14),(GD g 15),(GD g 16),(GD g 17),(GD g 18),(GD g 19),(GD g 20),(GD g 21),(GD g 22),(GD g 23),(GD g 24),(GD g 25),(GD g 26),(GD g 27),(GD g 28),O,O],[]⟩∧St w w' [⟨p,wc (rl),100⟩,⟨r,wc (outs),100⟩,⟨q,wc (vl),100⟩,⟨o,wc (ls),100⟩]∧(i≤k)∧(Shr ls s i k rl)∧k - i=mm) (k) ⟨0,List.replicate k 0,[O,O,O,O,O,O,O,O,O,O,O,O,O,O,O,O,O,O,O,O,O,O,O,O,O,O,O,O,O],rfl,ab,by omega,Shr.start,rfl⟩ ?_
 rintro _ _ al ⟨i,rl,g,rfl,C,hik,hR,rfl⟩
 refine wp_seq_k fun am H=>?_
 refine wp_region_lit ?_
 by_cases L:(((i:Nat):Int):Int)<(k:Int)
 ·skip
  refine PV (T true) (CT (run_bin (I ((i:Nat):Int)) (I (k:Int)) _ rfl rfl rfl (bin_lss_3 _ _ _ _)) (congrArg Value.bool (decide_eq_true L))) rfl ?_
  simp only [PA]
  refine wpList_nil ?_
  refine H _ _ ?_
  refine wp_seq_k fun an ac=>?_
  refine cond_true rfl ?_
  refine wp_skip ?_
  refine ac _ _ ?_
  refine wp_seq_k fun ao N=>?_
  refine wp_block ?_
  refine wp_seq_k fun ap ae=>?_
  refine wp_region_lit ?_
  refine PV (I ((i:Nat):Int)) rfl rfl ?_
  simp only [PA]
  refine PV (I ((i:Nat):Int)) rfl rfl ?_
  simp only [PA]
  refine wpList_nil ?_
  refine ae _ _ ?_
  refine wp_seq_k fun aq af=>?_
  refine wp_region_lit ?_
  refine PV (E (some ⟨p,0,none⟩) k k) rfl rfl ?_
  simp only [PA]
  refine PV (I ((i:Nat):Int)) rfl rfl ?_
  simp only [PA]
  refine PV (E (some ⟨o,0,none⟩) n1 n1) rfl rfl ?_
  simp only [PA]
  refine PV (I ((i:Nat):Int)) rfl rfl ?_
  simp only [PA]
  refine PV (.pointer (some ⟨o,i,none⟩)) (run_idxB rfl rfl rfl (by omega)) rfl ?_
  simp only [PA]
  obtain ⟨ui,hui⟩:∃ z:Nat,ls.getD i 0=z:=⟨_,rfl⟩
  have huiB:ui<BW:=hui▸hL.dig.at_ i
  refine PV (.int .u32 ((ui:Nat):Int)) (CT (run_loadB rfl rfl (C.at_ _ (MI (i:=3) rfl)) (by first | omega | (have:=hlen; omega))) (vnat hui)) rfl ?_
  simp only [PA]
  refine PV (J ((s:Nat):Int)) rfl rfl ?_
  simp only [PA]
  obtain ⟨us,hus⟩:∃ z:Nat,ui / 2 ^ s=z:=⟨_,rfl⟩
  refine PV (.int .u32 ((us:Nat):Int)) (CT (run_bin (.int .u32 ((ui:Nat):Int)) (J ((s:Nat):Int)) _ rfl rfl rfl (bin_shr_100_u64 _ _ _ _)) ((vint w_shr_s32).trans (vnat (by rw [W]; exact hus)))) rfl ?_
  simp only [PA]
  refine PV (.pointer (some ⟨p,i,none⟩)) (run_idxB rfl rfl rfl (by omega)) rfl ?_
  simp only [PA]
  refine wpList_plain rfl fun K hK=>o_stB 0 (us) ([⟨p,wc (((rl).set (i) (us))),100⟩,⟨r,wc (outs),100⟩,⟨q,wc (vl),100⟩,⟨o,wc (ls),100⟩]) rfl rfl rfl C rfl (by first | omega | (have:=hR.1; omega)) rfl fun ar P=>hK _ _ ?_
  simp only [PA]
  refine wpList_nil ?_
  refine af _ _ ?_
  refine wp_seq_k fun au R=>?_
  refine wp_region_lit ?_
  refine PV (J ((s:Nat):Int)) rfl rfl ?_
  simp only [PA]
  by_cases S:(0:Int)<((s:Nat):Int)
  ·skip
   refine PV (T true) (CT (run_bin (J ((s:Nat):Int)) (J 0) _ rfl rfl rfl (bin_gtr_106 _ _ _ _)) (congrArg Value.bool (decide_eq_true S))) rfl ?_
   simp only [PA]
   refine wpList_nil ?_
   refine R _ _ ?_
   refine cond_true rfl ?_
   refine region_drawnP 15 (fun j=>decide (14≤j)) (by kernel_rfl) rfl P fun av D aw=>?_
   refine anyT_here (i:=0) (E (some ⟨p,0,none⟩) k k) rfl (by kernel_rfl) (by kernel_rfl) (by kernel_rfl) (by kernel_rfl) (fun _ _ _ h=>hQp _ _ _ _ _ h) rfl rfl ?_
   simp only [PA]
   refine anyT_here (i:=1) (I ((i:Nat):Int)) rfl (by kernel_rfl) (by kernel_rfl) (by kernel_rfl) (by kernel_rfl) (fun _ _ _ h=>hQp _ _ _ _ _ h) rfl rfl ?_
   simp only [PA]
   refine anyT_here (i:=2) (.pointer (some ⟨p,i,none⟩)) rfl (by kernel_rfl) (by kernel_rfl) (by kernel_rfl) (by kernel_rfl) (fun _ _ _ h=>hQp _ _ _ _ _ h) rfl (run_idxB rfl rfl rfl (by omega)) ?_
   simp only [PA]
   refine anyT_here (i:=3) (.int .u32 ((us:Nat):Int)) rfl (by kernel_rfl) (by kernel_rfl) (by kernel_rfl) (by kernel_rfl) (fun _ _ _ h=>hQp _ _ _ _ _ h) rfl (CT (run_loadB rfl rfl (D.at_ _ (MI (i:=0) rfl)) (by first | omega | (simp only [List.length_set]; omega) | (simp only [List.length_set]; have:=hR.1; omega))) (vnat (shl_set (by have:=hR.1; omega)))) ?_
   simp only [PA]
   refine anyT_here (i:=4) (E (some ⟨o,0,none⟩) n1 n1) rfl (by kernel_rfl) (by kernel_rfl) (by kernel_rfl) (by kernel_rfl) (fun _ _ _ h=>hQp _ _ _ _ _ h) rfl rfl ?_
   simp only [PA]
   refine anyT_here (i:=5) (I ((i:Nat):Int)) rfl (by kernel_rfl) (by kernel_rfl) (by kernel_rfl) (by kernel_rfl) (fun _ _ _ h=>hQp _ _ _ _ _ h) rfl rfl ?_
   simp only [PA]
   refine anyT_here (i:=6) (I ((i+1:Nat):Int)) rfl (by kernel_rfl) (by kernel_rfl) (by kernel_rfl) (by kernel_rfl) (fun _ _ _ h=>hQp _ _ _ _ _ h) rfl (CT (run_bin (I ((i:Nat):Int)) (I 1) _ rfl rfl rfl (bin_add_3 _ _ _ _)) (vint (i_add (m:=i) (n:=1) (by omega)))) ?_
   simp only [PA]
   refine anyT_here (i:=7) (.pointer (some ⟨o,i+1,none⟩)) rfl (by kernel_rfl) (by kernel_rfl) (by kernel_rfl) (by kernel_rfl) (fun _ _ _ h=>hQp _ _ _ _ _ h) rfl (run_idxB rfl rfl rfl (by omega)) ?_
   simp only [PA]
   obtain ⟨un,hun⟩:∃ z:Nat,ls.getD (i+1) 0=z:=⟨_,rfl⟩
   refine anyT_here (i:=8) (.int .u32 ((un:Nat):Int)) rfl (by kernel_rfl) (by kernel_rfl) (by kernel_rfl) (by kernel_rfl) (fun _ _ _ h=>hQp _ _ _ _ _ h) rfl (CT (run_loadB rfl rfl (D.at_ _ (MI (i:=3) rfl)) (by first | omega | (have:=hlen; omega))) (vnat hun)) ?_
   simp only [PA]
   refine anyT_here (i:=9) (J ((s:Nat):Int)) rfl (by kernel_rfl) (by kernel_rfl) (by kernel_rfl) (by kernel_rfl) (fun _ _ _ h=>hQp _ _ _ _ _ h) rfl rfl ?_
   simp only [PA]
   refine anyT_here (i:=10) (J ((32 - s:Nat):Int)) rfl (by kernel_rfl) (by kernel_rfl) (by kernel_rfl) (by kernel_rfl) (fun _ _ _ h=>hQp _ _ _ _ _ h) rfl (CT (run_bin (J 32) (J ((s:Nat):Int)) _ rfl rfl rfl (bin_sub_106 _ _ _ _)) (vint (w_sub (m:=32) (n:=s) (by omega) (by omega)))) ?_
   simp only [PA]
   obtain ⟨t,F⟩:∃ z:Nat,un * 2 ^ (32 - s) % BW=z:=⟨_,rfl⟩
   have hsw:=shr_word (y:=un) A huiB
   rw [hus,F] at hsw
   refine anyT_here (i:=11) (.int .u32 ((t:Nat):Int)) rfl (by kernel_rfl) (by kernel_rfl) (by kernel_rfl) (by kernel_rfl) (fun _ _ _ h=>hQp _ _ _ _ _ h) rfl (CT (run_bin (.int .u32 ((un:Nat):Int)) (J ((32 - s:Nat):Int)) _ rfl rfl rfl (bin_shl_100_u64 _ _ _ _)) ((vint w_shl_32).trans (vnat (by rw [X]; exact F)))) ?_
   simp only [PA]
   obtain ⟨uv,ag⟩:∃ z:Nat,us+t=z:=⟨_,rfl⟩
   refine anyT_here (i:=12) (.int .u32 ((uv:Nat):Int)) rfl (by kernel_rfl) (by kernel_rfl) (by kernel_rfl) (by kernel_rfl) (fun _ _ _ h=>hQp _ _ _ _ _ h) rfl (CT (run_bin (.int .u32 ((us:Nat):Int)) (.int .u32 ((t:Nat):Int)) _ rfl rfl rfl (bin_or_100 _ _ _ _)) ((vint (bits_or32 hsw.1 (by rw [← F]; exact Nat.mod_lt _ BW_pos))).trans (vnat (hsw.2.1.trans ag)))) ?_
   simp only [PA]
   refine anyT_here (i:=13) (.pointer (some ⟨p,i,none⟩)) rfl (by kernel_rfl) (by kernel_rfl) (by kernel_rfl) (by kernel_rfl) (fun _ _ _ h=>hQp _ _ _ _ _ h) rfl (run_idxB rfl rfl rfl (by omega)) ?_
   simp only [PA]
   refine anyT_one (i:=14) rfl (by kernel_rfl) rfl fun K hK=>o_stB 0 (uv) ([⟨p,wc (((((rl).set (i) (us))).set (i) (uv))),100⟩,⟨r,wc (outs),100⟩,⟨q,wc (vl),100⟩,⟨o,wc (ls),100⟩]) rfl rfl rfl D rfl (by first | omega | (simp only [List.length_set]; omega) | (simp only [List.length_set]; have:=hR.1; omega)) rfl fun ax ah=>hK _ _ (fun h=>absurd h (by decide)) ?_
   simp only [PA]
   refine anyT_done (by kernel_rfl) ?_ _
   refine N _ _ ?_
   refine wp_region_lit ?_
   refine PV (I ((i+1:Nat):Int)) (CT (run_bin (I ((i:Nat):Int)) (I 1) _ rfl rfl rfl (bin_add_3 _ _ _ _)) (vint (i_add (m:=i) (n:=1) (by omega)))) rfl ?_
   simp only [PA]
   refine PV (I ((i+1:Nat):Int)) rfl rfl ?_
   simp only [PA]
   refine wpList_nil ?_
   exact ⟨k - (i+1),by omega,i+1,((((rl).set (i) (us))).set (i) (uv)),[I ((i:Nat):Int),T true,I ((i:Nat):Int),E (some ⟨p,0,none⟩) k k,I ((i:Nat):Int),E (some ⟨o,0,none⟩) n1 n1,I ((i:Nat):Int),.pointer (some ⟨o,i,none⟩),.int .u32 ((ui:Nat):Int),J ((s:Nat):Int),.int .u32 ((us:Nat):Int),.pointer (some ⟨p,i,none⟩),J ((s:Nat):Int),T true,E (some ⟨p,0,none⟩) k k,I ((i:Nat):Int),.pointer (some ⟨p,i,none⟩),.int .u32 ((us:Nat):Int),E (some ⟨o,0,none⟩) n1 n1,I ((i:Nat):Int),I ((i+1:Nat):Int),.pointer (some ⟨o,i+1,none⟩),.int .u32 ((un:Nat):Int),J ((s:Nat):Int),J ((32 - s:Nat):Int),.int .u32 ((t:Nat):Int),.int .u32 ((uv:Nat):Int),.pointer (some ⟨p,i,none⟩),I ((i+1:Nat):Int)],rfl,ah,by omega,by rw [List.set_set]; exact hR.next A hL.dig (by omega) hui hun (by omega),rfl⟩
  ·skip
   refine PV (T false) (CT (run_bin (J ((s:Nat):Int)) (J 0) _ rfl rfl rfl (bin_gtr_106 _ _ _ _)) (congrArg Value.bool (decide_eq_false S))) rfl ?_
   simp only [PA]
   refine wpList_nil ?_
   refine R _ _ ?_
   refine cond_false rfl ?_
   refine wp_skip ?_
   refine N _ _ ?_
   refine wp_region_lit ?_
   refine PV (I ((i+1:Nat):Int)) (CT (run_bin (I ((i:Nat):Int)) (I 1) _ rfl rfl rfl (bin_add_3 _ _ _ _)) (vint (i_add (m:=i) (n:=1) (by omega)))) rfl ?_
   simp only [PA]
   refine PV (I ((i+1:Nat):Int)) rfl rfl ?_
   simp only [PA]
   refine wpList_nil ?_
   exact ⟨k - (i+1),by omega,i+1,((rl).set (i) (us)),[I ((i:Nat):Int),T true,I ((i:Nat):Int),E (some ⟨p,0,none⟩) k k,I ((i:Nat):Int),E (some ⟨o,0,none⟩) n1 n1,I ((i:Nat):Int),.pointer (some ⟨o,i,none⟩),.int .u32 ((ui:Nat):Int),J ((s:Nat):Int),.int .u32 ((us:Nat):Int),.pointer (some ⟨p,i,none⟩),J ((s:Nat):Int),T false,(GD g 14),(GD g 15),(GD g 16),(GD g 17),(GD g 18),(GD g 19),(GD g 20),(GD g 21),(GD g 22),(GD g 23),(GD g 24),(GD g 25),(GD g 26),(GD g 27),I ((i+1:Nat):Int)],rfl,P,by omega,hR.next A hL.dig (by omega) hui rfl (shr_s0 (by omega) hus),rfl⟩
 ·skip
  refine PV (T false) (CT (run_bin (I ((i:Nat):Int)) (I (k:Int)) _ rfl rfl rfl (bin_lss_3 _ _ _ _)) (congrArg Value.bool (decide_eq_false L))) rfl ?_
  simp only [PA]
  refine wpList_nil ?_
  refine H _ _ ?_
  refine wp_seq_k fun ay az=>?_
  refine cond_false rfl ?_
  refine wp_exit ?_
  exact ⟨rl,[(GD g 0),I ((i:Nat):Int),T false,(GD g 2),(GD g 3),(GD g 4),(GD g 5),(GD g 6),(GD g 7),(GD g 8),(GD g 9),(GD g 10),(GD g 11),(GD g 12),(GD g 13),(GD g 14),(GD g 15),(GD g 16),(GD g 17),(GD g 18),(GD g 19),(GD g 20),(GD g 21),(GD g 22),(GD g 23),(GD g 24),(GD g 25),(GD g 26),(GD g 27),(GD g 28)],rfl,C,hR.1,hR.2.1,by have V:=hR.2.2; rw [show i=k by omega] at V; exact shr_end hR.1 Y aa V,trivial⟩
end Go.Proofs.Ythhgjloephkpaaa
namespace Go.Proofs.Ythhgjloephkpaaa
set_option linter.unusedVariables false
set_option linter.unusedSimpArgs false
open Go Go.RowKit Go.Proofs.YthhgjloephkpaaaW.PrintWords Go.Proofs.YthhgjloephkpaaaW.PrintLast
set_option maxRecDepth 100000 in
set_option maxHeartbeats 16000000 in
theorem quo_C {ad bd:Addr} {n n1 k c d x y kk k2 nk M yt:Nat} {w:World} (hx:Wds w (some ad) n c (dg x)) (hy:Wds w (some bd) k d (dg y)) (hxy:¬ x<y) (hk:2≤k) (hkn:k≤n) (hnm:n≤1000000000) (hkk:kk+1=k) (p:k2+2=k) (q:n1=n+1) (hnk:nk+k=n) (hM:M=nk+1) (hxl:(dg x).length=n) (hyl:(dg y).length=k) (hyt:(dg y).getD kk 0=yt) (C:0<yt) (hytB:yt<BW):Calls Try.prog 117 #[E (some ad) n c,E (some bd) k d] w (RetRR w (x / y) (x % y)):=by
 go_enter Try.func117,Try.ntmps117
 have D:=St.start w
 refine wp_seq_k fun K1 F=>?_
 refine wp_region_lit ?_
 refine PV (E none 0 0) rfl rfl ?_
 simp only [PA]
 refine PV (E none 0 0) rfl rfl ?_
 simp only [PA]
 refine wpList_nil ?_
 refine F _ _ ?_
 refine wp_seq_k fun K3 G=>?_
 refine wp_seq_k fun K5 H=>?_
 refine wp_region_lit ?_
 refine PV (E (some ad) n c) rfl rfl ?_
 simp only [PA]
 refine PV (E (some bd) k d) rfl rfl ?_
 simp only [PA]
 refine wpList_plain rfl fun K hK=>o_call 114 _ #[E (some ad) n c,E (some bd) k d] Try.func114 (by kernel_rfl) rfl rfl rfl D (cmpWords_c hx hy) fun v7 w9 L A aG=>?_
 subst L
 refine hK _ _ ?_
 simp only [PA]
 refine PV (T false) (CT (run_bin (I (cmpN (x) (y))) (I 0) _ rfl rfl rfl (bin_lss_3 _ _ _ _)) (congrArg Value.bool (cmpN_nlss hxy))) rfl ?_
 simp only [PA]
 refine wpList_nil ?_
 refine H _ _ ?_
 refine cond_false rfl ?_
 refine wp_skip ?_
 refine G _ _ ?_
 refine wp_seq_k fun aH N=>?_
 refine wp_seq_k fun aK P=>?_
 refine wp_region_lit ?_
 refine PV (E (some bd) k d) rfl rfl ?_
 simp only [PA]
 refine PV (I (k:Int)) (run_len36 rfl rfl) rfl ?_
 simp only [PA]
 refine PV (T false) (CT (run_bin (I (k:Int)) (I 1) _ rfl rfl rfl (bin_eql_3 _ _ _ _)) (congrArg Value.bool (beq_eq_false_iff_ne.2 (by omega)))) rfl ?_
 simp only [PA]
 refine wpList_nil ?_
 refine P _ _ ?_
 refine cond_false rfl ?_
 refine wp_skip ?_
 refine N _ _ ?_
 refine wp_seq_k fun aL Q=>?_
 refine wp_region_lit ?_
 refine PV (E (some bd) k d) rfl rfl ?_
 simp only [PA]
 refine PV (E (some bd) k d) rfl rfl ?_
 simp only [PA]
 refine PV (I (k:Int)) (run_len36 rfl rfl) rfl ?_
 simp only [PA]
 refine PV (I ((kk:Nat):Int)) (CT (run_bin (I (k:Int)) (I 1) _ rfl rfl rfl (bin_sub_3 _ _ _ _)) (vint (by rw [IntKind.wrap_i64]; omega))) rfl ?_
 simp only [PA]
 refine PV (.pointer (some (bd.add kk))) (run_idx (t:=36) rfl rfl rfl (by omega)) rfl ?_
 simp only [PA]
 refine PV (.int .u32 ((yt:Nat):Int)) (CT (run_loadW _ rfl rfl ((hy.below A.bl).cellA (by first | omega)) (ag100 _)) (vnat hyt)) rfl ?_
 simp only [PA]
 refine wpList_plain rfl fun K hK=>o_call 123 _ #[.int .u32 ((yt:Nat):Int)] Try.func123 (by kernel_rfl) rfl rfl rfl A (lz_c C hytB) fun aM aN R S aP=>?_
 obtain ⟨s,rfl,m,hsl,hsu⟩:=R
 have r:min s 32=s:=Nat.min_eq_left (by omega)
 have v:min (32 - s) 32=32 - s:=Nat.min_eq_left (by omega)
 have hYB:=ytop hyl (by omega) (by rw [show k - 1=kk by omega,hyt]; exact hsu) m
 refine hK _ _ ?_
 simp only [PA]
 refine PV (J ((s:Nat):Int)) (run_cv _ rfl rfl rfl rfl (wrap_u64 (by omega))) rfl ?_
 simp only [PA]
 refine PV (J ((s:Nat):Int)) rfl rfl ?_
 simp only [PA]
 refine wpList_nil ?_
 refine Q _ _ ?_
 refine wp_seq_k fun aQ V=>?_
 refine wp_region_lit ?_
 refine PV (E (some ad) n c) rfl rfl ?_
 simp only [PA]
 refine PV (I (n:Int)) (run_len36 rfl rfl) rfl ?_
 simp only [PA]
 refine PV (I ((n1:Nat):Int)) (CT (run_bin (I (n:Int)) (I 1) _ rfl rfl rfl (bin_add_3 _ _ _ _)) (vint (by rw [IntKind.wrap_i64]; omega))) rfl ?_
 simp only [PA]
 refine wpList_plain rfl fun K hK=>o_make36 (n1) rfl rfl rfl (by omega) S fun g aR W aS=>hK _ _ ?_
 simp only [PA]
 refine PV (E (some ⟨g,0,none⟩) n1 n1) rfl rfl ?_
 simp only [PA]
 refine wpList_nil ?_
 refine V _ _ ?_
 refine wp_seq_k fun aU X=>?_
 refine wp_region_lit ?_
 refine PV (E (some bd) k d) rfl rfl ?_
 simp only [PA]
 refine PV (I (k:Int)) (run_len36 rfl rfl) rfl ?_
 simp only [PA]
 refine wpList_plain rfl fun K hK=>o_make36 (k) rfl rfl rfl (by omega) W fun j aV Y aW=>hK _ _ ?_
 simp only [PA]
 refine PV (E (some ⟨j,0,none⟩) k k) rfl rfl ?_
 simp only [PA]
 refine wpList_nil ?_
 refine X _ _ ?_
 refine wp_seq_k fun aX aa=>?_
 refine wp_seq_k fun aY ab=>?_
 refine wp_region_lit ?_
 refine PV (E (some bd) k d) rfl rfl ?_
 simp only [PA]
 refine PV (I (k:Int)) (run_len36 rfl rfl) rfl ?_
 simp only [PA]
 refine PV (I 0) rfl rfl ?_
 simp only [PA]
 refine wpList_nil ?_
 refine ab _ _ ?_
 refine wp_cut (fun aa_ w'=>∃ (vl:List Nat) (b:List Value),aa_=⟨#[E (some ad) n c,E (some bd) k d,O,O,E none 0 0,E none 0 0,O,O,O,O,J ((s:Nat):Int),E (some ⟨g,0,none⟩) n1 n1,E (some ⟨j,0,none⟩) k k,(GD b 0),O,O,O,O,O,O,O,O,O,O,O,O,O,O,O,O,O,O,E (some ad) n c,E (some bd) k d,I (cmpN (x) (y)),T false,O,O,E (some bd) k d,I (k:Int),T false,O,O,O,O,O,O,O,O,O,O,O,O,O,O,O,O,O,O,O,O,O,O,O,O,O,O,O,O,O,O,O,O,O,O,O,O,O,O,E (some bd) k d,E (some bd) k d,I (k:Int),I ((kk:Nat):Int),.pointer (some (bd.add kk)),.int .u32 ((yt:Nat):Int),I ((s:Nat):Int),J ((s:Nat):Int),E (some ad) n c,I (n:Int),I ((n1:Nat):Int),E (some ⟨g,0,none⟩) n1 n1,E (some bd) k d,I (k:Int),E (some ⟨j,0,none⟩) k k,E (some bd) k d,I (k:Int),(GD b 1),(GD b 2),(GD b 3),(GD b 4),(GD b 5),(GD b 6),(GD b 7),(GD b 8),(GD b 9),(GD b 10),(GD b 11),(GD b 12),(GD b 13),(GD b 14),(GD b 15),(GD b 16),(GD b 17),(GD b 18),(GD b 19),(GD b 20),(GD b 21),(GD b 22),(GD b 23),(GD b 24),(GD b 25),(GD b 26),(GD b 27),(GD b 28),(GD b 29),(GD b 30),(GD b 31),(GD b 32),(GD b 33),O,O,O,O,O,O,O,O,O,O,O,O,O,O,O,O,O,O,O,O,O,O,O,O,O,O,O,O,O,O,O,O,O,O,O,O,O,O,O,O,O,O,O,O,O,O,O,O,O,O,O,O,O,O,O,O,O,O,O,O,O,O,O,O,O,O,O,O,O,O,O,O,O,O,O,O,O,O,O,O,O,O,O,O,O,O,O,O,O,O,O,O,O,O,O,O,O,O,O,O,O,O,O,O,O,O,O,O,O,O,O,O,O,O,O,O,O,O,O,O,O,O,O,O,O,O,O,O,O,O,O,O,O,O,O,O,O,O,O,O,O,O,O,O,O,O,O,O,O,O,O,O,O,O,O,O,O,O,O,O,O,O,O,O,O,O,O,O,O,O,O,O,O,O,O,O,O,O,O,O,O,O,O,O,O,O,O,O,O,O,O,O,O,O,O,O,O,O,O,O,O,O,O,O,O,O,O,O,O,O,O,O,O,O,O,O,O,O,O,O,O,O,O,O,O,O,O,O,O,O,O,O,O,O,O,O,O,O,O,O,O,O,O,O,O,O,O,O,O,O,O,O,O,O,O,O,O,O,O,O,O,O,O],[]⟩∧St w w' [⟨j,wc (vl),100⟩,⟨g,wc (List.replicate n1 0),100⟩]∧(vl.length=k)∧(Dig vl)∧(val vl=y * 2 ^ s)∧True) (qc_v hx hy hk hkn hnm hkk p q hnk hM hxl hyl m r v hYB Y (fun _ _ d _ _ h=>by cases d <;> exact h)) ?_
 rintro _ aB ⟨vl,b,rfl,ac,hvlen,hvD,hvv,-⟩
 obtain ⟨hYl,hYk⟩:=ylen hyl (by omega) hvv (by rw [show k - 1=kk by omega,hyt]; exact hsl) (by rw [show k - 1=kk by omega,hyt]; exact hsu) m
 have hYBv:val vl<BW ^ k:=by rw [hvv]; exact hYB
 refine aa _ _ ?_
 refine wp_seq_k fun aE ae=>?_
 refine wp_seq_k fun aI af=>?_
 refine wp_region_lit ?_
 refine PV (E (some ⟨g,0,none⟩) n1 n1) rfl rfl ?_
 simp only [PA]
 refine PV (I (n1:Int)) (run_len36 rfl rfl) rfl ?_
 simp only [PA]
 refine PV (I 0) rfl rfl ?_
 simp only [PA]
 refine wpList_nil ?_
 refine af _ _ ?_
 refine wp_cut (fun aa_ w'=>∃ (ul:List Nat) (e:List Value),aa_=⟨#[E (some ad) n c,E (some bd) k d,O,O,E none 0 0,E none 0 0,O,O,O,O,J ((s:Nat):Int),E (some ⟨g,0,none⟩) n1 n1,E (some ⟨j,0,none⟩) k k,(GD b 0),(GD e 0),O,O,O,O,O,O,O,O,O,O,O,O,O,O,O,O,O,E (some ad) n c,E (some bd) k d,I (cmpN (x) (y)),T false,O,O,E (some bd) k d,I (k:Int),T false,O,O,O,O,O,O,O,O,O,O,O,O,O,O,O,O,O,O,O,O,O,O,O,O,O,O,O,O,O,O,O,O,O,O,O,O,O,O,E (some bd) k d,E (some bd) k d,I (k:Int),I ((kk:Nat):Int),.pointer (some (bd.add kk)),.int .u32 ((yt:Nat):Int),I ((s:Nat):Int),J ((s:Nat):Int),E (some ad) n c,I (n:Int),I ((n1:Nat):Int),E (some ⟨g,0,none⟩) n1 n1,E (some bd) k d,I (k:Int),E (some ⟨j,0,none⟩) k k,E (some bd) k d,I (k:Int),(GD b 1),(GD b 2),(GD b 3),(GD b 4),(GD b 5),(GD b 6),(GD b 7),(GD b 8),(GD b 9),(GD b 10),(GD b 11),(GD b 12),(GD b 13),(GD b 14),(GD b 15),(GD b 16),(GD b 17),(GD b 18),(GD b 19),(GD b 20),(GD b 21),(GD b 22),(GD b 23),(GD b 24),(GD b 25),(GD b 26),(GD b 27),(GD b 28),(GD b 29),(GD b 30),(GD b 31),(GD b 32),(GD b 33),E (some ⟨g,0,none⟩) n1 n1,I (n1:Int),(GD e 1),(GD e 2),(GD e 3),(GD e 4),(GD e 5),(GD e 6),(GD e 7),(GD e 8),(GD e 9),(GD e 10),(GD e 11),(GD e 12),(GD e 13),(GD e 14),(GD e 15),(GD e 16),(GD e 17),(GD e 18),(GD e 19),(GD e 20),(GD e 21),(GD e 22),(GD e 23),(GD e 24),(GD e 25),(GD e 26),(GD e 27),(GD e 28),(GD e 29),(GD e 30),(GD e 31),(GD e 32),(GD e 33),(GD e 34),(GD e 35),(GD e 36),(GD e 37),O,O,O,O,O,O,O,O,O,O,O,O,O,O,O,O,O,O,O,O,O,O,O,O,O,O,O,O,O,O,O,O,O,O,O,O,O,O,O,O,O,O,O,O,O,O,O,O,O,O,O,O,O,O,O,O,O,O,O,O,O,O,O,O,O,O,O,O,O,O,O,O,O,O,O,O,O,O,O,O,O,O,O,O,O,O,O,O,O,O,O,O,O,O,O,O,O,O,O,O,O,O,O,O,O,O,O,O,O,O,O,O,O,O,O,O,O,O,O,O,O,O,O,O,O,O,O,O,O,O,O,O,O,O,O,O,O,O,O,O,O,O,O,O,O,O,O,O,O,O,O,O,O,O,O,O,O,O,O,O,O,O,O,O,O,O,O,O,O,O,O,O,O,O,O,O,O,O,O,O,O,O,O,O,O,O,O,O,O,O,O,O,O,O,O,O,O,O,O,O,O,O,O,O,O,O,O,O,O,O,O,O,O,O,O,O,O,O,O,O,O,O,O,O],[]⟩∧St w w' [⟨j,wc (vl),100⟩,⟨g,wc (ul),100⟩]∧(ul.length=n1)∧(Dig ul)∧(val ul=x * 2 ^ s)∧True) (qc_u hx hy hk hkn hnm hkk p q hnk hM hxl hyl m r v hYB ac (fun _ _ d _ _ h=>by cases d <;> exact h)) ?_
 rintro _ aT ⟨ul,e,rfl,ag,hulen,huD,huv,-⟩
 refine ae _ _ ?_
 refine wp_seq_k fun aO ah=>?_
 refine wp_region_lit ?_
 refine PV (E (some ⟨j,0,none⟩) k k) rfl rfl ?_
 simp only [PA]
 refine PV (I (k:Int)) (run_len36 rfl rfl) rfl ?_
 simp only [PA]
 refine PV (I (k:Int)) rfl rfl ?_
 simp only [PA]
 refine wpList_nil ?_
 refine ah _ _ ?_
 refine wp_seq_k fun aJ ai=>?_
 refine wp_region_lit ?_
 refine PV (E (some ad) n c) rfl rfl ?_
 simp only [PA]
 refine PV (I (n:Int)) (run_len36 rfl rfl) rfl ?_
 simp only [PA]
 refine PV (I (k:Int)) rfl rfl ?_
 simp only [PA]
 refine PV (I ((nk:Nat):Int)) (CT (run_bin (I (n:Int)) (I (k:Int)) _ rfl rfl rfl (bin_sub_3 _ _ _ _)) (vint (by rw [IntKind.wrap_i64]; omega))) rfl ?_
 simp only [PA]
 refine PV (I ((M:Nat):Int)) (CT (run_bin (I ((nk:Nat):Int)) (I 1) _ rfl rfl rfl (bin_add_3 _ _ _ _)) (vint (by rw [IntKind.wrap_i64]; omega))) rfl ?_
 simp only [PA]
 refine wpList_plain rfl fun K hK=>o_make36 (M) rfl rfl rfl (by omega) ag fun l aZ aj a0=>hK _ _ ?_
 simp only [PA]
 refine PV (E (some ⟨l,0,none⟩) M M) rfl rfl ?_
 simp only [PA]
 refine wpList_nil ?_
 refine ai _ _ ?_
 refine wp_seq_k fun a1 al=>?_
 refine wp_seq_k fun a2 am=>?_
 refine wp_region_lit ?_
 refine PV (E (some ad) n c) rfl rfl ?_
 simp only [PA]
 refine PV (I (n:Int)) (run_len36 rfl rfl) rfl ?_
 simp only [PA]
 refine PV (I (k:Int)) rfl rfl ?_
 simp only [PA]
 refine PV (I (((M:Nat):Int) - 1)) (CT (run_bin (I (n:Int)) (I (k:Int)) _ rfl rfl rfl (bin_sub_3 _ _ _ _)) (vint (by rw [IntKind.wrap_i64]; omega))) rfl ?_
 simp only [PA]
 refine PV (I (((M:Nat):Int) - 1)) rfl rfl ?_
 simp only [PA]
 refine wpList_nil ?_
 refine am _ _ ?_
 refine wp_cut (fun aa_ w'=>∃ (ls:List Nat) (outs:List Nat) (a:List Value),aa_=⟨#[E (some ad) n c,E (some bd) k d,O,O,E none 0 0,E none 0 0,O,O,O,O,J ((s:Nat):Int),E (some ⟨g,0,none⟩) n1 n1,E (some ⟨j,0,none⟩) k k,(GD b 0),(GD e 0),I (k:Int),E (some ⟨l,0,none⟩) M M,(GD a 0),(GD a 1),(GD a 2),(GD a 3),(GD a 4),(GD a 5),(GD a 6),(GD a 7),(GD a 8),(GD a 9),(GD a 10),(GD a 11),(GD a 12),O,O,E (some ad) n c,E (some bd) k d,I (cmpN (x) (y)),T false,O,O,E (some bd) k d,I (k:Int),T false,O,O,O,O,O,O,O,O,O,O,O,O,O,O,O,O,O,O,O,O,O,O,O,O,O,O,O,O,O,O,O,O,O,O,O,O,O,O,E (some bd) k d,E (some bd) k d,I (k:Int),I ((kk:Nat):Int),.pointer (some (bd.add kk)),.int .u32 ((yt:Nat):Int),I ((s:Nat):Int),J ((s:Nat):Int),E (some ad) n c,I (n:Int),I ((n1:Nat):Int),E (some ⟨g,0,none⟩) n1 n1,E (some bd) k d,I (k:Int),E (some ⟨j,0,none⟩) k k,E (some bd) k d,I (k:Int),(GD b 1),(GD b 2),(GD b 3),(GD b 4),(GD b 5),(GD b 6),(GD b 7),(GD b 8),(GD b 9),(GD b 10),(GD b 11),(GD b 12),(GD b 13),(GD b 14),(GD b 15),(GD b 16),(GD b 17),(GD b 18),(GD b 19),(GD b 20),(GD b 21),(GD b 22),(GD b 23),(GD b 24),(GD b 25),(GD b 26),(GD b 27),(GD b 28),(GD b 29),(GD b 30),(GD b 31),(GD b 32),(GD b 33),E (some ⟨g,0,none⟩) n1 n1,I (n1:Int),(GD e 1),(GD e 2),(GD e 3),(GD e 4),(GD e 5),(GD e 6),(GD e 7),(GD e 8),(GD e 9),(GD e 10),(GD e 11),(GD e 12),(GD e 13),(GD e 14),(GD e 15),(GD e 16),(GD e 17),(GD e 18),(GD e 19),(GD e 20),(GD e 21),(GD e 22),(GD e 23),(GD e 24),(GD e 25),(GD e 26),(GD e 27),(GD e 28),(GD e 29),(GD e 30),(GD e 31),(GD e 32),(GD e 33),(GD e 34),(GD e 35),(GD e 36),(GD e 37),E (some ⟨j,0,none⟩) k k,I (k:Int),E (some ad) n c,I (n:Int),I (k:Int),I ((nk:Nat):Int),I ((M:Nat):Int),E (some ⟨l,0,none⟩) M M,E (some ad) n c,I (n:Int),I (k:Int),I (((M:Nat):Int) - 1),(GD a 13),(GD a 14),(GD a 15),(GD a 16),(GD a 17),(GD a 18),(GD a 19),(GD a 20),(GD a 21),(GD a 22),(GD a 23),(GD a 24),(GD a 25),(GD a 26),(GD a 27),(GD a 28),(GD a 29),(GD a 30),(GD a 31),(GD a 32),(GD a 33),(GD a 34),(GD a 35),(GD a 36),(GD a 37),(GD a 38),(GD a 39),(GD a 40),(GD a 41),(GD a 42),(GD a 43),(GD a 44),(GD a 45),(GD a 46),(GD a 47),(GD a 48),(GD a 49),(GD a 50),(GD a 51),(GD a 52),(GD a 53),(GD a 54),(GD a 55),(GD a 56),(GD a 57),(GD a 58),(GD a 59),(GD a 60),(GD a 61),(GD a 62),(GD a 63),(GD a 64),(GD a 65),(GD a 66),(GD a 67),(GD a 68),(GD a 69),(GD a 70),(GD a 71),(GD a 72),(GD a 73),(GD a 74),(GD a 75),(GD a 76),(GD a 77),(GD a 78),(GD a 79),(GD a 80),(GD a 81),(GD a 82),(GD a 83),(GD a 84),(GD a 85),(GD a 86),(GD a 87),(GD a 88),(GD a 89),(GD a 90),(GD a 91),(GD a 92),(GD a 93),(GD a 94),(GD a 95),(GD a 96),(GD a 97),(GD a 98),(GD a 99),(GD a 100),(GD a 101),(GD a 102),(GD a 103),(GD a 104),(GD a 105),(GD a 106),(GD a 107),(GD a 108),(GD a 109),(GD a 110),(GD a 111),(GD a 112),(GD a 113),(GD a 114),(GD a 115),(GD a 116),(GD a 117),(GD a 118),(GD a 119),(GD a 120),(GD a 121),(GD a 122),(GD a 123),(GD a 124),(GD a 125),(GD a 126),(GD a 127),(GD a 128),(GD a 129),(GD a 130),(GD a 131),(GD a 132),(GD a 133),(GD a 134),(GD a 135),(GD a 136),(GD a 137),(GD a 138),(GD a 139),(GD a 140),(GD a 141),(GD a 142),(GD a 143),(GD a 144),(GD a 145),(GD a 146),(GD a 147),(GD a 148),(GD a 149),(GD a 150),(GD a 151),(GD a 152),(GD a 153),(GD a 154),(GD a 155),(GD a 156),(GD a 157),(GD a 158),(GD a 159),(GD a 160),(GD a 161),(GD a 162),(GD a 163),(GD a 164),(GD a 165),(GD a 166),(GD a 167),(GD a 168),(GD a 169),(GD a 170),(GD a 171),(GD a 172),(GD a 173),(GD a 174),(GD a 175),(GD a 176),(GD a 177),(GD a 178),(GD a 179),(GD a 180),(GD a 181),(GD a 182),(GD a 183),(GD a 184),(GD a 185),(GD a 186),(GD a 187),(GD a 188),(GD a 189),(GD a 190),O,O,O,O,O,O,O,O,O,O,O,O,O,O,O,O,O,O,O,O,O,O,O,O,O,O,O,O,O,O,O,O,O,O],[]⟩∧St w w' [⟨l,wc (outs),100⟩,⟨j,wc (vl),100⟩,⟨g,wc (ls),100⟩]∧(Long (x * 2 ^ s) (val vl) k 0 M ls outs)∧True) (qc_main hx hy hk hkn hnm hkk p q hnk hM hxl hyl m r v hvlen hvD hYl hYBv hulen huD huv aj (fun _ _ d _ _ h=>by cases d <;> exact h)) ?_
 rintro _ a3 ⟨ls,outs,a,rfl,an,hL,-⟩
 have hlen:ls.length=n1:=by have:=hL.len; omega
 have hz:=below_zero (ls:=ls) (k:=k) (by omega) (by have:=hL.lt; rwa [List.drop_zero] at this) hYBv
 have ao:=zero_at hz
 have ap:=drop_zero hz
 refine al _ _ ?_
 refine wp_seq_k fun a4 aq=>?_
 refine wp_region_lit ?_
 refine PV (I (k:Int)) rfl rfl ?_
 simp only [PA]
 refine wpList_plain rfl fun K hK=>o_make36 (k) rfl rfl rfl (by omega) an fun o a5 ar a6=>hK _ _ ?_
 simp only [PA]
 refine PV (E (some ⟨o,0,none⟩) k k) rfl rfl ?_
 simp only [PA]
 refine wpList_nil ?_
 refine aq _ _ ?_
 refine wp_seq_k fun a7 au=>?_
 refine wp_seq_k fun a8 av=>?_
 refine wp_region_lit ?_
 refine PV (I (k:Int)) rfl rfl ?_
 simp only [PA]
 refine PV (I 0) rfl rfl ?_
 simp only [PA]
 refine wpList_nil ?_
 refine av _ _ ?_
 refine wp_cut (fun aa_ w'=>∃ (rl:List Nat) (f:List Value),aa_=⟨#[E (some ad) n c,E (some bd) k d,O,O,E none 0 0,E none 0 0,O,O,O,O,J ((s:Nat):Int),E (some ⟨g,0,none⟩) n1 n1,E (some ⟨j,0,none⟩) k k,(GD b 0),(GD e 0),I (k:Int),E (some ⟨l,0,none⟩) M M,(GD a 0),(GD a 1),(GD a 2),(GD a 3),(GD a 4),(GD a 5),(GD a 6),(GD a 7),(GD a 8),(GD a 9),(GD a 10),(GD a 11),(GD a 12),E (some ⟨o,0,none⟩) k k,(GD f 0),E (some ad) n c,E (some bd) k d,I (cmpN (x) (y)),T false,O,O,E (some bd) k d,I (k:Int),T false,O,O,O,O,O,O,O,O,O,O,O,O,O,O,O,O,O,O,O,O,O,O,O,O,O,O,O,O,O,O,O,O,O,O,O,O,O,O,E (some bd) k d,E (some bd) k d,I (k:Int),I ((kk:Nat):Int),.pointer (some (bd.add kk)),.int .u32 ((yt:Nat):Int),I ((s:Nat):Int),J ((s:Nat):Int),E (some ad) n c,I (n:Int),I ((n1:Nat):Int),E (some ⟨g,0,none⟩) n1 n1,E (some bd) k d,I (k:Int),E (some ⟨j,0,none⟩) k k,E (some bd) k d,I (k:Int),(GD b 1),(GD b 2),(GD b 3),(GD b 4),(GD b 5),(GD b 6),(GD b 7),(GD b 8),(GD b 9),(GD b 10),(GD b 11),(GD b 12),(GD b 13),(GD b 14),(GD b 15),(GD b 16),(GD b 17),(GD b 18),(GD b 19),(GD b 20),(GD b 21),(GD b 22),(GD b 23),(GD b 24),(GD b 25),(GD b 26),(GD b 27),(GD b 28),(GD b 29),(GD b 30),(GD b 31),(GD b 32),(GD b 33),E (some ⟨g,0,none⟩) n1 n1,I (n1:Int),(GD e 1),(GD e 2),(GD e 3),(GD e 4),(GD e 5),(GD e 6),(GD e 7),(GD e 8),(GD e 9),(GD e 10),(GD e 11),(GD e 12),(GD e 13),(GD e 14),(GD e 15),(GD e 16),(GD e 17),(GD e 18),(GD e 19),(GD e 20),(GD e 21),(GD e 22),(GD e 23),(GD e 24),(GD e 25),(GD e 26),(GD e 27),(GD e 28),(GD e 29),(GD e 30),(GD e 31),(GD e 32),(GD e 33),(GD e 34),(GD e 35),(GD e 36),(GD e 37),E (some ⟨j,0,none⟩) k k,I (k:Int),E (some ad) n c,I (n:Int),I (k:Int),I ((nk:Nat):Int),I ((M:Nat):Int),E (some ⟨l,0,none⟩) M M,E (some ad) n c,I (n:Int),I (k:Int),I (((M:Nat):Int) - 1),(GD a 13),(GD a 14),(GD a 15),(GD a 16),(GD a 17),(GD a 18),(GD a 19),(GD a 20),(GD a 21),(GD a 22),(GD a 23),(GD a 24),(GD a 25),(GD a 26),(GD a 27),(GD a 28),(GD a 29),(GD a 30),(GD a 31),(GD a 32),(GD a 33),(GD a 34),(GD a 35),(GD a 36),(GD a 37),(GD a 38),(GD a 39),(GD a 40),(GD a 41),(GD a 42),(GD a 43),(GD a 44),(GD a 45),(GD a 46),(GD a 47),(GD a 48),(GD a 49),(GD a 50),(GD a 51),(GD a 52),(GD a 53),(GD a 54),(GD a 55),(GD a 56),(GD a 57),(GD a 58),(GD a 59),(GD a 60),(GD a 61),(GD a 62),(GD a 63),(GD a 64),(GD a 65),(GD a 66),(GD a 67),(GD a 68),(GD a 69),(GD a 70),(GD a 71),(GD a 72),(GD a 73),(GD a 74),(GD a 75),(GD a 76),(GD a 77),(GD a 78),(GD a 79),(GD a 80),(GD a 81),(GD a 82),(GD a 83),(GD a 84),(GD a 85),(GD a 86),(GD a 87),(GD a 88),(GD a 89),(GD a 90),(GD a 91),(GD a 92),(GD a 93),(GD a 94),(GD a 95),(GD a 96),(GD a 97),(GD a 98),(GD a 99),(GD a 100),(GD a 101),(GD a 102),(GD a 103),(GD a 104),(GD a 105),(GD a 106),(GD a 107),(GD a 108),(GD a 109),(GD a 110),(GD a 111),(GD a 112),(GD a 113),(GD a 114),(GD a 115),(GD a 116),(GD a 117),(GD a 118),(GD a 119),(GD a 120),(GD a 121),(GD a 122),(GD a 123),(GD a 124),(GD a 125),(GD a 126),(GD a 127),(GD a 128),(GD a 129),(GD a 130),(GD a 131),(GD a 132),(GD a 133),(GD a 134),(GD a 135),(GD a 136),(GD a 137),(GD a 138),(GD a 139),(GD a 140),(GD a 141),(GD a 142),(GD a 143),(GD a 144),(GD a 145),(GD a 146),(GD a 147),(GD a 148),(GD a 149),(GD a 150),(GD a 151),(GD a 152),(GD a 153),(GD a 154),(GD a 155),(GD a 156),(GD a 157),(GD a 158),(GD a 159),(GD a 160),(GD a 161),(GD a 162),(GD a 163),(GD a 164),(GD a 165),(GD a 166),(GD a 167),(GD a 168),(GD a 169),(GD a 170),(GD a 171),(GD a 172),(GD a 173),(GD a 174),(GD a 175),(GD a 176),(GD a 177),(GD a 178),(GD a 179),(GD a 180),(GD a 181),(GD a 182),(GD a 183),(GD a 184),(GD a 185),(GD a 186),(GD a 187),(GD a 188),(GD a 189),(GD a 190),I (k:Int),E (some ⟨o,0,none⟩) k k,I (k:Int),(GD f 1),(GD f 2),(GD f 3),(GD f 4),(GD f 5),(GD f 6),(GD f 7),(GD f 8),(GD f 9),(GD f 10),(GD f 11),(GD f 12),(GD f 13),(GD f 14),(GD f 15),(GD f 16),(GD f 17),(GD f 18),(GD f 19),(GD f 20),(GD f 21),(GD f 22),(GD f 23),(GD f 24),(GD f 25),(GD f 26),(GD f 27),(GD f 28),(GD f 29),O,O],[]⟩∧St w w' [⟨o,wc (rl),100⟩,⟨l,wc (outs),100⟩,⟨j,wc (vl),100⟩,⟨g,wc (ls),100⟩]∧(rl.length=k)∧(Dig rl)∧(val rl=val ls / 2 ^ s)∧True) (qc_rest hx hy hk hkn hnm hkk p q hnk hM hxl hyl m r v hvlen hvD hYl hYBv hL hlen ao ap ar (fun _ _ d _ _ h=>by cases d <;> exact h)) ?_
 rintro _ a9 ⟨rl,f,rfl,z,hrl,hrD,hrv,-⟩
 refine au _ _ ?_
 refine wp_seq_k fun ba aw=>?_
 refine wp_region_lit ?_
 refine PV (E (some ⟨l,0,none⟩) M M) rfl rfl ?_
 simp only [PA]
 refine PV (E (some ⟨o,0,none⟩) k k) rfl rfl ?_
 simp only [PA]
 refine PV (E (some ⟨l,0,none⟩) M M) rfl rfl ?_
 simp only [PA]
 refine PV (E (some ⟨o,0,none⟩) k k) rfl rfl ?_
 simp only [PA]
 refine wpList_nil ?_
 refine aw _ _ ?_
 refine wp_ret ?_
 repeat (with_reducible first | refine then_ret ?_ | refine inBlock_ret ?_)
 refine bodyPost_ret (results_tmp2 rfl _ _ _) rfl ?_
 have hd:=hL.done
 rw [hvv] at hd
 obtain ⟨e1,e2⟩:=long_quo hd
 exact ⟨⟨_,rfl,_,_,rfl,⟨_,_,_,_,rfl,wds_len (z.at_ _ (List.mem_of_getElem? (i:=1) rfl)) ⟨hL.olen,by omega⟩,hL.odig,e1⟩,⟨_,_,_,_,rfl,wds_len (z.at_ _ (List.mem_of_getElem? (i:=0) rfl)) ⟨hrl,by omega⟩,hrD,hrv.trans e2⟩⟩,z.bl⟩
end Go.Proofs.Ythhgjloephkpaaa
