-- PRINTED BY print.sh 35421559b90ae4d0a3588c463048766b98c2df88dd9212a6774a882060cdf62d: not written by this session
import Derived.Test.YtihekdlcfohkkaaGreatDoorWApart
import Derived.Test.YtihekdlcfohkkaaGreatDoorWArr
namespace Go.Proofs.YtihekdlcfohkkaaGreatDoorW.PrintWords
open Go.RowKit
namespace Kd
section
variable {α:Type} {d:Kd α} {e base g n c:Nat} {ok:Nat→Prop} {w w0 W:World} {A:Option Addr} {xs:List α}
end
end Kd
end Go.Proofs.YtihekdlcfohkkaaGreatDoorW.PrintWords
